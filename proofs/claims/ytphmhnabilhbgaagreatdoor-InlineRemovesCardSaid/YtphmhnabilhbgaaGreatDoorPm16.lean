/-
  Part 16 of the proof: PAll, ValNames, ValNode, LinP, ValTree, ValTree2, ValidLaw, InVal1, InVal2, InLin, InLin2, InLin3, InVal3, InVal4, InChk, InSub, InOne1, InOne2.
-/
import Derived.Test.YtphmhnabilhbgaaGreatDoorPm15
import Derived.Laws.Bits64
namespace Go.Proofs.YtphmhnabilhbgaaGreatDoor
open Go.RowKit
theorem yN(b:agV)(i:Nat):b[i]?=(bL b)[i]?:=by
 unfold bL;rw[agt];by_cases h:i<b.size
 ·rw[getElem?_pos b i h,ags (xs:=b.data) (by exact h)];rfl
 ·rw[getElem?_neg b i h,Array.getElem?_eq_none (xs:=b.data) (by exact Nat.le_of_not_lt h)]
theorem qf(b:agV):b.size=(bL b).length:=by unfold bL;rw[agD];rfl
theorem sW{i:Nat}(h:i<9223372036854775807):a8 ((i:Int)+1)=((i+1:Nat):Int):=by
 unfold a8;rw[IntKind.wrap_i64]<;>omega
def lH(c:UInt8):Bool:=decide (97≤c.toNat)&&decide (c.toNat≤122)
def iJ(c:UInt8):Bool:=lH c||(decide (48≤c.toNat)&&decide (c.toNat≤57))||c.toNat==95
def q9(l:agU UInt8):Bool:=lr.any fun w=>bL w==l
def EL(l:agU UInt8):Bool:=decide (1≤l.length)&&(decide (l.length≤16)&&(!q9 l&&((l.take 1).all lH&&l.all iJ)))
def fF(s:agV):Bool:=EL (bL s)
theorem Pa(c:UInt8):IntKind.i32.wrap (c.toNat:Int)=(c.toNat:Int):=by
 have:=c.toNat_lt;rw[IntKind.wrap_i32]<;>omega
theorem nx{p q:Prop} [Decidable p] [Decidable q](h:p↔q):decide p=decide q:=decide_eq_decide.2 h
theorem iB(a b:Bool):(bif a then some b else some false)=some (a&&b):=by cases a<;>rfl
theorem l6(a b:Bool):(bif a then some true else some b)=some (a||b):=by cases a<;>rfl
theorem OB(N:Nat)(c:UInt8):xz N (c.toNat:Int)=some (lH c):=by
 unfold xz lH;rw[iB,af4,nx (q:=97≤c.toNat) (by omega),nx (p:=(c.toNat:Int)≤122) (q:=c.toNat≤122) (by omega)]
theorem abY(N:Nat)(c:UInt8):z6 N (c.toNat:Int)=some (decide (48≤c.toNat)&&decide (c.toNat≤57)):=by
 unfold z6;rw[iB,af4,nx (q:=48≤c.toNat) (by omega),nx (p:=(c.toNat:Int)≤57) (q:=c.toNat≤57) (by omega)]
theorem uy(n k:Nat):((n:Int)==(k:Int))=(n==k):=by
 rw[Bool.eq_iff_iff,beq_iff_eq,beq_iff_eq];omega
theorem YT(N:Nat)(c:UInt8):A3 N (c.toNat:Int)=some (iJ c):=by
 unfold A3 iJ;rw[OB,af4,abY,af4];have:=uy c.toNat 95;rw[show(((c.toNat:Int)==(95:Int)))=(c.toNat==95)from this];rw[l6,l6,af4,Bool.or_assoc]
theorem QO(N:Nat)(s:agV)(hs:s.size<9223372036854775807):∀(k i:Nat),i≤s.size→s.size-i<k→uj N s k (i:Int)=some ((i+(((bL s).drop i).takeWhile iJ).length:Nat):Int)
 |0,i,_,hk=>absurd hk (agy _)
 |k+1,i,hi,hk=>by
  rw[uj];by_cases aN:i<s.size
  ·have h1:decide ((i:Int)<(s.size:Int))=true:=agN (by omega);have h2:decide ((0:Int)≤(i:Int))=true:=agN (by omega);rw[h1,h2];simp only[cond_true,agx];have hl:i<(bL s).length:=by rw[←qf];exact aN
   rw[yN,af9 hl,List.drop_eq_getElem_cons hl,af4,Pa,YT,af4,af4];cases hw:iJ (bL s)[i]with
   |true=>
    simp only[cond_true];rw[sW (Nat.lt_trans aN hs),QO N s hs k (i+1) aN (by omega),List.takeWhile_cons_of_pos hw,af8]
    congr 2;omega
   |false=>
    simp only[cond_false];rw[List.takeWhile_cons_of_neg (by rw[hw];simp)];rfl
  ·have h1:decide ((i:Int)<(s.size:Int))=false:=agO (by omega);rw[h1];simp only[cond_false,af4];rw[List.drop_eq_nil_of_le (by rw[←qf];omega)];rfl
theorem acR(N:Nat)(s:agV)(hs:s.size<9223372036854775807)(hN:s.size<N):B4 N s=some ((((bL s).takeWhile iJ).length:Nat):Int):=by
 unfold B4;have:=QO N s hs N 0 (Nat.zero_le _) (by omega);rw[agF,agq]at this;exact this
theorem Sf{α:Type}(p:α→Bool):∀l:agU α,((l.takeWhile p).length==l.length)=l.all p
 |[]=>rfl
 |x::l=>by
  cases h:p x with
  |true=>
   rw[List.takeWhile_cons_of_pos h,agQ,h,Bool.true_and,←Sf p l];simp
  |false=>rw[List.takeWhile_cons_of_neg (by rw[h];simp),agQ,h];simp
theorem Hc(N:Nat)(v:agV):∀(l:agU agV)(k:Nat),∃z:Int,tq N v l k=some z∧decide (z≥0)=l.any fun w=>bL w==bL v
 |[],k=>⟨-1,rfl,rfl⟩
 |w::l,k=>by
  rw[tq,agR];have hc:(bL v==bL w)=(bL w==bL v):=by rw[Bool.eq_iff_iff,beq_iff_eq,beq_iff_eq];exact eq_comm
  cases h:bL v==bL w with
  |true=>rw[hc]at h;exact⟨k,rfl,by rw[h,Bool.true_or];exact agN (by omega)⟩
  |false=>
   obtain⟨z,h1,h2⟩:=Hc N v l (k+1);rw[hc]at h;exact⟨z,h1,by rw[h,Bool.false_or];exact h2⟩
theorem abX(N:Nat)(v:agV):As N v=some (q9 (bL v)):=by
 unfold As Jj qD Ae;obtain⟨z,h1,h2⟩:=Hc N v lr 0;rw[af4,h1,af4,af4,h2];rfl
theorem G5{α:Type}{l:agU α}(h:0<l.length):l.take 1=[l[0]]:=by
 cases l with
 |nil=>cases h
 |cons x l=>rfl
theorem od:bL (bs [])=[]:=rfl
theorem Em(N:Nat)(s:agV)(hN:16<N):ri N s=some (fF s):=by
 unfold ri fF EL;have hz:=qf s;by_cases h0:(bL s).length=0
 ·have:bL s=[]:=List.length_eq_zero_iff.1 h0;rw[this];rfl
 have cO:(bL s==bL (bs []))=false:=by
  rw[od,beq_eq_false_iff_ne];intro h;rw[h]at h0;exact h0 rfl
 rw[cO,agN (show 1≤(bL s).length by omega),Bool.true_and];simp only[cond_false];by_cases b9:(bL s).length≤16
 ·rw[agN (show(s.size:Int)≤16 by omega),agN b9,Bool.true_and];simp only[cond_true];have hl:0<(bL s).length:=by omega
  rw[yN,af9 hl,af4,Pa,OB,af4,acR N s (by omega) (by omega),af4,abX,af4];rw[hz,uy,Sf];have ht:(bL s).take 1=[(bL s)[0]]:=G5 hl;rw[ht,agQ,List.all_nil,Bool.and_true,iB,iB,af4]
  congr 1
  cases q9 (bL s)<;>cases lH (bL s)[0]<;>cases (bL s).all iJ<;>rfl
 ·rw[agO (show ¬(s.size:Int)≤16 by omega),agO b9];rfl
theorem ZL(N:Nat)(b:Bool):gv N b=some b:=by cases b<;>rfl
theorem aaW(a b:Bool):(bif a then some a else some b)=some (a||b):=by cases a<;>rfl
theorem Xv(a b:agU UInt8):(a==b)=(b==a):=by rw[Bool.eq_iff_iff,beq_iff_eq,beq_iff_eq];exact eq_comm
theorem WG(N:Nat)(v:agV):zl N v=some (q9 (bL v)):=by
 simp only[zl,ZL,aaW,q9,lr,agR,List.any_nil,Bool.or_false,Xv (bL v)]
theorem zh(n k:Nat):decide ((n:Int)<(k:Int))= !decide (k≤n):=by
 by_cases h:k≤n
 ·rw[agN h,agO (by omega)];rfl
 ·rw[agO h,agN (by omega)];rfl
theorem jG(n k:Nat):decide ((n:Int)>(k:Int))= !decide (n≤k):=by
 by_cases h:n≤k
 ·rw[agN h,agO (by omega)];rfl
 ·rw[agO h,agN (by omega)];rfl
theorem QV(n k:Nat):decide ((n:Int)≥(k:Int))=decide (k≤n):=nx (by omega)
theorem sR(n k:Nat):decide ((n:Int)≤(k:Int))=decide (n≤k):=nx (by omega)
theorem Ly(n k:Nat):((n:Int) !=(k:Int))= !(n==k):=by unfold bne;rw[uy]
theorem abl(c:UInt8):(bif (decide ((c.toNat:Int)<(97:Int)))then(bif (decide ((c.toNat:Int)<(48:Int)))then some ((c.toNat:Int) !=(95:Int))else(bif (decide ((c.toNat:Int)>(57:Int)))then some ((c.toNat:Int) !=(95:Int))else some false))else(bif (decide ((c.toNat:Int)>(122:Int)))then(bif (decide ((c.toNat:Int)<(48:Int)))then some ((c.toNat:Int) !=(95:Int))else(bif (decide ((c.toNat:Int)>(57:Int)))then some ((c.toNat:Int) !=(95:Int))else some false))else some false))=some (!iJ c):=by
 have a1:=zh c.toNat 97;have a2:=zh c.toNat 48;have a3:=jG c.toNat 57;have a4:=jG c.toNat 122;have a5:=Ly c.toNat 95;simp only[Int.cast_ofNat_Int]at a1 a2 a3 a4 a5;rw[a1,a2,a3,a4,a5];unfold iJ lH;cases decide (97≤c.toNat)<;>cases decide (48≤c.toNat)<;>cases decide (c.toNat≤57)<;>cases decide (c.toNat≤122)<;>cases (c.toNat==95)<;>rfl
theorem TC(N:Nat)(s:agV)(hs:s.size<9223372036854775807):∀(k i:Nat),i≤s.size→s.size-i<k→ru N s k (i:Int)=some (((bL s).drop i).all iJ)
 |0,i,_,hk=>absurd hk (agy _)
 |k+1,i,hi,hk=>by
  rw[ru];by_cases aN:i<s.size
  ·have h1:decide ((i:Int)<(s.size:Int))=true:=agN (by omega);have h2:decide ((0:Int)≤(i:Int))=true:=agN (by omega);rw[h1,h2];simp only[cond_true,agx];have hl:i<(bL s).length:=by rw[←qf];exact aN
   rw[yN,af9 hl,List.drop_eq_getElem_cons hl,af4,abl,af4,agQ];cases hw:iJ (bL s)[i]with
   |true=>
    simp only[Bool.not_true,cond_false,Bool.true_and];rw[sW (Nat.lt_trans aN hs),TC N s hs k (i+1) aN (by omega)]
   |false=>rfl
  ·have h1:decide ((i:Int)<(s.size:Int))=false:=agO (by omega);rw[h1];simp only[cond_false];rw[List.drop_eq_nil_of_le (by rw[←qf];omega)];rfl
theorem NC(N:Nat)(s:agV)(hN:16<N):xV N s=some (fF s):=by
 unfold xV fF EL;have hz:=qf s;have a1:=zh s.size 1;have a2:=jG s.size 16;simp only[Int.cast_ofNat_Int]at a1 a2;rw[a1,a2,hz];cases h1:decide (1≤(bL s).length)with
 |false=>rfl
 |true=>
  cases b9:decide ((bL s).length≤16)with
  |false=>rfl
  |true=>
   have ov:=of_decide_eq_true h1;have ZE:=of_decide_eq_true b9;have hl:0<(bL s).length:=by omega
   simp only[Bool.not_true,cond_false,Bool.true_and];rw[WG,af4,yN,af9 hl,af4];have b1:=zh (bL s)[0].toNat 97;have b2:=jG (bL s)[0].toNat 122;simp only[Int.cast_ofNat_Int]at b1 b2;rw[b1,b2,l6,l6,af4,G5 hl];have:=TC N s (by omega) N 0 (Nat.zero_le _) (by omega);rw[agF]at this;rw[show ru N s N 0=_ from this,agQ,List.all_nil,Bool.and_true];unfold lH;cases q9 (bL s)<;>cases decide (97≤(bL s)[0].toNat)<;>cases decide ((bL s)[0].toNat≤122)<;>rfl
theorem Ms(N:Nat)(v:agV):∀(l:agU agV)(k:Nat),uh N v l k=some (l.any fun w=>bL w==bL v)
 |[],_=>rfl
 |w::l,k=>by
  rw[uh,agR,Ms N v l (k+1)];cases bL w==bL v<;>rfl
theorem adt(c:UInt8)(z:Bool):(bif (decide ((c.toNat:Int)≥(97:Int)))then(bif (decide ((c.toNat:Int)≤(122:Int)))then some (!true)else(bif z then(bif (decide ((c.toNat:Int)≥(48:Int)))then(bif (decide ((c.toNat:Int)≤(57:Int)))then some (!true)else some (!((c.toNat:Int)==(95:Int))))else some (!((c.toNat:Int)==(95:Int))))else some (!false)))else(bif z then(bif (decide ((c.toNat:Int)≥(48:Int)))then(bif (decide ((c.toNat:Int)≤(57:Int)))then some (!true)else some (!((c.toNat:Int)==(95:Int))))else some (!((c.toNat:Int)==(95:Int))))else some (!false)))=some (!(bif z then iJ c else lH c)):=by
 have a1:=QV c.toNat 97;have a2:=QV c.toNat 48;have a3:=sR c.toNat 57;have a4:=sR c.toNat 122;have a5:=uy c.toNat 95;simp only[Int.cast_ofNat_Int]at a1 a2 a3 a4 a5;rw[a1,a2,a3,a4,a5];unfold iJ lH;cases decide (97≤c.toNat)<;>cases decide (48≤c.toNat)<;>cases decide (c.toNat≤57)<;>cases decide (c.toNat≤122)<;>cases (c.toNat==95)<;>cases z<;>rfl
theorem Qi(N:Nat)(s:agV)(hs:s.size<9223372036854775807):∀(k i:Nat),i≤s.size→s.size-i<k→yB N s k (i:Int)=some (bif decide (i>0)then((bL s).drop i).all iJ else((bL s).take 1).all lH&&((bL s).drop 1).all iJ)
 |0,i,_,hk=>absurd hk (agy _)
 |k+1,i,hi,hk=>by
  rw[yB];by_cases aN:i<s.size
  ·have h1:decide ((i:Int)<(s.size:Int))=true:=agN (by omega);have h2:decide ((0:Int)≤(i:Int))=true:=agN (by omega);rw[h1,h2];simp only[cond_true,agx];have hl:i<(bL s).length:=by rw[←qf];exact aN
   rw[yN,af9 hl,af4,adt,af4];rw[sW (Nat.lt_trans aN hs),Qi N s hs k (i+1) aN (by omega),agN (show i+1>0 by omega)];simp only[cond_true];by_cases h0:i=0
   ·subst h0;rw[agO (show ¬((0:Nat):Int)>0 by omega),agO (show ¬0>0 by omega)];simp only[cond_false];rw[G5 hl,agQ,List.all_nil,Bool.and_true];cases lH (bL s)[0]<;>rfl
   ·rw[agN (show(i:Int)>0 by omega),agN (show i>0 by omega)];simp only[cond_true];rw[List.drop_eq_getElem_cons hl,agQ];cases iJ (bL s)[i]<;>rfl
  ·have h1:decide ((i:Int)<(s.size:Int))=false:=agO (by omega);rw[h1];simp only[cond_false];have hn:(bL s).drop i=[]:=List.drop_eq_nil_of_le (by rw[←qf];omega);by_cases h0:i=0
   ·subst h0;rw[agF]at hn;rw[hn];rfl
   ·rw[agN (show i>0 by omega),hn];rfl
theorem GF(N:Nat)(s:agV)(hN:16<N):xo N s=some (fF s):=by
 unfold xo fF EL;have hz:=qf s;have a1:=zh s.size 1;have a2:=jG s.size 16;simp only[Int.cast_ofNat_Int]at a1 a2;rw[a1,a2,hz];cases h1:decide (1≤(bL s).length)with
 |false=>rfl
 |true=>
  cases b9:decide ((bL s).length≤16)with
  |false=>rfl
  |true=>
   have ov:=of_decide_eq_true h1;have ZE:=of_decide_eq_true b9;have hl:0<(bL s).length:=by omega
   simp only[Bool.not_true,cond_false,Bool.true_and];have hh:∀l,lu N l s=some (l.any fun w=>bL w==bL s):=fun l=>Ms N s l 0;unfold Qq;rw[af4,hh,af4,af4];have:=Qi N s (by omega) N 0 (Nat.zero_le _) (by omega);rw[show yB N s N 0=_ from this];show(bif q9 (bL s)then some false else some (((bL s).take 1).all lH&&((bL s).drop 1).all iJ))=_;have hw:(bL s).all iJ=(iJ (bL s)[0]&&((bL s).drop 1).all iJ):=by
    have hd:bL s=(bL s)[0]::(bL s).drop 1:=by
     have:=List.drop_eq_getElem_cons hl
     rwa [agF]at this
    rw[←agQ,←hd]
   rw[hw,G5 hl,agQ,List.all_nil,Bool.and_true];unfold iJ;cases q9 (bL s)<;>cases lH (bL s)[0]<;>simp
def iG(t:bn):Bool:=
 bif t.bW==1||t.bW==3 then t.ca==0&&(t.cF==0&&(t.cE==0&&t.cJ==0))
 else t.bW==2&&(decide (2≤t.ca)&&(decide (t.ca≤31)&&(decide (0≤t.cF)&&(decide (t.cF≤30)&&(decide (1≤t.cE)&&(decide (t.cE≤4)&&(t.cJ==1||t.cJ==2)))))))
theorem Wb(a:Bool):(bif a then some true else some false)=some a:=by cases a<;>rfl
theorem JU(a b:Int):decide (a<b)= !decide (b≤a):=by
 by_cases h:b≤a
 ·rw[agN h,agO (by omega)];rfl
 ·rw[agO h,agN (by omega)];rfl
theorem AN(a b:Int):decide (a>b)= !decide (a≤b):=JU b a
theorem pL(a b:Int):decide (a≥b)=decide (b≤a):=rfl
theorem yz(a b:Int):(a !=b)= !(a==b):=rfl
theorem LD(N:Nat)(t:bn):vN N t=some (iG t):=by
 unfold vN iG;simp only[l6,iB,af4,pL];cases (t.bW==1||t.bW==3)<;>rfl
theorem T8(N:Nat)(t:bn)(h:(t.bW==2)=true):yo N t=some (bif (decide (2≤t.ca)&&(decide (t.ca≤31)&&(decide (0≤t.cF)&&(decide (t.cF≤30)&&(decide (1≤t.cE)&&(decide (t.cE≤4)&&(t.cJ==1||t.cJ==2)))))))then 0 else 10):=by
 unfold yo;simp only[l6,iB,af4,pL,AN,yz,h,Bool.not_true,Bool.false_or];cases decide (2≤t.ca)<;>cases decide (t.ca≤31)<;>cases decide (0≤t.cF)<;>cases decide (t.cF≤30)<;>cases decide (1≤t.cE)<;>cases decide (t.cE≤4)<;>cases t.cJ==1<;>cases t.cJ==2<;>rfl
theorem Ed(N:Nat)(t:bn):su N t=some (bif iG t then 0 else 10):=by
 unfold su BY iG CO;cases h1:t.bW==1 with
 |true=>
  simp only[cond_true,af4,agP,Bool.true_and,Bool.true_or,Bool.and_true];cases (t.ca==0&&(t.cF==0&&(t.cE==0&&t.cJ==0)))<;>rfl
 |false=>
  cases h3:t.bW==3 with
  |true=>
   simp only[cond_true,cond_false,af4,agP,Bool.true_and,Bool.or_true,Bool.and_true];cases (t.ca==0&&(t.cF==0&&(t.cE==0&&t.cJ==0)))<;>rfl
  |false=>
   cases h2:t.bW==2 with
   |true=>
    rw[T8 N t h2];simp only[cond_true,cond_false,af4,Bool.true_and,Bool.or_false];cases (decide (2≤t.ca)&&(decide (t.ca≤31)&&(decide (0≤t.cF)&&(decide (t.cF≤30)&&(decide (1≤t.cE)&&(decide (t.cE≤4)&&(t.cJ==1||t.cJ==2)))))))<;>rfl
   |false=>rfl
def m9:agW agV→agU aF→Bool
 |_,[]=>true
 |p,m::l=>fF m.aq&&(!(m.cZ.toInt==0)&&((match p with|none=>true|some q=>Op.bytesLess (bL q) (bL m.aq))&&m9 (some m.aq) l))
theorem zK(p:agW agV)(m:aF)(l:agU aF):m9 p (m::l)=(fF m.aq&&(!(m.cZ.toInt==0)&&((match p with|none=>true|some q=>Op.bytesLess (bL q) (bL m.aq))&&m9 (some m.aq) l))):=by cases p<;>rfl
def eg(x:aw):Bool:=m9 none x.xL
def qc(x:aw)(k:Nat):agW agV:=bif k==0 then none else(x.xL[k-1]?).map (·.aq)
theorem Z6{k:Nat}(h0:0<k)(h:k≤maxLen):a8 ((k:Int)-1)=((k-1:Nat):Int):=by
 unfold a8;have:(k:Int)-1=((k-1:Nat):Int):=by omega
 rw[this];unfold maxLen at h;rw[IntKind.wrap_i64]<;>omega
theorem Q2{x:aw}{k:Nat}{m:aF}{l:agU aF}(hd:x.xL.drop k=m::l):qc x (k+1)=some m.aq:=by
 have:=bS hd;unfold qc;simp [this]
theorem MU{x:aw}{k:Nat}{m:aF}{l:agU aF}(hd:x.xL.drop k=m::l)(hm:x.xL.length≤maxLen):
 (bif (decide ((k:Int)>(0:Int)))then bif (decide ((0:Int)≤(a8 ((k:Int)-(1:Int)))))then
 Option.bind (x.xL[((a8 ((k:Int)-(1:Int)))).toNat]?) fun v7=>
 some (!(Op.bytesLess (bL v7.aq) (bL m.aq)))
 else none else some false)=some (!(match qc x k with|none=>true|some q=>Op.bytesLess (bL q) (bL m.aq))):=by
 have aN:k<x.xL.length:=(af5.1 (bS hd)).1;by_cases h0:k=0
 ·subst h0;rfl
 ·rw[agN (show(k:Int)>0 by omega),Z6 (by omega) (by omega),agN (show(0:Int)≤((k-1:Nat):Int) by omega)];simp only[cond_true,agx];have hp:qc x k=(x.xL[k-1]?).map (·.aq):=by
    unfold qc;rw[beq_false_of_ne h0];rfl
  rw[hp,af9 (show k-1<x.xL.length by omega)];rfl
theorem RO(N:Nat)(hN:16<N)(x:aw)(hm:x.xL.length≤maxLen):∀(l:agU aF)(k:Nat),x.xL.drop k=l→uW N x l k=some (bif m9 (qc x k) l then 0 else 1)
 |[],k,_=>rfl
 |m::l,k,hd=>by
  rw[uW,NC N m.aq hN,af4,zK,MU hd hm,RO N hN x hm l (k+1) (ct hd),Q2 hd];generalize (match qc x k with|none=>true|some q=>Op.bytesLess (bL q) (bL m.aq))=b;cases fF m.aq<;>cases (m.cZ.toInt==0)<;>cases b<;>cases m9 (some m.aq) l<;>rfl
theorem wH(N:Nat)(hN:16<N)(x:aw)(hm:x.xL.length≤maxLen):pz N x=some (bif eg x then 0 else 1):=RO N hN x hm x.xL 0 rfl
theorem O5(N:Nat)(hN:16<N)(x:aw)(hm:x.xL.length≤maxLen):∀(l:agU aF)(k:Nat),x.xL.drop k=l→Dd N x l k=some (m9 (qc x k) l)
 |[],k,_=>rfl
 |m::l,k,hd=>by
  rw[Dd,GF N m.aq hN,af4,zK,MU hd hm,O5 N hN x hm l (k+1) (ct hd),Q2 hd];generalize (match qc x k with|none=>true|some q=>Op.bytesLess (bL q) (bL m.aq))=b;cases fF m.aq<;>cases (m.cZ.toInt==0)<;>cases b<;>cases m9 (some m.aq) l<;>rfl
theorem yY(N:Nat)(hN:16<N)(x:aw)(hm:x.xL.length≤maxLen):uw N x=some (eg x):=O5 N hN x hm x.xL 0 rfl
def uU(t:bn)(v:fO):Bool:=
 bif t.bW==2 then v.xD.toInt==1&&(decide (-(2^(t.ca-1).toNat)≤v.xN.toInt)&&decide (v.xN.toInt<2^(t.ca-1).toNat))
 else decide (v.xN.toInt≤2147483647)&&(decide (-2147483647≤v.xN.toInt)&&(decide (1≤v.xD.toInt)&&(decide (v.xD.toInt≤2147483647)&&
  (bif t.bW==3 then v.xD.toInt==1 else Nat.gcd v.xN.toInt.natAbs v.xD.toInt.toNat==1))))
theorem afa:∀n:Fin 30,(decide ((0:Int)≤(IntKind.u64.wrap (a8 (((n.val+2:Nat):Int)-(1:Int))))))=true∧(decide ((0:Int)≤(a8 (((n.val+2:Nat):Int)-(1:Int)))))=true∧
 (-(Int64.ofInt ((1:Int)*2^(min ((IntKind.u64.wrap (a8 (((n.val+2:Nat):Int)-(1:Int))))).toNat (IntKind.bits .i64))))).toInt= -(2^(n.val+1))∧
 ((Int64.ofInt ((1:Int)*2^(min ((IntKind.u64.wrap (a8 (((n.val+2:Nat):Int)-(1:Int))))).toNat (IntKind.bits .i64))))-(1:Int64)).toInt=2^(n.val+1)-1∧
 (-(Int64.ofInt ((1:Int)*2^(min ((a8 (((n.val+2:Nat):Int)-(1:Int)))).toNat (IntKind.bits .i64))))).toInt= -(2^(n.val+1))∧
 (Int64.ofInt ((1:Int)*2^(min ((a8 (((n.val+2:Nat):Int)-(1:Int)))).toNat (IntKind.bits .i64)))).toInt=2^(n.val+1):=by decide+kernel
theorem Us{b:Int}(h1:2≤b)(h2:b≤31):(decide ((0:Int)≤(IntKind.u64.wrap (a8 (b-(1:Int))))))=true∧(decide ((0:Int)≤(a8 (b-(1:Int)))))=true∧
 (-(Int64.ofInt ((1:Int)*2^(min ((IntKind.u64.wrap (a8 (b-(1:Int))))).toNat (IntKind.bits .i64))))).toInt= -(2^(b-1).toNat)∧
 ((Int64.ofInt ((1:Int)*2^(min ((IntKind.u64.wrap (a8 (b-(1:Int))))).toNat (IntKind.bits .i64))))-(1:Int64)).toInt=2^(b-1).toNat-1∧
 (-(Int64.ofInt ((1:Int)*2^(min ((a8 (b-(1:Int)))).toNat (IntKind.bits .i64))))).toInt= -(2^(b-1).toNat)∧
 (Int64.ofInt ((1:Int)*2^(min ((a8 (b-(1:Int)))).toNat (IntKind.bits .i64)))).toInt=2^(b-1).toNat:=by
 obtain⟨n,rfl⟩:∃n:Nat,b=n:=⟨b.toNat,by omega⟩;have:=afa ⟨n-2,by omega⟩;simp only[show n-2+2=n by omega,show n-2+1=n-1 by omega]at this;rw[show((n:Int)-1).toNat=n-1 by omega];exact this
theorem Ug(N:Nat):∀(k a b:Nat),b<k→tK N k (a:Int) (b:Int)=some ((Nat.gcd a b:Nat):Int)
 |0,a,b,h=>absurd h (agy _)
 |k+1,a,b,h=>by
  rw[tK];by_cases h0:b=0
  ·subst h0;simp
  ·rw[show(((b:Nat):Int) !=(0:Int))=true by rw[bne_iff_ne];omega];simp only[cond_true];rw[←Int.ofNat_tmod,Ug N k b (a%b) (by have:=Nat.mod_lt a (Nat.pos_of_ne_zero h0);omega)];rw[Nat.gcd_comm a b,Nat.gcd_rec b a,Nat.gcd_comm]
theorem R3(N:Nat):∀(k:Nat)(a b:Int64),0≤a.toInt→0≤b.toInt→b.toInt.toNat<k→∃g:Int64,DM N k a b=some g∧g.toInt=((Nat.gcd a.toInt.toNat b.toInt.toNat:Nat):Int)
 |0,a,b,_,_,h=>absurd h (agy _)
 |k+1,a,b,ha,hb,h=>by
  rw[DM];by_cases h0:b.toInt=0
  ·rw[h0];refine⟨a,rfl,?_⟩;show a.toInt=((Nat.gcd a.toInt.toNat 0:Nat):Int);rw[Nat.gcd_zero_right];omega
  ·rw[show(b.toInt !=(0:Int))=true by rw[bne_iff_ne];exact h0];simp only[cond_true];obtain⟨x,hx⟩:∃x:Nat,a.toInt=x:=⟨a.toInt.toNat,by omega⟩;obtain⟨y,hy⟩:∃y:Nat,b.toInt=y:=⟨b.toInt.toNat,by omega⟩;rw[hx,hy];have hyp:0<y:=by omega
   have hm:(x:Int).tmod (y:Int)=((x%y:Nat):Int):=(Int.ofNat_tmod x y).symm;have aN:=Nat.mod_lt x hyp;have jt:b.toInt<2^63:=Int64.toInt_lt b;have jd:(Int64.ofInt ((x%y:Nat):Int)).toInt=((x%y:Nat):Int):=by
    rw[Int64.toInt_ofInt_of_le]
    ·omega
    ·omega
   rw[hm];obtain⟨g,h1,h2⟩:=R3 N k b (Int64.ofInt ((x%y:Nat):Int)) hb (by rw[jd];omega) (by rw[jd];omega);refine⟨g,h1,?_⟩;rw[h2,jd,hy];simp only[agx];rw[Nat.gcd_comm x y,Nat.gcd_rec y x,Nat.gcd_comm]
theorem KU(z:Int):IntKind.u64.wrap z=z%18446744073709551616:=rfl
theorem Xf(N:Nat)(v:Int64):Cv N v=some ((v.toInt.natAbs:Nat):Int):=by
 unfold Cv;have h1:v.toInt<2^63:=Int64.toInt_lt v;have h2: -2^63≤v.toInt:=Int64.le_toInt v;by_cases h:v.toInt<0
 ·rw[agN h];simp only[cond_true,KU]
  congr 1
  omega
 ·rw[agO h];simp only[cond_false,KU]
  congr 1
  omega
theorem WC(N:Nat)(hN:2147483648<N)(t:bn)(v:fO)(ht:iG t=true):Au N t v=some (uU t v):=by
 unfold Au;rw[Ed,ht,af4];unfold uU;cases h2:t.bW==2 with
 |true=>
  simp only[cond_true];show Option.bind (AF N t v) _=_;unfold iG at ht;have hk:t.bW=2:=by simpa using h2
  rw[hk]at ht;have n6:(decide (2≤t.ca)&&(decide (t.ca≤31)&&(decide (0≤t.cF)&&(decide (t.cF≤30)&&(decide (1≤t.cE)&&(decide (t.cE≤4)&&(t.cJ==1||t.cJ==2)))))))=true:=ht;unfold AF;rw[T8 N t h2,n6,af4];simp only[af7,decide_eq_true_eq]at n6;obtain⟨b1,b2,_⟩:=n6;obtain⟨f1,f2,f3,f4,f5,f6⟩:=Us b1 b2;unfold Ea EC B6;rw[iB,af4,af4,pL,agN b1,agN b2];simp only[Bool.and_self,cond_true];rw[f1];simp only[cond_true,af4];rw[f3,f4];rw[pL,iB,nx (p:=v.xN.toInt≤2^(t.ca-1).toNat-1) (q:=v.xN.toInt<2^(t.ca-1).toNat) (by omega)];cases (v.xD.toInt==1)<;>rfl
 |false=>
  simp only[cond_false];show(bif t.bW==3 then _ else _)=_;cases h3:t.bW==3 with
  |true=>
   simp only[cond_true];unfold CL;rw[pL,iB,af4,af4];by_cases hd:v.xD.toInt=1
   ·rw[hd];simp only[agP,cond_true,af4,show decide ((1:Int)≤1)=true from rfl,show decide ((1:Int)≤2147483647)=true from rfl,Bool.and_true];rw[Bool.and_comm]
   ·rw[beq_false_of_ne hd];simp only[cond_false,af4,Bool.and_false]
  |false=>
   simp only[cond_false];unfold FP GQ;rw[pL,pL,iB,af4,af4,Xf,af4];cases zS:decide (1≤v.xD.toInt)with
   |false=>cases decide (v.xN.toInt≤2147483647)<;>cases decide (-2147483647≤v.xN.toInt)<;>rfl
   |true=>
    cases mc:decide (v.xD.toInt≤2147483647)with
    |false=>cases decide (v.xN.toInt≤2147483647)<;>cases decide (-2147483647≤v.xN.toInt)<;>rfl
    |true=>
     have e1:=of_decide_eq_true zS;have e2:=of_decide_eq_true mc;have hw:IntKind.u64.wrap v.xD.toInt=((v.xD.toInt.toNat:Nat):Int):=by rw[KU];omega
     simp only[cond_true,Bool.true_and];rw[hw];unfold Fg;rw[Ug N N v.xN.toInt.natAbs v.xD.toInt.toNat (by omega),af4,show((((Nat.gcd v.xN.toInt.natAbs v.xD.toInt.toNat:Nat):Int))==(1:Int))=(Nat.gcd v.xN.toInt.natAbs v.xD.toInt.toNat==1)from uy _ 1,iB,af4];cases decide (v.xN.toInt≤2147483647)<;>cases decide (-2147483647≤v.xN.toInt)<;>rfl
theorem afd(N:Nat)(hN:2147483648<N)(t:bn)(v:fO)(ht:iG t=true):JY N t v=some (uU t v):=by
 unfold JY uU;cases h2:t.bW==2 with
 |true=>
  simp only[cond_true];unfold iG at ht;have hk:t.bW=2:=by simpa using h2
  rw[hk]at ht;have n6:(decide (2≤t.ca)&&(decide (t.ca≤31)&&(decide (0≤t.cF)&&(decide (t.cF≤30)&&(decide (1≤t.cE)&&(decide (t.cE≤4)&&(t.cJ==1||t.cJ==2)))))))=true:=ht;simp only[af7,decide_eq_true_eq]at n6;obtain⟨b1,b2,_⟩:=n6;obtain⟨f1,f2,f3,f4,f5,f6⟩:=Us b1 b2;rw[f2];simp only[cond_true];rw[f5,f6,pL,iB,iB,af4]
 |false=>
  simp only[cond_false,AN,l6,af4];cases tD:decide (v.xN.toInt≤2147483647)with
  |false=>rfl
  |true=>
   cases lG:decide (-2147483647≤v.xN.toInt)with
   |false=>rfl
   |true=>
    cases zS:decide (1≤v.xD.toInt)with
    |false=>rfl
    |true=>
     cases mc:decide (v.xD.toInt≤2147483647)with
     |false=>rfl
     |true=>
      have n1:=of_decide_eq_true tD;have n2:=of_decide_eq_true lG;have e1:=of_decide_eq_true zS;have e2:=of_decide_eq_true mc;simp only[Bool.not_true,Bool.or_false,cond_false,Bool.true_and];cases h3:t.bW==3 with
      |true=>rfl
      |false=>
       simp only[cond_false];have Zv:(-v.xN).toInt= -v.xN.toInt:=by
        rw[Int64.toInt_neg];rw[Int.bmod_eq_of_le]<;>omega
       have uR:(zx v.xN (-v.xN)).toInt=((v.xN.toInt.natAbs:Nat):Int):=by
        rw[←aes,Zv];split<;>omega
       unfold Na;obtain⟨g,g1,g2⟩:=R3 N N (zx v.xN (-v.xN)) v.xD (by rw[uR];omega) (by omega) (by omega);rw[g1,af4,g2,uR,agx];rw[show((((Nat.gcd v.xN.toInt.natAbs v.xD.toInt.toNat:Nat):Int))==(1:Int))=(Nat.gcd v.xN.toInt.natAbs v.xD.toInt.toNat==1)from uy _ 1]
def dX(n:Int):Bool:=decide (-9223372036854775808≤n)&&decide (n≤9223372036854775807)
theorem ry{n:Int}:dX n=true↔-9223372036854775808≤n∧n≤9223372036854775807:=by
 unfold dX;rw[af7,decide_eq_true_iff,decide_eq_true_iff]
theorem adF(n:Int64):dX n.toInt=true:=by
 rw[ry];have h1:=n.le_toInt;have h2:=n.toInt_lt;omega
def same(a b:agV):Bool:=bL a==bL b
def lt(a b:agV):Bool:=Op.bytesLess (bL a) (bL b)
theorem U3{a b:agV}(h:(bL a)=(bL b)):a=b:=by
 unfold bL at h;have:a.data=b.data:=Array.toList_inj.mp h;cases a;cases b;simp_all
theorem s7{a b:agV}:same a b=true↔a=b:=by
 unfold same;rw[beq_iff_eq];exact⟨U3,fun h=>by rw[h]⟩
theorem CK:∀(x y:agU UInt8),Op.bytesLess x y=decide (x<y)
 |[],[]=>by simp [Op.bytesLess]
 |_::_,[]=>by simp [Op.bytesLess]
 |[],_::_=>by simp [Op.bytesLess]
 |a::x,b::y=>by
  rw[Op.bytesLess,CK x y];simp only[List.cons_lt_cons_iff];by_cases h:a<b<;>by_cases h2:a=b<;>simp_all
theorem Mr{a b:agV}:lt a b=true↔(bL a)<(bL b):=by unfold lt;rw[CK];simp
theorem sQ(a:agV):lt a a=false:=by
 rw[←Bool.not_eq_true,Mr];exact List.lt_irrefl (bL a)
theorem qy{a b c:agV}(h1:lt a b=true)(h2:lt b c=true):lt a c=true:=by
 rw[Mr]at*;exact List.lt_trans h1 h2
theorem Bl{a b:agV}(h1:lt a b=false)(h2:lt b a=false):a=b:=by
 rw[←Bool.not_eq_true,Mr]at*;exact U3 (List.le_antisymm (List.not_lt.mp h2) (List.not_lt.mp h1))
inductive Er|arg|range
def Er.code:Er→Int
 | .arg=>1
 | .range=>3
theorem Er.ne(e:Er):(e.code !=0)=true:=by cases e<;>rfl
abbrev X(α:Type):=Except Er α
def fX{α:Type}(d:α):X α→α×Int
 | .ok v=>(v,0)
 | .error e=>(d,e.code)
def eF:agU aF→agU aF→agU (agV×Int×Int)
 |[],[]=>[]
 |a::l,[]=>(a.aq,a.cZ.toInt,0)::eF l []
 |[],b::r=>(b.aq,0,b.cZ.toInt)::eF [] r
 |a::l,b::r=>if lt a.aq b.aq then(a.aq,a.cZ.toInt,0)::eF l (b::r)else if lt b.aq a.aq then(b.aq,0,b.cZ.toInt)::eF (a::l) r else(a.aq,a.cZ.toInt,b.cZ.toInt)::eF l r
termination_by l r=>l.length+r.length
def G6(k:Int)(l:agU (agV×Int×Int)):X aw:=
 if dX k&&l.all (fun t=>dX (t.2.1+t.2.2))then .ok ⟨Int64.ofInt k,l.filterMap fun t=>if t.2.1+t.2.2=0 then none else some ⟨t.1,Int64.ofInt (t.2.1+t.2.2)⟩⟩else .error .range
def ib(a b:aw):X aw:=if eg a&&eg b then G6 (a.xK.toInt+b.xK.toInt) (eF a.xL b.xL)else .error .arg
def kO(a:aw)(dc:Int64):X aw:=
 if eg a then(if dc.toInt=0 then .ok ⟨0,[]⟩else if dX (a.xK.toInt*dc.toInt)&&a.xL.all (fun m=>dX (m.cZ.toInt*dc.toInt))then .ok ⟨Int64.ofInt (a.xK.toInt*dc.toInt),a.xL.map fun m=>⟨m.aq,Int64.ofInt (m.cZ.toInt*dc.toInt)⟩⟩else .error .range)else .error .arg
def jP:agU agV→agV→agU agV
 |[],s=>[s]
 |x::l,s=>if lt s x then x::jP l s else s::x::l
def jH(l:agU agV)(s:agV):agU agV:=if l.any (same · s)then l else(jP l.reverse s).reverse
def sq(ls:agU aw):agU agV:=(ls.flatMap fun x=>x.xL.map (·.aq)).foldl jH []
def iD:agU aF→agV→Int
 |[],_=>0
 |m::l,n=>if same m.aq n then m.cZ.toInt else iD l n
def Lp(a b:aw):X aw:=if eg a&&eg b then G6 (a.xK.toInt+b.xK.toInt) ((sq [a,b]).map fun n=>(n,iD a.xL n,iD b.xL n))else .error .arg
def mj(l:agU agV):Prop:=l.Pairwise fun a b=>lt a b=true
theorem M3:∀{l r:agU agV},mj l→mj r→(∀x,x∈l↔x∈r)→l=r
 |[],[],_,_,_=>rfl
 |[],b::r,_,_,h=>by have:=(h b).mpr (by simp);simp at this
 |a::l,[],_,_,h=>by have:=(h a).mp (by simp);simp at this
 |a::l,b::r,hl,hr,h=>by
  have zZ:=List.pairwise_cons.mp hl;have oW:=List.pairwise_cons.mp hr;have e:a=b:=by
   have h1:=(h a).mp (by simp);have h2:=(h b).mpr (by simp);simp only[agA]at h1 h2;rcases h1 with h1|h1
   ·exact h1
   ·rcases h2 with h2|h2
    ·exact h2.symm
    ·have:=qy (oW.1 a h1) (zZ.1 b h2);rw[sQ]at this;simp at this
  subst e;rw[M3 zZ.2 oW.2 fun x=> ?_];constructor
  ·intro hx;have:=(h x).mp (by simp [hx]);simp only[agA]at this;rcases this with e|e
   ·subst e;have:=zZ.1 x hx;rw[sQ]at this;simp at this
   ·exact e
  ·intro hx;have:=(h x).mpr (by simp [hx]);simp only[agA]at this;rcases this with e|e
   ·subst e;have:=oW.1 x hx;rw[sQ]at this;simp at this
   ·exact e
theorem JO:∀(l:agU agV)(s x:agV),x∈jP l s↔x=s∨x∈l
 |[],s,x=>by simp [jP]
 |y::l,s,x=>by
  unfold jP;split
  ·simp only[agA,JO l s x];constructor<;>rintro(h|h|h)<;>simp [h]
  ·simp only[agA]
theorem RF:∀(l:agU agV)(s:agV),l.Pairwise (fun a b=>lt b a=true)→s ∉ l→(jP l s).Pairwise (fun a b=>lt b a=true)
 |[],s,_,_=>by simp [jP]
 |y::l,s,h,hs=>by
  have h1:=List.pairwise_cons.mp h;simp only[agA,not_or]at hs;unfold jP;split
  next aN=>
   refine List.pairwise_cons.mpr ⟨fun z hz=> ?_,RF l s h1.2 hs.2⟩;rcases (JO l s z).mp hz with e|e
   ·subst e;exact aN
   ·exact h1.1 z e
  next aN=>
   have ga:lt y s=true:=by
    cases hc:lt y s with
    |true=>rfl
    |false=>exact absurd (Bl (by simpa using aN) hc) hs.1
   refine List.pairwise_cons.mpr ⟨fun z hz=> ?_,h⟩;simp only[agA]at hz;rcases hz with e|e
   ·subst e;exact ga
   ·exact qy (h1.1 z e) ga
theorem IQ{l:agU agV}{s:agV}:l.any (same · s)=true↔s∈l:=by
 rw[List.any_eq_true];constructor
 ·rintro⟨x,hx,h⟩;rw[s7]at h;exact h▸hx
 ·intro h;exact⟨s,h,s7.mpr rfl⟩
theorem aa7(l:agU agV)(s x:agV):x∈jH l s↔x=s∨x∈l:=by
 unfold jH;split
 next h=>
  have:=IQ.mp h;constructor
  ·exact Or.inr
  ·rintro(e|e)
   ·exact e▸this
   ·exact e
 next h=>simp [JO]
theorem Yk(l:agU agV)(s:agV)(h:mj l):mj (jH l s):=by
 unfold jH;split
 ·exact h
 next hn=>
  unfold mj;rw[List.pairwise_reverse];refine RF _ _ ?_ ?_
  ·rw[List.pairwise_reverse];exact h
  ·simpa [IQ]using fun hm=>hn (IQ.mpr hm)
theorem R6:∀(ns l:agU agV),mj l→mj (ns.foldl jH l)∧∀x,x∈ns.foldl jH l↔x∈ns∨x∈l
 |[],l,h=>⟨h,fun x=>by simp⟩
 |n::ns,l,h=>by
  obtain⟨h1,h2⟩:=R6 ns (jH l n) (Yk l n h);refine⟨h1,fun x=> ?_⟩;rw[List.foldl_cons,h2 x,aa7];simp only[agA];constructor
  ·rintro(h|h|h)<;>simp [h]
  ·rintro((h|h)|h)<;>simp [h]
theorem kj:∀(a b:agU aF)(x:agV),x∈(eF a b).map (·.1)↔x∈a.map (·.aq)∨x∈b.map (·.aq)
 |[],[],x=>by simp [eF]
 |a::l,[],x=>by
  have:=kj l [] x;rw[eF];simp only[agv,agA,this];simp
 |[],b::r,x=>by
  have:=kj [] r x;rw[eF];simp only[agv,agA,this];simp
 |a::l,b::r,x=>by
  rw[eF];split
  ·have:=kj l (b::r) x;simp only[agv,agA,this];exact⟨by rintro(h|h|h|h)<;>simp [h],by rintro((h|h)|h|h)<;>simp [h]⟩
  ·split
   ·have:=kj (a::l) r x;simp only[agv,agA,this];exact⟨by rintro(h|(h|h)|h)<;>simp [h],by rintro((h|h)|h|h)<;>simp [h]⟩
   next h1 h2=>
    have e:=Bl (by simpa using h1) (by simpa using h2);have:=kj l r x;simp only[agv,agA,this,e];exact⟨by rintro(h|h|h)<;>simp [h],by rintro((h|h)|h|h)<;>simp [h]⟩
termination_by a b=>a.length+b.length
def lA(l:agU aF):Prop:=mj (l.map (·.aq))
theorem lA.tail{m:aF}{l:agU aF}(h:lA (m::l)):lA l:=(List.pairwise_cons.mp h).2
theorem lA.head{m:aF}{l:agU aF}(h:lA (m::l)):∀x∈l.map (·.aq),lt m.aq x=true:=(List.pairwise_cons.mp h).1
theorem xk:∀(a b:agU aF),lA a→lA b→mj ((eF a b).map (·.1))
 |[],[],_,_=>by simp [eF,mj]
 |a::l,[],ha,hb=>by
  rw[eF];refine List.pairwise_cons.mpr ⟨fun x hx=> ?_,xk l [] ha.tail hb⟩;rcases (kj l [] x).mp hx with h|h
  ·exact ha.head x h
  ·simp at h
 |[],b::r,ha,hb=>by
  rw[eF];refine List.pairwise_cons.mpr ⟨fun x hx=> ?_,xk [] r ha hb.tail⟩;rcases (kj [] r x).mp hx with h|h
  ·simp at h
  ·exact hb.head x h
 |a::l,b::r,ha,hb=>by
  rw[eF];split
  next h1=>
   refine List.pairwise_cons.mpr ⟨fun x hx=> ?_,xk l (b::r) ha.tail hb⟩;rcases (kj l (b::r) x).mp hx with h|h
   ·exact ha.head x h
   ·simp only[agv,agA]at h;rcases h with h|h
    ·subst h;exact h1
    ·exact qy h1 (hb.head x h)
  next h1=>
   split
   next h2=>
    refine List.pairwise_cons.mpr ⟨fun x hx=> ?_,xk (a::l) r ha hb.tail⟩;rcases (kj (a::l) r x).mp hx with h|h
    ·simp only[agv,agA]at h;rcases h with h|h
     ·subst h;exact h2
     ·exact qy h2 (ha.head x h)
    ·exact hb.head x h
   next h2=>
    have e:=Bl (by simpa using h1) (by simpa using h2);refine List.pairwise_cons.mpr ⟨fun x hx=> ?_,xk l r ha.tail hb.tail⟩;rcases (kj l r x).mp hx with h|h
    ·exact ha.head x h
    ·show lt a.aq x=true;rw[e];exact hb.head x h
termination_by a b=>a.length+b.length
theorem JK:∀(l:agU aF)(n:agV),n ∉ l.map (·.aq)→iD l n=0
 |[],_,_=>rfl
 |m::l,n,h=>by
  simp only[agv,agA,not_or]at h;unfold iD;rw[if_neg (by rw[s7];exact fun e=>h.1 e.symm)];exact JK l n h.2
theorem wC{m:aF}{l:agU aF}{n:agV}(h:lt m.aq n=true):iD (m::l) n=iD l n:=by
 show(if same m.aq n then m.cZ.toInt else iD l n)=_;rw[if_neg (by rw[s7];rintro rfl;rw[sQ]at h;simp at h)]
theorem wa(m:aF)(l:agU aF):iD (m::l) m.aq=m.cZ.toInt:=by
 show(if same m.aq m.aq then m.cZ.toInt else iD l m.aq)=_;rw[if_pos (s7.mpr rfl)]
theorem Ou{m:aF}{l:agU aF}{n:agV}(h:lA (m::l))(hn:lt n m.aq=true):n ∉(m::l).map (·.aq):=by
 simp only[agv,agA,not_or];constructor
 ·rintro rfl;rw[sQ]at hn;simp at hn
 ·intro hm;have:=qy hn (h.head n hm);rw[sQ]at this;simp at this
theorem ya:∀(a b:agU aF),lA a→lA b→eF a b=((eF a b).map (·.1)).map fun n=>(n,iD a n,iD b n)
 |[],[],_,_=>by simp [eF]
 |a::l,[],ha,hb=>by
  have ih:=ya l [] ha.tail hb;rw[eF,agv,agv,wa];refine congrArg _ (ih.trans ?_);rw[←ih];rw[List.map_map]
  conv=>lhs;rw[ih,List.map_map]
  refine agB fun t ht=> ?_;have hm:=List.mem_map_of_mem (f:=(·.1)) ht;rcases (kj l [] t.1).mp hm with h|h
  ·simp only[Function.comp_apply,wC (ha.head _ h)]
  ·simp at h
 |[],b::r,ha,hb=>by
  have ih:=ya [] r ha hb.tail;rw[eF,agv,agv,wa];refine congrArg _ (ih.trans ?_);rw[←ih];rw[List.map_map]
  conv=>lhs;rw[ih,List.map_map]
  refine agB fun t ht=> ?_;have hm:=List.mem_map_of_mem (f:=(·.1)) ht;rcases (kj [] r t.1).mp hm with h|h
  ·simp at h
  ·simp only[Function.comp_apply,wC (hb.head _ h)]
 |a::l,b::r,ha,hb=>by
  rw[eF];split
  next h1=>
   have ih:=ya l (b::r) ha.tail hb;rw[agv,agv,wa,JK (b::r) _ (Ou hb h1)];refine congrArg _ ?_
   conv=>lhs;rw[ih]
   refine agB fun n hn=> ?_;have:lt a.aq n=true:=by
    rcases (kj l (b::r) n).mp hn with h|h
    ·exact ha.head n h
    ·simp only[agv,agA]at h;rcases h with h|h
     ·subst h;exact h1
     ·exact qy h1 (hb.head n h)
   rw[wC this]
  next h1=>
   split
   next h2=>
    have ih:=ya (a::l) r ha hb.tail;rw[agv,agv,wa,JK (a::l) _ (Ou ha h2)];refine congrArg _ ?_
    conv=>lhs;rw[ih]
    refine agB fun n hn=> ?_;have:lt b.aq n=true:=by
     rcases (kj (a::l) r n).mp hn with h|h
     ·simp only[agv,agA]at h;rcases h with h|h
      ·subst h;exact h2
      ·exact qy h2 (ha.head n h)
     ·exact hb.head n h
    rw[wC this]
   next h2=>
    have e:=Bl (by simpa using h1) (by simpa using h2);have ih:=ya l r ha.tail hb.tail;rw[agv,agv,wa];rw[show iD (b::r) a.aq=b.cZ.toInt from by rw[e];exact wa b r];refine congrArg _ ?_
    conv=>lhs;rw[ih]
    refine agB fun n hn=> ?_;have:lt a.aq n=true:=by
     rcases (kj l r n).mp hn with h|h
     ·exact ha.head n h
     ·rw[e];exact hb.head n h
    rw[wC this,wC (show lt b.aq n=true from e▸this)]
termination_by a b=>a.length+b.length
theorem MA:∀(l:agU aF)(p:agW agV),m9 p l=true→lA l∧∀q,p=some q→∀x∈l.map (·.aq),lt q x=true
 |[],p,_=>⟨by simp [lA,mj],fun _ _ x hx=>by simp at hx⟩
 |m::l,p,h=>by
  rw[zK]at h;simp only[af7]at h;obtain⟨_,_,h3,h4⟩:=h;obtain⟨i1,i2⟩:=MA l (some m.aq) h4;refine⟨List.pairwise_cons.mpr ⟨i2 _ rfl,i1⟩,fun q hq x hx=> ?_⟩;subst hq;simp only[agv,agA]at hx;rcases hx with e|e
  ·subst e;exact h3
  ·exact qy h3 (i2 _ rfl x e)
theorem MR{x:aw}(h:eg x=true):lA x.xL:=(MA _ _ h).1
theorem aeo(a b:aw):Lp a b=ib a b:=by
 unfold Lp ib;split
 next h=>
  simp only[af7]at h;have ha:=MR h.1;have hb:=MR h.2;obtain⟨f1,f2⟩:=R6 ([a,b].flatMap fun x=>x.xL.map (·.aq)) [] (by simp [mj]);have hn:sq [a,b]=(eF a.xL b.xL).map (·.1):=M3 f1 (xk _ _ ha hb) fun x=>by
   rw[kj];unfold sq;rw[f2 x];simp
  rw[hn,←ya _ _ ha hb]
 ·rfl
set_option linter.unusedSimpArgs false
def gG(l:aw):Prop:=l.xL.length≤maxLen
structure Mw(x:az):Prop where
 iQ:gG x.aL
 at_:∀l∈x.bj,gG l
structure yq(e:ar):Prop where
 iQ:gG e.aL
 idx:∀x∈e.xIdx,Mw x
 args:e.a7.length≤maxLen
def mR(e:ar):Prop:=∀x∈dd e,yq x
def pJ(l:aw):Bool:=l.xK.toInt==0&&l.xL.length==0
def lU(x:az):Bool:=bif bL x.aV==[]then x.bj.length==0 else pJ x.aL
def DP(v:fO):Bool:=v.xN.toInt==0&&v.xD.toInt==0
def Ft(t:bn):Bool:=t.bW==0&&(t.ca==0&&(t.cF==0&&(t.cE==0&&t.cJ==0)))
def ma(e:ar):Bool:=decide (1≤e.aQ)&&(decide (e.aQ≤18)&&((e.aQ==1||DP e.dm)&&((e.aQ==1||(e.aQ==12||Ft e.aC))&&((e.aQ==2||pJ e.aL)&&((e.aQ==3||(bL e.aq==[]&&e.xIdx.length==0))&&e.xIdx.all lU)))))
def oZ(e:ar):Bool:=(!(e.aQ==3)||fF e.aq)&&e.xIdx.all fun x=>bL x.aV==[]||fF x.aV
def mu(op:Int):Int:=bif op==1||(op==2||op==3)then 0 else bif op==8||(op==12||op==18)then 1 else bif op==11 then 3 else 2
def lO(e:ar):Bool:=(e.a7.length:Int)==mu e.aQ&&(decide (e.xIdx.length≤6)&&e.xIdx.all fun x=>decide (x.bj.length≤6))
def o7(e:ar):Bool:=decide (13≤e.aQ)&&decide (e.aQ≤18)
def tN(op:Int)(i:Nat):Bool:=(op==11&&i==0)||(op==16||(op==17||op==18))
def xM(op:Int):Nat→agU ar→Bool
 |_,[]=>true
 |i,a::l=>o7 a==tN op i&&xM op (i+1) l
def mq(e:ar):Bool:=(!(e.aQ==1||e.aQ==12)||iG e.aC)&&xM e.aQ 0 e.a7
def sE(e:ar):Bool:=(!(e.aQ==1)||uU e.aC e.dm)&&(jU e).all eg
def lX(e:ar):Int:=bif ma e then bif oZ e then bif lO e then bif mq e then bif sE e then 0 else 1 else 10 else 11 else 7 else 5
theorem rl(n:Nat):((n:Int)==(0:Int))=(n==0):=uy n 0
theorem FQ(n:Nat):decide ((n:Int)>(0:Int))= !(n==0):=by
 by_cases h:n=0
 ·subst h;rfl
 ·rw[agN (show(n:Int)>0 by omega),beq_false_of_ne h];rfl
theorem Oy(N:Nat)(l:aw):x6 N l=some (pJ l):=by
 unfold x6 pJ;rw[iB,af4,rl]
theorem Z1(N:Nat)(x:az):Ah N x=some (lU x):=by
 unfold Ah lU;rw[Oy,af4,rl,od];cases bL x.aV==[]<;>rfl
theorem JM{α:Type}(f:α→Bool)(l:agU α):(l.any fun x=> !f x)= !l.all f:=by
 induction l with
 |nil=>rfl
 |cons x l ih=>rw[agR,agQ,ih];cases f x<;>rfl
theorem Tm(N:Nat):∀(l:agU az)(k:Nat),∃z:Int,sZ N l k=some z∧decide (z≥0)=l.any fun x=> !lU x
 |[],k=>⟨-1,rfl,rfl⟩
 |x::l,k=>by
  rw[sZ,agR];unfold Gg;rw[Z1,af4,af4];cases h: !lU x with
  |true=>exact⟨k,rfl,agN (by omega)⟩
  |false=>exact Tm N l (k+1)
theorem aaR(N:Nat)(l:agU az):Bh N l=some (!l.all lU):=by
 unfold Bh ER;obtain⟨z,h1,h2⟩:=Tm N l 0;rw[h1,af4,h2,JM]
theorem ME(v:fO):((v.xN.toInt==(0:Int64).toInt)&&((v.xD.toInt==(0:Int64).toInt)&&true))=DP v:=by rw[Bool.and_true];rfl
theorem Rf(t:bn):((t.bW==(0:Int))&&((t.ca==(0:Int))&&((t.cF==(0:Int))&&((t.cE==(0:Int))&&((t.cJ==(0:Int))&&true)))))=Ft t:=by rw[Bool.and_true];rfl
theorem pR(a b:Bool):(bif a then some false else some b)=some (!a&&b):=by cases a<;>rfl
theorem SC(a b:Bool):(bif a then some b else some true)=some (!a||b):=by cases a<;>rfl
theorem adB(N:Nat)(e:ar):yX N e=some (ma e):=by
 unfold yX ma;simp only[FQ];simp only[l6,iB,pR,SC,af4,AN,JU,Oy,aaR,ME,Rf,od];cases decide (1≤e.aQ)<;>cases decide (e.aQ≤18)<;>cases e.aQ==1<;>cases DP e.dm<;>cases e.aQ==12<;>cases Ft e.aC<;>cases e.aQ==2<;>cases pJ e.aL<;>cases e.aQ==3<;>cases bL e.aq==[]<;>cases e.xIdx.length==0<;>cases e.xIdx.all lU<;>rfl
theorem Rj(N:Nat):∀(l:agU az)(k:Nat),Gl N l k=some (l.all lU)
 |[],_=>rfl
 |x::l,k=>by
  rw[Gl,agQ,Rj N l (k+1)];unfold lU pJ;simp only[l6,Wb,iB,af4,FQ,yz,od];cases bL x.aV==[]<;>cases x.bj.length==0<;>cases x.aL.xK.toInt==0<;>cases x.aL.xL.length==0<;>rfl
theorem ZW(N:Nat)(e:ar):Hy N e=some (ma e):=by
 unfold Hy ma;simp only[FQ];simp only[l6,iB,pR,SC,af4,AN,JU,yz,Rj,ME,Rf,od];unfold pJ;cases decide (1≤e.aQ)<;>cases decide (e.aQ≤18)<;>cases e.aQ==1<;>cases DP e.dm<;>cases e.aQ==12<;>cases Ft e.aC<;>cases e.aQ==2<;>cases e.aL.xK.toInt==0<;>cases e.aL.xL.length==0<;>cases e.aQ==3<;>cases bL e.aq==[]<;>cases e.xIdx.length==0<;>cases e.xIdx.all lU<;>rfl
theorem acp(N:Nat)(hN:16<N)(x:az):BS N x=some (!(bL x.aV==[]||fF x.aV)):=by
 unfold BS;rw[Em N _ hN,af4,pR,af4,od];cases bL x.aV==[]<;>rfl
theorem UB(N:Nat)(hN:16<N):∀(l:agU az)(k:Nat),∃z:Int,vm N l k=some z∧decide (z≥0)=l.any fun x=> !(bL x.aV==[]||fF x.aV)
 |[],k=>⟨-1,rfl,rfl⟩
 |x::l,k=>by
  rw[vm,agR,acp N hN,af4];cases h: !(bL x.aV==[]||fF x.aV)with
  |true=>exact⟨k,rfl,agN (by omega)⟩
  |false=>exact UB N hN l (k+1)
theorem ab1(N:Nat)(hN:16<N)(e:ar):Cd N e=some (oZ e):=by
 unfold Cd oZ GJ DS;obtain⟨z,h1,h2⟩:=UB N hN e.xIdx 0;rw[Em N _ hN,af4,h1];simp only[af4,h2,JM,iB,pR];cases e.aQ==3<;>cases fF e.aq<;>cases (e.xIdx.all fun x=>bL x.aV==[]||fF x.aV)<;>rfl
theorem Pb(N:Nat)(hN:16<N):∀(l:agU az)(k:Nat),EZ N l k=some (l.all fun x=>bL x.aV==[]||fF x.aV)
 |[],_=>rfl
 |x::l,k=>by
  rw[EZ,agQ,Pb N hN l (k+1),GF N _ hN,af4,pR,af4,pR,od];cases bL x.aV==[]<;>cases fF x.aV<;>rfl
theorem ae7(N:Nat)(hN:16<N)(e:ar):H8 N e=some (oZ e):=by
 unfold H8 oZ;rw[GF N _ hN,af4,Pb N hN];simp only[af4,iB,pR];cases e.aQ==3<;>cases fF e.aq<;>rfl
theorem Su(N:Nat):∀(l:agU az)(k:Nat),∃z:Int,s8 N l k=some z∧decide (z≥0)=l.any fun x=> !decide (x.bj.length≤6)
 |[],k=>⟨-1,rfl,rfl⟩
 |x::l,k=>by
  rw[s8,agR];unfold GC;rw[af4,show decide ((x.bj.length:Int)>(6:Int))= !decide (x.bj.length≤6)from jG _ 6];cases h: !decide (x.bj.length≤6)with
  |true=>exact⟨k,rfl,agN (by omega)⟩
  |false=>exact Su N l (k+1)
theorem aac(N:Nat)(op:Int):zi N op=some (mu op):=by
 unfold zi vC yi mu;cases op==1<;>cases op==2<;>cases op==3<;>cases op==8<;>cases op==12<;>cases op==18<;>cases op==11<;>rfl
theorem ab9(N:Nat)(op:Int):Ks N op=some (mu op):=by
 unfold Ks D6 Fz mu;cases op==1<;>cases op==2<;>cases op==3<;>cases op==8<;>cases op==12<;>cases op==18<;>cases op==11<;>rfl
theorem Xo(N:Nat)(e:ar):AO N e=some (lO e):=by
 unfold AO lO Dc GR;obtain⟨z,h1,h2⟩:=Su N e.xIdx 0;rw[aac,af4,h1,show decide ((e.xIdx.length:Int)>(6:Int))= !decide (e.xIdx.length≤6)from jG _ 6];simp only[af4,h2,JM,l6,pR,yz];cases (e.a7.length:Int)==mu e.aQ<;>cases decide (e.xIdx.length≤6)<;>cases (e.xIdx.all fun x=>decide (x.bj.length≤6))<;>rfl
theorem Q3(N:Nat):∀(l:agU az)(k:Nat),DL N l k=some (l.all fun x=>decide (x.bj.length≤6))
 |[],_=>rfl
 |x::l,k=>by
  rw[DL,agQ,Q3 N l (k+1),show decide ((x.bj.length:Int)>(6:Int))= !decide (x.bj.length≤6)from jG _ 6];cases decide (x.bj.length≤6)<;>rfl
theorem ZN(N:Nat)(e:ar):Ko N e=some (lO e):=by
 unfold Ko lO;rw[ab9,af4,Q3,show decide ((e.xIdx.length:Int)>(6:Int))= !decide (e.xIdx.length≤6)from jG _ 6];simp only[af4,l6,pR,yz];cases (e.a7.length:Int)==mu e.aQ<;>cases decide (e.xIdx.length≤6)<;>rfl
theorem PJ(N:Nat)(e:ar):wJ N e=some (o7 e):=by
 unfold wJ o7;rw[iB,af4]
theorem KA(N:Nat)(e:ar):Eo N e=some (o7 e):=by
 unfold Eo o7;rw[pL,iB,af4]
theorem Vm(N:Nat)(op:Int)(i:Nat):Az N op (i:Int)=some (tN op i):=by
 unfold Az vV tN;rw[rl];cases op==16<;>cases op==17<;>cases op==18<;>cases op==11<;>cases i==0<;>rfl
theorem Wg(N:Nat)(op:Int)(i:Nat):HF N op (i:Int)=some (tN op i):=by
 unfold HF tN;rw[rl];cases op==16<;>cases op==17<;>cases op==18<;>cases op==11<;>cases i==0<;>rfl
theorem Td(N:Nat)(e:ar):∀(l:agU ar)(i:Nat),u7 N e l i=some (xM e.aQ i l)
 |[],_=>rfl
 |a::l,i=>by
  rw[u7,xM,PJ,af4,Vm,af4,Td N e l (i+1)];cases o7 a==tN e.aQ i<;>rfl
theorem UO(N:Nat)(e:ar):∀(l:agU ar)(i:Nat),Fv N e l i=some (xM e.aQ i l)
 |[],_=>rfl
 |a::l,i=>by
  rw[Fv,xM,KA,af4,Wg,af4,UO N e l (i+1)];cases o7 a==tN e.aQ i<;>rfl
theorem ac8(b:Bool):((bif b then(0:Int)else 10) !=0)= !b:=by cases b<;>rfl
theorem Zg(N:Nat)(e:ar):Cs N e=some (mq e):=by
 unfold Cs mq;rw[Ed,af4,Td];simp only[ac8];cases e.aQ==1<;>cases e.aQ==12<;>cases iG e.aC<;>rfl
theorem adk(N:Nat)(e:ar):L2 N e=some (mq e):=by
 unfold L2 mq;rw[LD,af4,UO];cases e.aQ==1<;>cases e.aQ==12<;>cases iG e.aC<;>rfl
theorem Ze(b:Bool):((bif b then(0:Int)else 1) !=0)= !b:=by cases b<;>rfl
theorem T6(N:Nat)(hN:16<N):∀l:agU aw,(∀x∈l,gG x)→sM N l=some (bif l.all eg then 0 else 1)
 |[],_=>rfl
 |x::l,h=>by
  rw[sM,wH N hN x (h x agb),af4,Ze,T6 N hN l (fun y hy=>h y (age _ hy)),agQ];cases eg x<;>rfl
theorem Rw(N:Nat)(hN:16<N)(c:Bool):∀(l:agU aw)(k:Nat),(∀x∈l,gG x)→En N (some c) l k=some (l.all eg&&c)
 |[],_,_=>rfl
 |x::l,k,h=>by
  rw[En,yY N hN x (h x agb),af4,Rw N hN c l (k+1) (fun y hy=>h y (age _ hy)),agQ];cases eg x<;>rfl
theorem UD(N:Nat)(hN:16<N):∀(l:agU az)(k:Nat),(∀x∈l,Mw x)→GB N l k=some ((l.flatMap mV).all eg)
 |[],_,_=>rfl
 |x::l,k,h=>by
  have hx:=h x agb;rw[GB,yY N hN _ hx.iQ,af4,UD N hN l (k+1) (fun y hy=>h y (age _ hy)),Rw N hN _ _ _ hx.at_,List.flatMap_cons,mV,List.cons_append,agQ,List.all_append];cases eg x.aL<;>rfl
theorem ZV{e:ar}(h:yq e):∀x∈jU e,gG x:=by
 intro x hx;unfold jU at hx;rcases agA.1 hx with rfl|hx
 ·exact h.iQ
 ·obtain⟨y,hy,hx⟩:=List.mem_flatMap.1 hx;unfold mV at hx;rcases agA.1 hx with rfl|hx
  ·exact(h.idx y hy).iQ
  ·exact(h.idx y hy).at_ x hx
theorem W7(N:Nat)(hN:2147483648<N)(e:ar)(h:yq e)(ht:mq e=true):Ju N e=some (sE e):=by
 unfold Ju sE jU;rw[agQ,yY N (by omega) _ h.iQ,af4,UD N (by omega) _ _ h.idx];cases h1:e.aQ==1 with
 |true=>
  have Cw:iG e.aC=true:=by
   unfold mq at ht;rw[h1]at ht;simp only[Bool.true_or,Bool.not_true,Bool.false_or,af7]at ht;exact ht.1
  rw[afd N hN _ _ Cw,af4];cases uU e.aC e.dm<;>cases eg e.aL<;>rfl
 |false=>cases eg e.aL<;>rfl
theorem YD(N:Nat)(hN:2147483648<N)(e:ar)(h:yq e):A7 N e=some (lX e):=by
 unfold A7 lX;rw[adB,af4];cases ma e with
 |false=>rfl
 |true=>
  simp only[cond_true];rw[ab1 N (by omega),af4];cases oZ e with
  |false=>rfl
  |true=>
   simp only[cond_true];rw[Xo,af4];cases lO e with
   |false=>rfl
   |true=>
    simp only[cond_true];rw[Zg,af4];cases ht:mq e with
    |false=>rfl
    |true=>
     simp only[cond_true];have hf:sM N (jU e)=_:=T6 N (by omega) (jU e) (ZV h);unfold sE I9;rw[af4,hf];cases h1:e.aQ==1 with
     |true=>
      have Cw:iG e.aC=true:=by
       unfold mq at ht;rw[h1]at ht;simp only[Bool.true_or,Bool.not_true,Bool.false_or,af7]at ht;exact ht.1
      rw[WC N hN _ _ Cw,af4];cases uU e.aC e.dm<;>cases (jU e).all eg<;>rfl
     |false=>cases (jU e).all eg<;>rfl
theorem kV{e x:ar}(h:x∈e.a7):SizeOf.sizeOf x<SizeOf.sizeOf e:=by
 have h1:=List.sizeOf_lt_of_mem h;cases e
 simp only[ar.mk.sizeOf_spec]at*;omega
theorem q6{e x y:ar}(h:x∈e.a7)(hy:y∈dd x):y∈dd e:=by
 have gen:∀l:agU ar,x∈l→y∈jE l:=by
  intro l
  induction l with
  |nil=>intro h;cases h
  |cons z l ih=>
   intro h;rw[xb];rcases agA.1 h with rfl|h
   ·exact List.mem_append_left _ hy
   ·exact List.mem_append_right _ (ih h)
 exact age _ (gen _ h)
theorem mR.node{e:ar}(h:mR e):yq e:=h e agb
theorem mR.arg{e x:ar}(h:mR e)(hx:x∈e.a7):mR x:=fun y hy=>h y (q6 hx hy)
def jT:agU ar→Int
 |[]=>0
 |x::l=>bif lX x !=0 then lX x else jT l
theorem Uq:∀a b:agU ar,jT (a++b)=bif jT a !=0 then jT a else jT b
 |[],_=>rfl
 |x::a,b=>by
  rw[List.cons_append,jT,jT,Uq a b];cases h:lX x !=0 with
  |true=>simp only[cond_true,h]
  |false=>rfl
theorem M6(N:Nat)(hN:2147483648<N):∀l:agU ar,(∀x∈l,yq x)→vb N l=some (jT l)
 |[],_=>rfl
 |x::l,h=>by
  rw[vb,YD N hN x (h x agb),af4,M6 N hN l (fun y hy=>h y (age _ hy)),jT];cases lX x !=0<;>rfl
theorem PL(N:Nat)(rec:ar→agW Int):∀(l:agU ar)(k:Nat),(∀x∈l,rec x=some (jT (dd x)))→FZ N rec l k=some (jT (jE l))
 |[],_,_=>by rw[jE];rfl
 |x::l,k,h=>by
  rw[FZ,h x agb,af4,PL N rec l (k+1) (fun y hy=>h y (age _ hy)),xb,Uq];cases jT (dd x) !=0<;>rfl
theorem QN(N:Nat)(hN:2147483648<N):∀(d:Nat)(e:ar),SizeOf.sizeOf e<d→mR e→BV N d e=some (jT (dd e))
 |0,_,h,_=>absurd h (agy _)
 |d+1,e,h,hk=>by
  rw[BV];have hl:=PL N (BV N d) e.a7 0 fun x hx=>QN N hN d x (by have:=kV hx;omega) (hk.arg hx);unfold dd;rw[jT];unfold lX;rw[ZW,af4];cases ma e with
  |false=>rfl
  |true=>
   simp only[cond_true];rw[ae7 N (by omega),af4];cases oZ e with
   |false=>rfl
   |true=>
    simp only[cond_true];rw[ZN,af4];cases lO e with
    |false=>rfl
    |true=>
     simp only[cond_true];rw[adk,af4];cases ht:mq e with
     |false=>rfl
     |true=>
      simp only[cond_true];rw[W7 N hN e hk.node ht,af4,hl];cases sE e<;>rfl
def hY:Nat→ar→Nat
 |0,_=>1
 |L+1,e=>e.a7.foldl (fun m a=>max m (1+hY L a)) 1
theorem PQ{α:Type}(f:α→Nat)(b:Nat):∀(l:agU α)(m:Nat),m≤b→(∀x∈l,f x≤b)→l.foldl (fun m a=>max m (f a)) m≤b
 |[],_,h,_=>h
 |x::l,_,h,hl=>PQ f b l _ (Nat.max_le.2 ⟨h,hl x agb⟩) fun y hy=>hl y (age _ hy)
theorem KH:∀(L:Nat)(e:ar),hY L e≤L+1
 |0,_=>agh _
 |L+1,e=>PQ (fun a=>1+hY L a) (L+2) e.a7 1 (by omega) fun x _=>by have:=KH L x;show 1+hY L x≤L+2;omega
theorem sJ{z:Int}(h1: -9223372036854775808≤z)(h2:z<9223372036854775808):a8 z=z:=by
 unfold a8;rw[IntKind.wrap_i64];omega
theorem C5(a b:Nat):(if((a:Nat):Int)>((b:Nat):Int)then((a:Nat):Int)else(b:Int))=((max b a:Nat):Int):=by
 split<;>omega
theorem UT(N:Nat)(rec:ar→Int→agW Int)(L:Nat)(hL:L≤100):∀(l:agU ar)(k m:Nat),(∀x∈l,rec x ((L:Int)+1)=some ((hY L x:Nat):Int))→vi N rec ((L:Int)+1+1) l k (m:Int)=some ((l.foldl (fun m a=>max m (1+hY L a)) m:Nat):Int)
 |[],_,_,_=>rfl
 |x::l,k,m,h=>by
  have h1:=KH L x;rw[vi,sJ (by omega) (by omega),show(L:Int)+1+1-1=(L:Int)+1 by omega,h x agb,af4];rw[sJ (by omega) (by omega),show(1:Int)+((hY L x:Nat):Int)=((1+hY L x:Nat):Int) by omega,C5];exact UT N rec L hL l (k+1) _ fun y hy=>h y (age _ hy)
theorem Ub(N:Nat):∀(L d:Nat)(e:ar),L<d→L≤100→m0 N d e ((L:Int)+1)=some ((hY L e:Nat):Int)
 |L,0,_,h,_=>absurd h (agy _)
 |0,d+1,e,_,_=>by rw[m0];rfl
 |L+1,d+1,e,h,hL=>by
  rw[m0,agO (by omega)];simp only[cond_false];exact UT N (m0 N d) L (by omega) e.a7 0 1 fun x _=>Ub N L d x (by omega) (by omega)
theorem SP(N:Nat)(rec:ar→Int→agW Int)(L:Nat)(hL:L≤100):∀(l:agU ar)(k m:Nat),(∀x∈l,rec x ((L:Int)+1)=some ((hY L x:Nat):Int))→xQ N ((L:Int)+1+1) rec l k (m:Int)=some ((l.foldl (fun m a=>max m (1+hY L a)) m:Nat):Int)
 |[],_,_,_=>rfl
 |x::l,k,m,h=>by
  have h1:=KH L x;rw[xQ,agN (show(L:Int)+1+1>1 by omega)];simp only[cond_true];rw[sJ (by omega) (by omega),show(L:Int)+1+1-1=(L:Int)+1 by omega,h x agb,af4];rw[sJ (by omega) (by omega),show(1:Int)+((hY L x:Nat):Int)=((1+hY L x:Nat):Int) by omega,C5];exact SP N rec L hL l (k+1) _ fun y hy=>h y (age _ hy)
theorem adz(N:Nat)(rec:ar→Int→agW Int):∀l:agU ar,xQ N 1 rec l 0 1=some 1
 |[]=>rfl
 |x::l=>by rw[xQ];rfl
theorem OY(N:Nat):∀(L d:Nat)(e:ar),L<d→L≤100→tJ N d e ((L:Int)+1)=some ((hY L e:Nat):Int)
 |L,0,_,h,_=>absurd h (agy _)
 |0,d+1,e,_,_=>by rw[tJ];exact adz N _ _
 |L+1,d+1,e,h,hL=>by
  rw[tJ];exact SP N (tJ N d) L (by omega) e.a7 0 1 fun x _=>OY N L d x (by omega) (by omega)
theorem Ry(N:Nat):∀(l:agU ar)(v:Nat),v≤2000→rZ N l (v:Int)=some ((min (v+l.length) 2001:Nat):Int)
 |[],v,h=>by rw[rZ];congr 2;simp only[agi];omega
 |x::l,v,h=>by
  rw[rZ,sJ (by omega) (by omega)];by_cases h2:v+1>2000
  ·rw[agN (by omega)];simp only[cond_true]
   congr 1
   simp only[af8];omega
  ·rw[agO (by omega)];simp only[cond_false];rw[show(v:Int)+1=((v+1:Nat):Int) by omega,Ry N l (v+1) (by omega)]
   congr 3
   simp only[af8];omega
theorem Xw(N:Nat)(e:ar):yy N e=some ((min (dd e).length 2001:Nat):Int):=by
 unfold yy sm;have:=Ry N (dd e) 0 (by omega);rw[agq]at this;exact this
theorem OD(N:Nat)(rec:ar→Int→agW Int)(m:Nat)(hm:m≤4000):∀(l:agU ar)(k n:Nat),n≤m+1→(∀x∈l,∀q:Nat,q≤m→rec x (q:Int)=some ((min (dd x).length (q+1):Nat):Int))→Bo N (m:Int) rec l k (n:Int)=some ((min (n+(jE l).length) (m+1):Nat):Int)
 |[],k,n,hn,_=>by rw[Bo,jE];congr 2;simp only[agi];omega
 |x::l,k,n,hn,h=>by
  rw[Bo];by_cases h2:n≤m
  ·rw[agN (by omega)];simp only[cond_true];rw[sJ (by omega) (by omega),show(m:Int)-(n:Int)=((m-n:Nat):Int) by omega,h x agb (m-n) (by omega),af4];rw[sJ (by omega) (by omega),show(n:Int)+((min (dd x).length (m-n+1):Nat):Int)=((n+min (dd x).length (m-n+1):Nat):Int) by omega];rw[OD N rec m hm l (k+1) _ (by omega) fun y hy=>h y (age _ hy),xb,af6]
   congr 2
   omega
  ·rw[agO (by omega)];simp only[cond_false]
   congr 1
   omega
theorem Nx(N:Nat):∀(d:Nat)(e:ar)(m:Nat),SizeOf.sizeOf e<d→m≤4000→yd N d e (m:Int)=some ((min (dd e).length (m+1):Nat):Int)
 |0,_,_,h,_=>absurd h (agy _)
 |d+1,e,m,h,hm=>by
  rw[yd];have:=OD N (yd N d) m hm e.a7 0 1 (by omega) fun x hx q hq=>Nx N d x q (by have:=kV hx;omega) (by omega);rw[show((1:Nat):Int)=1 from rfl]at this;rw[this]
  congr 2
  unfold dd;simp only[af8];omega
def lI(e:ar):Int:=bif decide (40<hY 40 e)then 13 else bif decide (2000<(dd e).length)then 2 else jT (dd e)
theorem abg(N:Nat)(hN:2147483648<N)(e:ar)(h:mR e):zn N e=some (lI e):=by
 unfold zn CX ID lI;have hd:m0 N N e 41=_:=Ub N 40 N e (by omega) (by omega);rw[hd,af4,af4,Xw,af4];rw[nx (p:=((hY 40 e:Nat):Int)>40) (q:=40<hY 40 e) (by omega),nx (p:=((min (dd e).length 2001:Nat):Int)>2000) (q:=2000<(dd e).length) (by omega)];cases decide (40<hY 40 e)<;>cases decide (2000<(dd e).length)<;>try rfl
 simp only[cond_false];exact M6 N hN (dd e) h
theorem VL(N:Nat)(hN:2147483648<N)(e:ar)(hs:SizeOf.sizeOf e<N)(h:mR e):GN N e=some (lI e):=by
 unfold GN Uw RW TE Ta S3 lI;have hd:tJ N N e 41=_:=OY N 40 N e (by omega) (by omega);have hz:yd N N e 2000=_:=Nx N N e 2000 hs (by omega);rw[hd,af4,af4,hz,af4,af4,QN N hN N e hs h,af4];rw[nx (p:=((hY 40 e:Nat):Int)>40) (q:=40<hY 40 e) (by omega)];rw[show(if(2001:Int)<((min (dd e).length 2001:Nat):Int)then(2001:Int)else((min (dd e).length 2001:Nat):Int))=((min (dd e).length 2001:Nat):Int) by split<;>omega];rw[nx (p:=((min (dd e).length 2001:Nat):Int)>2000) (q:=2000<(dd e).length) (by omega)];cases decide (40<hY 40 e)<;>cases decide (2000<(dd e).length)<;>rfl
set_option linter.unusedVariables false
def cC(l:agU agV)(s:agV):Bool:=l.any fun w=>bL w==bL s
theorem ug(N:Nat)(l:agU agV)(s:agV):lu N l s=some (cC l s):=Ms N s l 0
theorem iO(a b:agU agV)(s:agV):cC (a++b) s=(cC a s||cC b s):=List.any_append
theorem Bg{s x:agV}(h:(bL s==bL x)=true)(l:agU agV):cC l x=cC l s:=by
 unfold cC;rw[beq_iff_eq.1 h]
theorem xX(s x:agV):cC [s] x=(bL s==bL x):=by unfold cC;rw[agR,List.any_nil,Bool.or_false]
theorem Ui(N:Nat)(l:agU agV)(s:agV):qD N l s=some (cC l s):=by
 unfold qD Ae;obtain⟨z,h1,h2⟩:=Hc N s l 0;rw[h1,af4,h2];rfl
def iv(t:agU agV)(s:agV):Int:=bif fF s then bif cC t s then 8 else 0 else 7
theorem Di(N:Nat)(hN:16<N)(s:agV)(t:agU agV):xh N s t=some (iv t s):=by
 unfold xh iv;rw[GF N s hN,af4,ug,af4];cases fF s<;>cases cC t s<;>rfl
theorem Eg{t:agU agV}{s:agV}(h:iv t s=0):fF s=true∧cC t s=false:=by
 unfold iv at h;cases h1:fF s<;>cases h2:cC t s<;>rw[h1,h2]at h<;>first|exact⟨rfl,rfl⟩|(exact absurd h (by decide))
structure KN(m:List (ByteArray×Int))(S T:List ByteArray):Prop where
 val:∀s,gi m s 0=bif cC S s then 1 else bif cC T s then 2 else 0
 len:m.length≤S.length+T.length
 SQ:∀s,cC T s=true→cC S s=false
section
variable {m:agU (agV×Int)} {S T:agU agV}
theorem KN.ne0(h:KN m S T)(s:agV):(gi m s 0 !=0)=cC (S++T) s:=by
 rw[h.val,iO];cases cC S s<;>cases cC T s<;>rfl
theorem KN.ne1(h:KN m S T)(s:agV):(gi m s 0 !=1)= !cC S s:=by
 rw[h.val];cases cC S s<;>cases cC T s<;>rfl
theorem KN.Ct(h:KN m S T)(s:agV):(gi m s 0==1)=cC S s:=by
 rw[h.val];cases cC S s<;>cases cC T s<;>rfl
theorem KN.Zc(h:KN m S T)(s:agV):(gi m s 0 !=2)= !cC T s:=by
 have:=h.SQ s;rw[h.val];cases e1:cC S s<;>cases e2:cC T s<;>first|rfl|(rw[e1]at this;exact absurd (this e2) (by decide))
theorem E8{V:Type}(k:agV)(v:V)(m:agU (agV×V))(s:agV)(d:V):gi ((k,v)::m) s d=bif bL k==bL s then v else gi m s d:=rfl
theorem KN.NJ(h:KN m S T){s:agV}(hs:cC (S++T) s=false):KN ((s,2)::m) S (T++[s]):=by
 rw[iO,agT]at hs;refine⟨fun x=> ?_,by have:=h.len;simp only[af8,af6,agi];omega,fun x hx=> ?_⟩
 rotate_left
 ·rw[iO,xX]at hx;cases e:bL s==bL x with
  |true=>rw[Bg e];exact hs.1
  |false=>rw[e,Bool.or_false]at hx;exact h.SQ x hx
 rw[E8,h.val,iO,xX];cases e:bL s==bL x with
 |true=>rw[Bg e,hs.1];cases cC T x<;>rfl
 |false=>cases cC S x<;>cases cC T x<;>rfl
theorem KN.mL(h:KN m S [])(s:agV):KN ((s,1)::m) (S++[s]) []:=by
 refine⟨fun x=> ?_,by have:=h.len;simp only[af8,af6,agi]at*;omega,fun x hx=>by cases hx⟩;rw[E8,h.val,iO,xX];cases e:bL s==bL x<;>cases cC S x<;>rfl
theorem KN.nil:KN [] [] []:=⟨fun _=>rfl,agh _,fun _ h=>by cases h⟩
theorem HJ(N:Nat)(hN:16<N)(s:agV)(k:Int)(p:aY)(h:KN m S T)(hl:S.length+T.length<9223372036854775807):
 sV N s k p m=some (iv (S++T) s,bif iv (S++T) s==0 then(s,k)::m else m):=by
 unfold sV iv;rw[Em N s hN,af4,h.ne0,show Nat.blt m.length 9223372036854775807=true from Nat.ble_eq_true_of_le (by have:=h.len;omega)];cases fF s<;>cases cC (S++T) s<;>rfl
def qo(V:agU agV)(l:aw):Bool:=l.xL.all fun m=>cC V m.aq
def gX(S:agU agV)(l:aw):Int:=bif eg l then bif qo S l then 0 else 9 else 1
theorem TJ(N:Nat)(h:KN m S T):∀(l:agU aF)(k:Nat),tS N m l k=some (bif l.all (fun m=>cC S m.aq)then 0 else 9)
 |[],_=>rfl
 |x::l,k=>by
  rw[tS,h.ne1,agQ,TJ N h l];cases cC S x.aq<;>rfl
theorem HM(N:Nat)(hN:16<N)(l:aw)(p:aY)(hl:gG l)(h:KN m S T):vn N l p m=some (gX S l):=by
 unfold vn gX;rw[wH N hN l hl,af4,TJ N h];cases eg l<;>rfl
theorem Q5(N:Nat)(V W:agU agV):∀(l:agU aF)(k:Nat),Fl N V W l k=some (l.all fun m=>cC (V++W) m.aq)
 |[],_=>rfl
 |x::l,k=>by
  rw[Fl,ug,ug,agQ,Q5 N V W l,iO];cases cC V x.aq<;>cases cC W x.aq<;>rfl
theorem Jk(N:Nat)(V W:agU agV)(l:aw):E7 N l V W=some (qo (V++W) l):=Q5 N V W l.xL 0
theorem LY(N:Nat)(hN:16<N)(l:aw)(hl:gG l)(S:agU agV):A0 N l S=some (gX S l):=by
 unfold A0 gX;rw[yY N hN l hl,af4,Jk,af4];rw[List.nil_append];cases eg l<;>cases qo S l<;>rfl
theorem CJ(n:Nat):decide ((n:Int)>(6:Int))= !decide (n≤6):=jG n 6
theorem aaM(N:Nat)(t:bn)(n:Nat):rL N t [(n:Int)]=some (bif iG t then bif decide (n≤6)then 0 else 11 else 10):=by
 unfold rL;rw[Ed,af4,show zp N [(n:Int)]=some (n:Int)from rfl,af4,CJ];cases iG t<;>cases decide (n≤6)<;>rfl
theorem Wl(N:Nat)(t:bn)(n k:Nat):rL N t [(n:Int),(k:Int)]=some (bif iG t then bif decide (n≤6)&&decide (k≤6)then 0 else 11 else 10):=by
 unfold rL;rw[Ed,af4,show zp N [(n:Int),(k:Int)]=some (if(k:Int)>(n:Int)then(k:Int)else(n:Int))from rfl,af4,C5,CJ];have:decide (max n k≤6)=(decide (n≤6)&&decide (k≤6)):=by
  rw[Bool.eq_iff_iff,af7,decide_eq_true_iff,decide_eq_true_iff,decide_eq_true_iff];omega
 rw[this];cases iG t<;>cases (decide (n≤6)&&decide (k≤6))<;>rfl
def fA{α:Type}(f:α→Int):agU α→Int
 |[]=>0
 |x::l=>bif f x !=0 then f x else fA f l
def wM(S T:agU agV)(x:bN):Int:=bif iv (S++T) x.aq !=0 then iv (S++T) x.aq else bif iG x.aC then bif decide (x.aS.length≤6)then fA (gX S) x.aS else 11 else 10
theorem Ov(N:Nat)(hN:16<N)(p:aY)(q:Int×agU (agV×Int))(h:KN q.2 S T):∀(l:agU aw)(k:Nat),(∀x∈l,gG x)→uB N q p l k=some (fA (gX S) l,q.2)
 |[],_,_=>rfl
 |x::l,k,hx=>by
  rw[uB,HM N hN x p (hx x agb) h,af4,fA];cases gX S x !=0 with
  |true=>rfl
  |false=>exact Ov N hN p q h l (k+1) fun y hy=>hx y (age _ hy)
theorem gN{a:Int}(h:(a !=0)=false):a=0:=by
 rw[bne_eq_false_iff_eq]at h;exact h
theorem afr(N:Nat)(hN:16<N)(x:bN)(p:aY)(hx:∀y∈x.aS,gG y)(h:KN m S T)(hl:S.length+T.length<9223372036854775807):
 ∃m',yP N x p m=some (wM S T x,m')∧(wM S T x=0→KN m' S (T++[x.aq])):=by
 unfold yP wM;rw[HJ N hN x.aq 2 p h hl,af4,aaM];simp only[];cases e:iv (S++T) x.aq !=0 with
 |true=>exact⟨_,rfl,fun h0=>by rw[cond_true]at h0;rw[h0]at e;cases e⟩
 |false=>
  have e0:=gN e;have k:=h.NJ (Eg e0).2;rw[e0];simp only[agP,cond_true,cond_false];cases iG x.aC with
  |false=>exact⟨_,rfl,fun h0=>by cases h0⟩
  |true=>
   cases decide (x.aS.length≤6)with
   |false=>exact⟨_,rfl,fun h0=>by cases h0⟩
   |true=>exact⟨_,Ov N hN p (0,(x.aq,2)::m) k x.aS 0 hx,fun _=>k⟩
theorem Pv(N:Nat)(hN:16<N)(S:agU agV):∀(l:agU aw)(k:Nat),(∀x∈l,gG x)→Gs N S l k=some (fA (gX S) l)
 |[],_,_=>rfl
 |x::l,k,hx=>by
  rw[Gs,LY N hN x (hx x agb),af4,fA];cases gX S x !=0 with
  |true=>rfl
  |false=>exact Pv N hN S l (k+1) fun y hy=>hx y (age _ hy)
theorem ZM(N:Nat)(hN:16<N)(x:bN)(S T:agU agV)(hx:∀y∈x.aS,gG y):Kp N x S (S++T)=some (wM S T x):=by
 unfold Kp wM;rw[Di N hN,af4,LD,af4,CJ,Pv N hN S _ _ hx];cases iv (S++T) x.aq !=0<;>cases iG x.aC<;>cases decide (x.aS.length≤6)<;>rfl
def mI(S:agU agV):agU agV→agU bf→Int
 |_,[]=>0
 |O,a::l=>bif iv (S++O) a.aq !=0 then iv (S++O) a.aq else bif gX S a.ep !=0 then gX S a.ep else mI S (O++[a.aq]) l
structure ON(w:List (ByteArray×Bool))(O:List ByteArray):Prop where
 val:∀s,gi w s false=cC O s
 len:w.length≤O.length
theorem ON.add{w:agU (agV×Bool)}{O:agU agV}(h:ON w O)(s:agV):ON ((s,true)::w) (O++[s]):=by
 refine⟨fun x=> ?_,by have:=h.len;simp only[af8,af6,agi];omega⟩;rw[E8,h.val,iO,xX];cases bL s==bL x<;>cases cC O x<;>rfl
theorem Oa(N:Nat)(hN:16<N)(p:aY)(h:KN m S T):∀(l:agU bf)(k:Nat)(w:agU (agV×Bool))(O:agU agV),ON w O→(∀x∈l,gG x.ep)→O.length+l.length<9223372036854775807→
 vl N m p l k w=some (mI S O l)
 |[],_,_,_,_,_,_=>rfl
 |a::l,k,w,O,hw,hx,hl=>by
  have nc:O.length+l.length+1<9223372036854775807:=by simp only[af8]at hl;omega
  rw[vl,Em N _ hN,af4,hw.val,h.Ct,HM N hN _ p (hx a agb) h,af4,mI,
    show Nat.blt w.length 9223372036854775807=true from Nat.ble_eq_true_of_le (by have:=hw.len;omega)]
  have ih:=Oa N hN p h l (k+1) _ _ (hw.add a.aq) (fun y hy=>hx y (age _ hy)) (by simp only[af6,af8,agi];omega);unfold iv;dsimp only;rw[iO,ih];cases fF a.aq<;>cases cC S a.aq<;>cases cC O a.aq<;>first|rfl|(cases gX S a.ep !=0<;>rfl)
theorem Uu(N:Nat)(hN:16<N)(S:agU agV):∀(l:agU bf)(k:Nat)(O:agU agV),(∀x∈l,gG x.ep)→S.length+O.length+l.length<1000000000→
 DB N S l k (S++O)=some (mI S O l)
 |[],_,_,_,_=>rfl
 |a::l,k,O,hx,hl=>by
  have nc:S.length+O.length+l.length+1<1000000000:=by simp only[af8]at hl;omega
  rw[DB,Di N hN,af4,LY N hN _ (hx a agb),af4,mI,
    show Nat.ble (((S++O).length+1)*16) 140737488355328=true from Nat.ble_eq_true_of_le (by rw[af6];omega)]
  have ih:=Uu N hN S l (k+1) (O++[a.aq]) (fun y hy=>hx y (age _ hy)) (by simp only[af6,af8,agi];omega);rw[←agn]at ih;dsimp only;rw[ih];cases iv (S++O) a.aq !=0<;>cases gX S a.ep !=0<;>rfl
theorem VR(N:Nat)(hN:16<N)(S:agU agV)(l:agU bf)(hx:∀x∈l,gG x.ep)(hl:S.length+l.length<1000000000):IY N l S=some (mI S [] l):=by
 unfold IY;have:=Uu N hN S l 0 [] hx (by simp only[agi];omega);rw[agr]at this;rw[this,show Nat.ble ((0+S.length)*16) 140737488355328=true from Nat.ble_eq_true_of_le (by omega)];rfl
theorem yg{n:Nat}(h:n≤9223372036854775807):a8 (n:Int)=(n:Int):=sJ (by omega) (by omega)
theorem NG(N:Nat)(a b:agU bf)(h:a.length+b.length<1000000000):w6 N [a,b]=some (a++b):=by
 unfold w6;rw[rz,show a8 ((0:Int)+(a.length:Int))=((a.length:Nat):Int) by rw[Int.zero_add,yg (by omega)],show decide ((a.length:Int)<0)=false from agO (by omega)];simp only[cond_false];rw[rz,show a8 ((a.length:Int)+(b.length:Int))=((a.length+b.length:Nat):Int) by rw[←Int.natCast_add,yg (by omega)],show decide (((a.length+b.length:Nat):Int)<0)=false from agO (by omega)];simp only[cond_false];rw[rz];unfold HT;rw[show decide ((0:Int)≤((a.length+b.length:Nat):Int))=true from agN (by omega),agx,show Nat.ble ((a.length+b.length)*48) 140737488355328=true from Nat.ble_eq_true_of_le (by omega)];simp only[Bool.and_self,cond_true,af4];rw[tW];rw[show Nat.ble ((([]:agU bf).length+a.length)*48) 140737488355328=true from Nat.ble_eq_true_of_le (by simp only[agi];omega)];simp only[cond_true,List.nil_append];rw[tW];rw[show Nat.ble ((a.length+b.length)*48) 140737488355328=true from Nat.ble_eq_true_of_le (by omega)];rfl
theorem ad9(N:Nat)(hN:16<N)(d:aG)(p:aY)(h:KN m S T)(hx:∀x∈d.aS++d.bI,gG x.ep)(hl:d.aS.length+d.bI.length<1000000000):
 yE N d p m=some (mI S [] (d.aS++d.bI)):=by
 unfold yE;rw[NG N _ _ hl,af4];exact Oa N hN p h _ 0 [] [] ⟨fun _=>rfl,agh _⟩ hx (by simp only[af6,agi];omega)
end
def yA(d:aG):Int:=bif d.cG==0 then bif d.bI.length==0 then 0 else 11 else bif decide (1≤d.cG)&&decide (d.cG≤4)then bif d.bI.length==0 then 11 else 0 else bif d.cG==5 then bif d.bI.length==0&& !(d.aS.length==0)then 0 else 11 else 1
theorem RB(f:Int):f=0∨f=1∨f=2∨f=3∨f=4∨f=5∨(f<0∨5<f):=by omega
theorem XP(N:Nat)(d:aG):Ba N d=some (yA d):=by
 unfold Ba yA u9;rw[FQ,rl,rl];rcases RB d.cG with h|h|h|h|h|h|h
 ·rw[h];cases d.bI.length==0<;>rfl
 ·rw[h];cases d.bI.length==0<;>rfl
 ·rw[h];cases d.bI.length==0<;>rfl
 ·rw[h];cases d.bI.length==0<;>rfl
 ·rw[h];cases d.bI.length==0<;>rfl
 ·rw[h];cases d.bI.length==0<;>cases d.aS.length==0<;>rfl
 ·have e:∀k:Int,0≤k→k≤5→(d.cG==k)=false:=fun k h1 h2=>beq_eq_false_iff_ne.2 (by omega);have e2:(decide (1≤d.cG)&&decide (d.cG≤4))=false:=by
   rw[Bool.and_eq_false_iff,decide_eq_false_iff_not,decide_eq_false_iff_not];omega
  rw[e 0 (by decide) (by decide),e 1 (by decide) (by decide),e 2 (by decide) (by decide),e 3 (by decide) (by decide),e 4 (by decide) (by decide),e 5 (by decide) (by decide),e2];rfl
theorem Yb(N:Nat)(d:aG):Jx N d=some (yA d):=by
 unfold Jx yA;rw[rl,rl];rcases RB d.cG with h|h|h|h|h|h|h
 ·rw[h];cases d.bI.length==0<;>rfl
 ·rw[h];cases d.bI.length==0<;>rfl
 ·rw[h];cases d.bI.length==0<;>rfl
 ·rw[h];cases d.bI.length==0<;>rfl
 ·rw[h];cases d.bI.length==0<;>rfl
 ·rw[h];cases d.bI.length==0<;>cases d.aS.length==0<;>rfl
 ·have e:∀k:Int,0≤k→k≤5→(d.cG==k)=false:=fun k h1 h2=>beq_eq_false_iff_ne.2 (by omega);have e2:(decide (1≤d.cG)&&decide (d.cG≤4))=false:=by
   rw[Bool.and_eq_false_iff,decide_eq_false_iff_not,decide_eq_false_iff_not];omega
  have e3:(bif decide (d.cG<0)then some true else some (decide (d.cG>5)))=some true:=by
   rcases h with h|h
   ·rw[agN h];rfl
   ·rw[show decide (d.cG>5)=true from agN h];cases decide (d.cG<0)<;>rfl
  rw[e3,e 0 (by decide) (by decide),e 5 (by decide) (by decide),e2];rfl
def gr(B:Nat)(l:aw):Prop:=l.xL.length≤B
theorem gr.ok{l:aw}(h:gr 1000000000 l):gG l:=ago h (by decide)
theorem eu{n k:Nat}(h:n≤k):Nat.ble n k=true:=Nat.ble_eq_true_of_le h
theorem UG(N:Nat):∀(l:agU bf)(k:Nat)(acc:agU agV),acc.length+l.length≤1000000000→sC N l k acc=some (acc++l.map (·.aq))
 |[],_,acc,_=>by rw[sC,List.map_nil,agr]
 |a::l,k,acc,h=>by
  simp only[af8]at h;rw[sC,eu (by omega),cond_true];dsimp only;rw[UG N l (k+1) _ (by simp only[af6,af8,agi];omega)];rw[agv,agn];rfl
theorem ab3(N:Nat)(d:aG)(h:d.aS.length+d.bI.length<1000000000):Aw N d=some ((d.aS++d.bI).map (·.aq)):=by
 unfold Aw;rw[NG N _ _ h,af4,UG N _ _ _ (by simp only[af6,agi];omega),List.nil_append]
theorem Og(N:Nat):∀(l:agU bf)(k:Nat)(acc:agU agV),acc.length+l.length≤1000000000→yx N l k acc=some (acc++l.map (·.aq))
 |[],_,acc,_=>by rw[yx,List.map_nil,agr]
 |a::l,k,acc,h=>by
  simp only[af8]at h;rw[yx,eu (by omega),cond_true];dsimp only;rw[Og N l (k+1) _ (by simp only[af6,af8,agi];omega)];rw[agv,agn];rfl
theorem Sb(N:Nat)(d:aG):∀(l:agU bf)(k:Nat)(acc:agU agV),acc.length+l.length+d.bI.length≤1000000000→B9 N d l k acc=some (acc++(l++d.bI).map (·.aq))
 |[],_,acc,h=>by rw[B9,Og N _ _ _ (by simp only[agi]at h;omega),List.nil_append]
 |a::l,k,acc,h=>by
  simp only[af8]at h;rw[B9,eu (by omega),cond_true];dsimp only;rw[Sb N d l (k+1) _ (by simp only[af6,af8,agi];omega)];rw[List.cons_append,agv,agn];rfl
theorem adh(N:Nat)(d:aG)(h:d.aS.length+d.bI.length<1000000000):Mh N d=some ((d.aS++d.bI).map (·.aq)):=by
 unfold Mh;rw[Sb N d _ _ _ (by simp only[agi];omega),List.nil_append]
theorem ED(N:Nat)(l:aw)(h:gr 1000000000 l):qJ N l=some l:=by
 unfold qJ A9;rw[eu (by have:=h;unfold gr at this;omega)];rfl
theorem Py(N:Nat):∀(l:agU aw)(k:Nat)(acc:agU aw),acc.length+l.length≤1000000000→(∀x∈l,gr 1000000000 x)→qB N l k acc=some (acc++l)
 |[],_,acc,_,_=>by rw[qB,agr]
 |a::l,k,acc,h,hx=>by
  simp only[af8]at h;rw[qB,ED N a (hx a agb),af4,eu (by omega),cond_true];dsimp only;rw[Py N l (k+1) _ (by simp only[af6,af8,agi];omega) fun y hy=>hx y (age _ hy)];rw[agn];rfl
theorem Rm(N:Nat)(l:agU aw)(h:l.length≤1000000000)(hx:∀x∈l,gr 1000000000 x):vE N l=some l:=by
 unfold vE;rw[Py N l 0 [] (by simp only[agi];omega) hx,List.nil_append]
def eH(s:agV)(d:aG):Bool:=bL d.aq==bL s
def jY(D:agU aG)(s:agV)(k:Nat):Int:=match D.findIdx? (eH s)with|some i=>((k+i:Nat):Int)|none=> -1
theorem yF(d:aG)(D:agU aG)(s:agV)(k:Nat):jY (d::D) s k=bif eH s d then(k:Int)else jY D s (k+1):=by
 unfold jY;rw[List.findIdx?_cons];cases eH s d with
 |true=>rfl
 |false=>
  cases D.findIdx? (eH s)with
  |none=>rfl
  |some i=>simp only[cond_false,Bool.false_eq_true,if_false,Option.map_some];rw[Nat.add_assoc,Nat.add_comm 1 i]
theorem R8(N:Nat)(s:agV):∀(l:agU aG)(k:Nat),ta N s l k=some (jY l s k)
 |[],_=>rfl
 |d::l,k=>by
  rw[ta,yF,show vU N d s=some (eH s d)from rfl,af4,R8 N s l];cases eH s d<;>rfl
theorem IN(N:Nat)(p:aY)(s:agV):rH N p s=some (jY p.ay s 0):=by
 unfold rH CN;rw[R8];rfl
theorem N6(N:Nat)(s:agV):∀(l:agU aG)(k:Nat),Gj N s l k=some (jY l s k)
 |[],_=>rfl
 |d::l,k=>by
  rw[Gj,yF,N6 N s l];unfold eH;cases bL d.aq==bL s<;>rfl
theorem Re(N:Nat)(p:aY)(s:agV):Mm N p s=some (jY p.ay s 0):=N6 N s p.ay 0
theorem wq{α:Type}(f:α→Bool):∀l:agU α,(l.findIdx? f=none∧l.find? f=none)∨∃i d,l.findIdx? f=some i∧l[i]?=some d∧l.find? f=some d∧f d=true
 |[]=> .inl ⟨rfl,rfl⟩
 |x::l=>by
  rw[List.findIdx?_cons,List.find?_cons];cases e:f x with
  |true=>exact .inr ⟨0,x,rfl,rfl,rfl,e⟩
  |false=>
   simp only[Bool.false_eq_true,if_false];rcases wq f l with⟨h1,h2⟩|⟨i,d,h1,h2,h3,h4⟩
   ·exact .inl ⟨by rw[h1];rfl,h2⟩
   ·exact .inr ⟨i+1,d,by rw[h1];rfl,by rw[agH];exact h2,h3,h4⟩
def eE(P:agU bN)(D:agU aG)(s:agV):bn×agU aw×Bool:=
 match P.find? (fun x=>bL x.aq==bL s)with
 |some x=>(x.aC,x.aS,true)
 |none=>match D.find? (eH s)with
  |some d=>(d.aC,d.aS.map (·.ep),true)
  |none=>(fb,[],false)
theorem Om(N:Nat)(d:aG):∀(l:agU bf)(k:Nat)(acc:agU aw),acc.length+l.length≤1000000000→(∀x∈l,gr 1000000000 x.ep)→rW N d l k acc=some (d.aC,acc++l.map (·.ep),true)
 |[],_,acc,_,_=>by rw[rW,List.map_nil,agr]
 |a::l,k,acc,h,hx=>by
  simp only[af8]at h;rw[rW,ED N _ (hx a agb),af4,eu (by omega),cond_true];dsimp only;rw[Om N d l (k+1) _ (by simp only[af6,af8,agi];omega) fun y hy=>hx y (age _ hy)];rw[agv,agn];rfl
theorem NA(N:Nat)(d:aG):∀(l:agU bf)(k:Nat)(acc:agU aw),acc.length+l.length≤1000000000→AB N d l k acc=some (d.aC,acc++l.map (·.ep),true)
 |[],_,acc,_=>by rw[AB,List.map_nil,agr]
 |a::l,k,acc,h=>by
  simp only[af8]at h;rw[AB,eu (by omega),cond_true];dsimp only;rw[NA N d l (k+1) _ (by simp only[af6,af8,agi];omega)];rw[agv,agn];rfl
structure nj(P:List bN):Prop where
 len:∀x∈P,x.aS.length≤1000000000
 j8:∀x∈P,∀y∈x.aS,gr 1000000000 y
structure ic(D:List aG):Prop where
 len:∀d∈D,d.aS.length+d.bI.length<900000000
 j8:∀d∈D,∀y∈d.aS++d.bI,gr 1000000000 y.ep
theorem ic.JR{D:agU aG}(h:ic D){d:aG}(hd:d∈D):∀y∈d.aS,gr 1000000000 y.ep:=fun y hy=>h.j8 d hd y (List.mem_append_left _ hy)
theorem tO{α:Type}{l:agU α}{i:Nat}{d:α}(h:l[i]?=some d):d∈l:=agj h
theorem Pn(N:Nat)(p:aY)(s:agV)(hD:ic p.ay):∀(l:agU bN)(k:Nat),nj l→qI N p s l k=some (eE l p.ay s)
 |[],k,_=>by
  rw[qI,IN,af4];unfold eE jY;rw[List.find?_nil];rcases wq (eH s) p.ay with⟨h1,h2⟩|⟨i,d,h1,h2,h3,_⟩
  ·rw[h1,h2];rfl
  ·rw[h1,h3];simp only[agq];rw[show decide ((i:Int)≥0)=true from agN (by omega),agx,h2];simp only[cond_true,af4];rw[Om N d _ _ _ (by have:=hD.len d (tO h2);simp only[agi];omega) (hD.JR (tO h2)),List.nil_append]
 |x::l,k,hP=>by
  rw[qI,Pn N p s hD l (k+1) ⟨fun y hy=>hP.len y (age _ hy),fun y hy=>hP.j8 y (age _ hy)⟩];unfold eE;rw[List.find?_cons];cases bL x.aq==bL s with
  |true=>simp only[cond_true];rw[Rm N _ (hP.len x agb) (hP.j8 x agb)];rfl
  |false=>rfl
theorem Sx(N:Nat)(p:aY)(s:agV)(hP:nj p.bk)(hD:ic p.ay):zR N p s=some (eE p.bk p.ay s):=Pn N p s hD p.bk 0 hP
theorem TW(N:Nat)(s:agV):∀(D:agU aG)(k:Nat),ic D→Fu N s D k=some (eE [] D s)
 |[],_,_=>rfl
 |d::D,k,h=>by
  rw[Fu,TW N s D (k+1) ⟨fun y hy=>h.len y (age _ hy),fun y hy=>h.j8 y (age _ hy)⟩];unfold eE;rw[List.find?_nil,List.find?_cons];unfold eH;cases bL d.aq==bL s with
  |true=>
   simp only[cond_true];rw[NA N d _ _ _ (by have:=h.len d agb;simp only[agi];omega),List.nil_append]
  |false=>rfl
theorem M4(N:Nat)(s:agV)(p:aY)(hD:ic p.ay):∀(l:agU bN)(k:Nat),Bi N s p l k=some (eE l p.ay s)
 |[],k=>by rw[Bi,TW N s _ _ hD]
 |x::l,k=>by
  rw[Bi,M4 N s p hD l];unfold eE;rw[List.find?_cons];cases bL x.aq==bL s<;>rfl
theorem HS(N:Nat)(p:aY)(s:agV)(hD:ic p.ay):EB N p s=some (eE p.bk p.ay s):=M4 N s p hD p.bk 0
structure VN(m:List (ByteArray×Int))(V:List ByteArray):Prop where
 val:∀s,(gi m s 0==0)= !cC V s
 len:m.length≤V.length
theorem VN.add{m:agU (agV×Int)}{V:agU agV}(h:VN m V)(s:agV)(k:Int)(hk:(k==0)=false):VN ((s,k)::m) (V++[s]):=by
 refine⟨fun x=> ?_,by have:=h.len;simp only[af8,af6,agi];omega⟩;rw[E8,iO,xX];cases e:bL s==bL x with
 |true=>rw[cond_true,hk,Bool.or_true];rfl
 |false=>rw[cond_false,h.val,Bool.or_false]
def kS(V:agU agV)(l:aw):Int:=bif qo V l then 0 else 9
theorem M0(N:Nat){m:agU (agV×Int)}{V:agU agV}(h:VN m V):∀(l:agU aF)(k:Nat),td N m l k=some (bif l.all (fun m=>cC V m.aq)then 0 else 9)
 |[],_=>rfl
 |x::l,k=>by
  rw[td,h.val,agQ,M0 N h l];cases cC V x.aq<;>rfl
theorem HB(N:Nat){m:agU (agV×Int)}{V:agU agV}(h:VN m V)(l:aw)(p:aY):wZ N l p m=some (kS V l):=M0 N h l.xL 0
def nQ(V:agU agV)(P:agU bN)(D:agU aG)(x:az):Int:=
 bif bL x.aV==[]then kS V x.aL else bif (eE P D x.aV).2.2 then bif (eE P D x.aV).1.bW !=3 then 10 else bif x.bj.length==(eE P D x.aV).2.1.length then fA (kS V) x.bj else 11 else 9
theorem A6(a b:Nat):((a:Int) !=(b:Int))= !(a==b):=Ly a b
theorem TP(N:Nat){m:agU (agV×Int)}{V:agU agV}(h:VN m V)(p:aY):∀(l:agU aw)(k:Nat),vq N p m l k=some (fA (kS V) l)
 |[],_=>rfl
 |x::l,k=>by
  rw[vq,HB N h,af4,fA,TP N h p l];cases kS V x !=0<;>rfl
theorem aaG(N:Nat){m:agU (agV×Int)}{V:agU agV}(h:VN m V)(p:aY)(hP:nj p.bk)(hD:ic p.ay)(x:az):AI N x p m=some (nQ V p.bk p.ay x):=by
 unfold AI nQ;rw[od,HB N h,Sx N p _ hP hD,af4,af4,A6,TP N h p];cases bL x.aV==[]<;>cases (eE p.bk p.ay x.aV).2.2<;>cases (eE p.bk p.ay x.aV).1.bW !=3<;>cases x.bj.length==(eE p.bk p.ay x.aV).2.1.length<;>rfl
def mE(V:agU agV)(P:agU bN)(D:agU aG)(e:ar):Int:=
 bif (eE P D e.aq).2.2 then bif e.xIdx.length==(eE P D e.aq).2.1.length then fA (nQ V P D) e.xIdx else 11 else 9
def uz(t:bn)(x:Int):bn×Int:=(bif x !=0 then fb else t,x)
theorem RH(N:Nat){m:agU (agV×Int)}{V:agU agV}(h:VN m V)(p:aY)(hP:nj p.bk)(hD:ic p.ay)(q:bn×agU aw×Bool):∀(l:agU az)(k:Nat),uT N q p m l k=some (uz q.1 (fA (nQ V p.bk p.ay) l))
 |[],_=>rfl
 |x::l,k=>by
  rw[uT,aaG N h p hP hD,af4,fA,RH N h p hP hD q l];unfold uz;cases e:nQ V p.bk p.ay x !=0 with
  |true=>simp only[cond_true];rw[e];rfl
  |false=>rfl
theorem XH(N:Nat){m:agU (agV×Int)}{V:agU agV}(h:VN m V)(p:aY)(hP:nj p.bk)(hD:ic p.ay)(e:ar):Cf N e p m=some (uz (eE p.bk p.ay e.aq).1 (mE V p.bk p.ay e)):=by
 unfold Cf mE;rw[Sx N p _ hP hD,af4,A6,RH N h p hP hD];cases (eE p.bk p.ay e.aq).2.2<;>cases e.xIdx.length==(eE p.bk p.ay e.aq).2.1.length<;>rfl
theorem N4(N:Nat)(V:agU agV)(p:aY):∀(l:agU aw)(k:Nat),EO N V p l k=some (fA (kS (V++p.bu)) l)
 |[],_=>rfl
 |x::l,k=>by
  rw[EO,Jk,af4,fA,N4 N V p l];unfold kS;cases qo (V++p.bu) x<;>rfl
theorem K7(N:Nat)(V:agU agV)(p:aY)(l:agU aw):K3 N p V l=some (fA (kS (V++p.bu)) l):=N4 N V p l 0
theorem Q9(N:Nat)(V:agU agV)(p:aY)(hD:ic p.ay)(q:bn×agU aw×Bool):∀(l:agU az)(k:Nat),AH N q V p l k=some (uz q.1 (fA (nQ (V++p.bu) p.bk p.ay) l))
 |[],_=>rfl
 |x::l,k=>by
  rw[AH,od,Jk,HS N p _ hD,af4,af4,A6,K7,af4,fA,Q9 N V p hD q l];unfold uz nQ kS;rw[show(x.bj.length==(eE p.bk p.ay x.aV).2.1.length)=((eE p.bk p.ay x.aV).2.1.length==x.bj.length)from Bool.eq_iff_iff.2 (by rw[beq_iff_eq,beq_iff_eq];exact eq_comm)];cases bL x.aV==[]with
  |true=>cases qo (V++p.bu) x.aL<;>rfl
  |false=>
   cases (eE p.bk p.ay x.aV).2.2 with
   |false=>rfl
   |true=>
    cases (eE p.bk p.ay x.aV).1.bW !=3 with
    |true=>rfl
    |false=>
     cases (eE p.bk p.ay x.aV).2.1.length==x.bj.length with
     |false=>rfl
     |true=>
      simp only[cond_true,cond_false,Bool.not_true];cases e:fA (fun l=>bif qo (V++p.bu) l then 0 else 9) x.bj !=0 with
      |true=>simp only[cond_true];first|rw[e];rfl|simp [e]
      |false=>rfl
theorem Oj(N:Nat)(V:agU agV)(p:aY)(hD:ic p.ay)(e:ar):Ha N p V e=some (uz (eE p.bk p.ay e.aq).1 (mE (V++p.bu) p.bk p.ay e)):=by
 unfold Ha mE;rw[HS N p _ hD,af4,A6,Q9 N V p hD];rw[show((eE p.bk p.ay e.aq).2.1.length==e.xIdx.length)=(e.xIdx.length==(eE p.bk p.ay e.aq).2.1.length)from Bool.eq_iff_iff.2 (by rw[beq_iff_eq,beq_iff_eq];exact eq_comm)];cases (eE p.bk p.ay e.aq).2.2<;>cases e.xIdx.length==(eE p.bk p.ay e.aq).2.1.length<;>rfl
set_option maxRecDepth 100000
theorem BQ(n:Int):(Int64.ofInt n).toInt=IntKind.i64.wrap n:=by
 have h:=BA n;unfold ao bt a8 at h;injection h with h;injection h with h;injection h with _ h;exact h.symm
theorem EK(a b:Int64):(a+b).toInt=IntKind.i64.wrap (a.toInt+b.toInt):=by
 have h:=QC a b;unfold ao bt a8 at h;injection h with h;injection h with h;injection h with _ h;exact h.symm
theorem Je(a b:Int64):(a*b).toInt=IntKind.i64.wrap (a.toInt*b.toInt):=by
 have h:=ZP a b;unfold ao bt a8 at h;injection h with h;injection h with h;injection h with _ h;exact h.symm
theorem Ua(a b:Int64):(a-b).toInt=IntKind.i64.wrap (a.toInt-b.toInt):=by
 have h:=NO a b;unfold ao bt a8 at h;injection h with h;injection h with h;injection h with _ h;exact h.symm
theorem mN(a:Int64): -9223372036854775808≤a.toInt∧a.toInt≤9223372036854775807:=ry.1 (adF a)
theorem Ip{a b:Int64}(h:a.toInt=b.toInt):a=b:=Int64.toInt_inj.1 h
theorem Fh(a b:Int64):Int64.ofInt (a.toInt+b.toInt)=a+b:=Ip (by rw[BQ,EK])
theorem GO(a b:Int64):Int64.ofInt (a.toInt*b.toInt)=a*b:=Ip (by rw[BQ,Je])
theorem JI(x:Int)(h:0≤x∧x<18446744073709551616):IntKind.u64.wrap ((BitVec.ofInt IntKind.u64.bits x&&&BitVec.ofInt IntKind.u64.bits 4294967295).toNat:Int)=x%4294967296:=by
 obtain⟨n,rfl⟩:=Int.eq_ofNat_of_zero_le h.1;have e:(BitVec.ofInt IntKind.u64.bits (n:Int)&&&BitVec.ofInt IntKind.u64.bits 4294967295).toNat=n%4294967296:=by
  show(BitVec.ofInt 64 (n:Int)&&&BitVec.ofInt 64 4294967295).toNat=_;rw[BitVec.toNat_and];have h1:(BitVec.ofInt 64 (n:Int)).toNat=n:=by
   rw[BitVec.toNat_ofInt];omega
  have h2:(BitVec.ofInt 64 (4294967295:Int)).toNat=2^32-1:=by decide
  rw[h1,h2,Nat.and_two_pow_sub_one_eq_mod]
 rw[e,IntKind.wrap_u64];omega
theorem W5(x:Int):x.fdiv (2^min (32:Int).toNat IntKind.u64.bits)=x / 4294967296:=by
 show x.fdiv 4294967296=_;rw[Int.fdiv_eq_ediv_of_nonneg _ (by omega)]
theorem aeN(a b:Int)(ha:0≤a∧a<18446744073709551616)(hb:0≤b∧b<18446744073709551616):
 let ah:=a / 4294967296
 let al:=a%4294967296
 let bh:=b / 4294967296
 let bl:=b%4294967296
 let W:=IntKind.u64.wrap
 let low:=W (al*bl)
 let uK:=W (W (ah*bl)+low / 4294967296)
 let Dp:=W (W (al*bh)+uK%4294967296)
 W (W (W (ah*bh)+uK / 4294967296)+Dp / 4294967296)=a*b / 18446744073709551616:=by
 intro ah al bh bl W low uK Dp;have h1:0≤ah∧ah≤4294967295:=by omega
 have h2:0≤al∧al≤4294967295:=by omega
 have h3:0≤bh∧bh≤4294967295:=by omega
 have h4:0≤bl∧bl≤4294967295:=by omega
 have pb:∀{x y:Int},(0≤x∧x≤4294967295)→(0≤y∧y≤4294967295)→0≤x*y∧x*y≤18446744065119617025:=fun hx hy=>
  ⟨Int.mul_nonneg hx.1 hy.1,Int.le_trans (Int.mul_le_mul hx.2 hy.2 hy.1 (by omega)) (by decide)⟩
 have p1:=pb h1 h3;have p2:=pb h1 h4;have p3:=pb h2 h3;have p4:=pb h2 h4;have e:a*b=18446744073709551616*(ah*bh)+4294967296*(ah*bl)+4294967296*(al*bh)+al*bl:=by
  have ea:a=4294967296*ah+al:=by omega
  have eb:b=4294967296*bh+bl:=by omega
  have:∀x y z w:Int,(4294967296*x+y)*(4294967296*z+w)=18446744073709551616*(x*z)+4294967296*(x*w)+4294967296*(y*z)+y*w:=fun x y z w=>by
   rw[Int.add_mul,Int.mul_add,Int.mul_add];rw[show 4294967296*x*(4294967296*z)=18446744073709551616*(x*z)from by
     rw[Int.mul_assoc,Int.mul_left_comm x,←Int.mul_assoc];rfl]
   rw[Int.mul_assoc 4294967296 x w,Int.mul_left_comm y];omega
  rw[←this,←ea,←eb]
 generalize hP:ah*bh=P at*;generalize hQ:ah*bl=Q at*;generalize hR:al*bh=R at*;generalize hT:al*bl=T at*;have w1:low=T:=by show IntKind.u64.wrap _=_;rw[IntKind.wrap_u64];omega
 have w2:uK=Q+T / 4294967296:=by show IntKind.u64.wrap (IntKind.u64.wrap _+low / _)=_;rw[IntKind.wrap_u64,IntKind.wrap_u64,w1];omega
 have w3:Dp=R+uK%4294967296:=by show IntKind.u64.wrap (IntKind.u64.wrap _+uK%_)=_;rw[IntKind.wrap_u64,IntKind.wrap_u64];omega
 show IntKind.u64.wrap (IntKind.u64.wrap (IntKind.u64.wrap P+uK / 4294967296)+Dp / 4294967296)=_;rw[IntKind.wrap_u64,IntKind.wrap_u64,IntKind.wrap_u64,e,w3,w2];omega
theorem YQ(n:Int):0≤IntKind.u64.wrap n∧IntKind.u64.wrap n<18446744073709551616:=by rw[IntKind.wrap_u64];omega
theorem adn(N:Nat)(a b:Int)(ha:0≤a∧a<18446744073709551616)(hb:0≤b∧b<18446744073709551616):Ay N a b=some (a*b / 18446744073709551616,a*b%18446744073709551616):=by
 unfold Ay;simp only[JI _ ha,JI _ hb,JI _ (YQ _),W5];rw[aeN a b ha hb,IntKind.wrap_u64 (a*b)]
theorem Of(N:Nat)(a:Int64):vx N a=some (a.toInt.natAbs:Int):=by
 unfold vx;have:=mN a;rw[IntKind.wrap_u64,IntKind.wrap_u64];by_cases h:a.toInt<0
 ·rw[agN h,cond_true];congr 1;omega
 ·rw[agO h,cond_false];congr 1;omega
theorem aas(a b:Int):(a.natAbs:Int)*b.natAbs=if(decide (a<0)==decide (b<0))=true then a*b else-(a*b):=by
 by_cases h1:a<0<;>by_cases h2:b<0
 ·rw[show(a.natAbs:Int)= -a by omega,show(b.natAbs:Int)= -b by omega,Int.neg_mul_neg];simp [h1,h2]
 ·rw[show(a.natAbs:Int)= -a by omega,show(b.natAbs:Int)=b by omega,Int.neg_mul];simp [h1,h2]
 ·rw[show(a.natAbs:Int)=a by omega,show(b.natAbs:Int)= -b by omega,Int.mul_neg];simp [h1,h2]
 ·rw[show(a.natAbs:Int)=a by omega,show(b.natAbs:Int)=b by omega];simp [h1,h2]
def oy(a b:Int64):Int64×Bool:=bif dX (a.toInt*b.toInt)then(a*b,true)else(0,false)
theorem OR(N:Nat)(a b:Int64):wB N a b=some (oy a b):=by
 unfold wB oy;have ha:=mN a;have hb:=mN b;rw[Of,Of,af4,af4,adn N _ _ (by omega) (by omega),af4];dsimp only;have h0:0≤(a.toInt.natAbs:Int)*b.toInt.natAbs:=Int.mul_nonneg (by omega) (by omega);have hu:(a.toInt.natAbs:Int)*b.toInt.natAbs≤85070591730234615865843651857942052864:=
  Int.le_trans (Int.mul_le_mul (show(a.toInt.natAbs:Int)≤9223372036854775808 by omega) (show(b.toInt.natAbs:Int)≤9223372036854775808 by omega) (by omega) (by omega)) (by decide)
 have hm:=aas a.toInt b.toInt;have hw:=GO a b;generalize a*b=c at*;generalize (a.toInt.natAbs:Int)*b.toInt.natAbs=q at*;generalize a.toInt*b.toInt=z at*;have key:(bif (q / 18446744073709551616 !=0)then some true else(bif (decide (q%18446744073709551616>9223372036854775808))then some true else(bif (q%18446744073709551616==9223372036854775808)then some (!(!((decide (a.toInt<0))==(decide (b.toInt<0)))))else some false)))=some (!dX z):=by
  have:dX z=(q / 18446744073709551616==0&&(decide (q%18446744073709551616≤9223372036854775808)&&(!(q%18446744073709551616==9223372036854775808)|| !(decide (a.toInt<0)==decide (b.toInt<0))))):=by
   rw[Bool.eq_iff_iff,ry];cases hs:decide (a.toInt<0)==decide (b.toInt<0)with
   |true=>
    rw[hs,if_pos rfl]at hm;simp only[af7,Bool.or_eq_true,Bool.not_eq_true',beq_iff_eq,decide_eq_true_iff,beq_eq_false_iff_ne,Bool.not_true,Bool.false_eq_true,or_false];omega
   |false=>
    rw[hs,if_neg (by decide)]at hm;simp only[af7,Bool.or_eq_true,Bool.not_eq_true',beq_iff_eq,decide_eq_true_iff,beq_eq_false_iff_ne,Bool.not_false,or_true,and_true];omega
  rw[this,show(q / 18446744073709551616 !=0)= !(q / 18446744073709551616==0)from rfl,AN];cases q / 18446744073709551616==0<;>cases decide (q%18446744073709551616≤9223372036854775808)<;>cases q%18446744073709551616==9223372036854775808<;>cases decide (a.toInt<0)==decide (b.toInt<0)<;>rfl
 rw[key,af4];cases hf:dX z with
 |false=>rfl
 |true=>
  rw[ry]at hf;simp only[Bool.not_true,cond_false,cond_true];cases hs:decide (a.toInt<0)==decide (b.toInt<0)with
  |true=>
   rw[hs,if_pos rfl]at hm;rw[cond_true,←hw,show q%18446744073709551616=z by omega]
  |false=>
   rw[hs,if_neg (by decide)]at hm;rw[cond_false,←hw]
   congr 2
   refine Ip ?_;rw[BQ,BQ,IntKind.wrap_i64,IntKind.wrap_i64,IntKind.wrap_u64];omega
theorem YF{a b:Int}(hb:b≠0):(a*b).tdiv b=a:=Int.mul_tdiv_cancel _ hb
theorem ad5{a b c:Int}(ha: -9223372036854775808≤a∧a≤9223372036854775807)(hb: -9223372036854775808≤b∧b≤9223372036854775807)(hc:c=IntKind.i64.wrap (a*b))(oO:b≠0)(h:c.tdiv b=a):c=a*b:=by
 have h1:=Int.tmod_add_mul_tdiv c b;rw[h]at h1;have h2:(c.tmod b).natAbs<b.natAbs:=by
  rw[Int.natAbs_tmod];exact Nat.mod_lt _ (by omega)
 rw[IntKind.wrap_i64]at hc;rw[Int.mul_comm b a]at h1;generalize a*b=z at*;omega
theorem MD(N:Nat)(a b:Int64):Gi N a b=some (oy a b):=by
 unfold Gi oy;have ha:=mN a;have hb:=mN b;rw[show(bif a.toInt==0 then some true else some (b.toInt==0))=some (a.toInt==0||b.toInt==0) by cases a.toInt==0<;>rfl,af4];by_cases h0:a.toInt=0∨b.toInt=0
 ·have:(a.toInt==0||b.toInt==0)=true:=by rw[Bool.or_eq_true,beq_iff_eq,beq_iff_eq];exact h0
  have hz:a.toInt*b.toInt=0:=Int.mul_eq_zero.2 h0;rw[this,hz,←GO a b,hz];rfl
 ·have h1:a.toInt≠0:=fun h=>h0 (.inl h);have h2:b.toInt≠0:=fun h=>h0 (.inr h);have:(a.toInt==0||b.toInt==0)=false:=by rw[agT,beq_eq_false_iff_ne,beq_eq_false_iff_ne];exact⟨h1,h2⟩
  have hb1:(b.toInt !=0)=true:=bne_iff_ne.2 h2;rw[this,hb1];simp only[cond_false,cond_true];have key:dX (a.toInt*b.toInt)= !((a.toInt== -1&&b.toInt== -9223372036854775808)||((b.toInt== -1&&a.toInt== -9223372036854775808)||(Int64.ofInt ((a*b).toInt.tdiv b.toInt)).toInt !=a.toInt)):=by
   rw[Bool.eq_iff_iff,ry,Bool.not_eq_true',agT,agT,Bool.and_eq_false_iff,Bool.and_eq_false_iff,bne_eq_false_iff_eq,beq_eq_false_iff_ne,beq_eq_false_iff_ne,beq_eq_false_iff_ne,beq_eq_false_iff_ne,BQ];constructor
   ·intro hf;have hc:(a*b).toInt=a.toInt*b.toInt:=by rw[Je,IntKind.wrap_i64];omega
    refine⟨?_,?_,?_⟩
    ·by_cases h3:a.toInt= -1
     ·right;intro h4;rw[h3,h4]at hf;exact absurd hf.2 (by decide)
     ·exact .inl h3
    ·by_cases h3:b.toInt= -1
     ·right;intro h4;rw[h3,h4]at hf;exact absurd hf.2 (by decide)
     ·exact .inl h3
    ·rw[hc,YF h2,IntKind.wrap_i64];omega
   ·rintro⟨h3,h4,h5⟩;have hq:(a*b).toInt.tdiv b.toInt=a.toInt:=by
     have hc:=mN (a*b);have hd:((a*b).toInt.tdiv b.toInt).natAbs≤(a*b).toInt.natAbs:=by
      rw[Int.natAbs_tdiv];exact Nat.div_le_self _ _
     rw[IntKind.wrap_i64]at h5;by_cases h6:(a*b).toInt.tdiv b.toInt=9223372036854775808
     ·exfalso;rw[h6]at h5 hd;have oH:(a*b).toInt= -9223372036854775808:=by omega
      have hbm:b.toInt= -1:=by
       rw[oH]at h6;have h7:=Int.tmod_add_mul_tdiv (-9223372036854775808) b.toInt;rw[h6]at h7;have h8:((-9223372036854775808:Int).tmod b.toInt).natAbs<b.toInt.natAbs:=by
         rw[Int.natAbs_tmod];exact Nat.mod_lt _ (by omega)
       omega
      omega
     ·omega
    have:=ad5 ha hb (Je a b) h2 hq;have hc:=mN (a*b);omega
  rw[key];cases a.toInt== -1<;>cases b.toInt== -9223372036854775808<;>cases b.toInt== -1<;>cases a.toInt== -9223372036854775808<;>cases (Int64.ofInt ((a*b).toInt.tdiv b.toInt)).toInt !=a.toInt<;>rfl
def Ez(a b:Int64):Int64×Bool:=bif dX (a.toInt+b.toInt)then(a+b,true)else(0,false)
theorem Oc(N:Nat)(a b:Int64):wE N a b=some (a+b,dX (a.toInt+b.toInt)):=by
 unfold wE;have ha:=mN a;have hb:=mN b
 congr 2
 rw[EK,IntKind.wrap_i64,Bool.eq_iff_iff,ry,beq_iff_eq,decide_eq_decide];omega
theorem T2(N:Nat)(a b:Int64):FR N a b=some (Ez a b):=by
 unfold FR Ez;have ha:=mN a;have hb:=mN b;have e1:((9223372036854775807:Int64)-b).toInt=IntKind.i64.wrap (9223372036854775807-b.toInt):=Ua _ _;have e2:((-9223372036854775808:Int64)-b).toInt=IntKind.i64.wrap (-9223372036854775808-b.toInt):=Ua _ _;rw[e1,e2,IntKind.wrap_i64,IntKind.wrap_i64];have key:(bif (decide (b.toInt>0))then(bif (decide (a.toInt>(9223372036854775807-b.toInt+9223372036854775808)%18446744073709551616-9223372036854775808))then some true else(bif (decide (b.toInt<0))then some (decide (a.toInt<(-9223372036854775808-b.toInt+9223372036854775808)%18446744073709551616-9223372036854775808))else some false))else(bif (decide (b.toInt<0))then some (decide (a.toInt<(-9223372036854775808-b.toInt+9223372036854775808)%18446744073709551616-9223372036854775808))else some false))=some (!dX (a.toInt+b.toInt)):=by
  have hf:dX (a.toInt+b.toInt)=(decide (-9223372036854775808≤a.toInt+b.toInt)&&decide (a.toInt+b.toInt≤9223372036854775807)):=rfl;rw[hf];by_cases h1:b.toInt>0
  ·rw[agN h1,cond_true,show decide (b.toInt<0)=false from agO (by omega),cond_false,show decide (-9223372036854775808≤a.toInt+b.toInt)=true from agN (by omega),Bool.true_and];by_cases h2:a.toInt+b.toInt≤9223372036854775807
   ·rw[agN h2,agO (by omega)];rfl
   ·rw[agO h2,agN (by omega)];rfl
  ·rw[agO h1,cond_false,show decide (a.toInt+b.toInt≤9223372036854775807)=true from agN (by omega),Bool.and_true];by_cases h3:b.toInt<0
   ·rw[agN h3,cond_true];by_cases h2: -9223372036854775808≤a.toInt+b.toInt
    ·rw[agN h2,agO (by omega)];rfl
    ·rw[agO h2,agN (by omega)];rfl
   ·rw[agO h3,cond_false,agN (by omega)];rfl
 rw[key,af4];cases dX (a.toInt+b.toInt)<;>rfl
def GY(b:Int64)(m:aF):aF:=⟨m.aq,m.cZ*b⟩
def oa(b:Int64)(m:aF):Bool:=dX (m.cZ.toInt*b.toInt)
theorem Hg(a:aw)(b:Int64):kO a b=bif eg a then bif b.toInt==0 then .ok dB else bif dX (a.xK.toInt*b.toInt)&&a.xL.all (oa b)then .ok ⟨a.xK*b,a.xL.map (GY b)⟩else .error .range else .error .arg:=by
 unfold kO;have:(a.xL.map fun m=>(⟨m.aq,Int64.ofInt (m.cZ.toInt*b.toInt)⟩:aF))=a.xL.map (GY b):=agB fun m _=>by rw[GO];rfl
 rw[this,GO];show(if eg a=true then _ else _)=_;cases eg a with
 |false=>rfl
 |true=>
  by_cases h:b.toInt=0
  ·rw[if_pos rfl,if_pos h,h];rfl
  ·rw[if_pos rfl,if_neg h,beq_eq_false_iff_ne.2 h];show(if(dX (a.xK.toInt*b.toInt)&&a.xL.all (oa b))=true then _ else _)=_;cases dX (a.xK.toInt*b.toInt)&&a.xL.all (oa b)<;>rfl
theorem Uh(N:Nat)(q:Int64×Bool)(b:Int64):∀(l:agU aF)(k:Nat)(f:Bool)(acc:agU aF),acc.length+l.length≤1000000000→
 sB N q b l k f acc=some (bif f&&l.all (oa b)then((⟨q.1,acc++l.map (GY b)⟩:aw),0)else(dB,3))
 |[],_,f,acc,_=>by rw[sB,List.map_nil,agr];cases f<;>rfl
 |m::l,k,f,acc,h=>by
  simp only[af8]at h;rw[sB,OR,af4,eu (by omega),show(bif f then some (oy m.cZ b).2 else some false)=some (f&&(oy m.cZ b).2) by cases f<;>rfl,af4];simp only[cond_true];rw[Uh N q b l (k+1) _ _ (by simp only[af6,af8,agi];omega),agQ,agv];unfold oy;rw[show oa b m=dX (m.cZ.toInt*b.toInt)from rfl];cases dX (m.cZ.toInt*b.toInt)with
  |true=>rw[cond_true,agn];cases f<;>rfl
  |false=>cases f<;>rfl
theorem afo(N:Nat)(hN:16<N)(a:aw)(b:Int64)(h:gr 1000000000 a):y5 N a b=some (fX dB (kO a b)):=by
 unfold y5;rw[wH N hN a h.ok,af4,OR,af4,Uh N _ _ _ _ _ _ (by simp only[agi];exact(agq _).symm▸h),Hg];unfold oy;cases eg a with
 |false=>rfl
 |true=>
  cases b.toInt==0 with
  |true=>rfl
  |false=>cases dX (a.xK.toInt*b.toInt)<;>cases a.xL.all (oa b)<;>rfl
theorem IL(N:Nat)(hN:16<N)(a:aw)(h:gG a):yU N a=some (bif eg a then 0 else 1):=by
 unfold yU;rw[yY N hN a h,af4];cases eg a<;>rfl
theorem Sm(N:Nat)(q:Int64×Bool)(b:Int64):∀(l:agU aF)(k:Nat)(acc:agU aF),acc.length+l.length≤1000000000→
 zO N q b l k acc=some (bif l.all (oa b)then((⟨q.1,acc++l.map (GY b)⟩:aw),0)else(dB,3))
 |[],_,acc,_=>by rw[zO,List.map_nil,agr];rfl
 |m::l,k,acc,h=>by
  simp only[af8]at h;rw[zO,MD,af4,eu (by omega),cond_true];dsimp only;rw[Sm N q b l (k+1) _ (by simp only[af6,af8,agi];omega),agQ,agv];unfold oy;rw[show oa b m=dX (m.cZ.toInt*b.toInt)from rfl];cases dX (m.cZ.toInt*b.toInt)with
  |true=>rw[cond_true,agn];rfl
  |false=>rfl
theorem VC(N:Nat)(hN:16<N)(a:aw)(b:Int64)(h:gr 1000000000 a):L6 N a b=some (fX dB (kO a b)):=by
 unfold L6;rw[IL N hN a h.ok,af4,MD,af4,Sm N _ _ _ _ _ (by simp only[agi];exact(agq _).symm▸h),Hg];unfold oy;cases eg a with
 |false=>rfl
 |true=>
  cases b.toInt==0 with
  |true=>rfl
  |false=>cases dX (a.xK.toInt*b.toInt)<;>cases a.xL.all (oa b)<;>rfl
def jS(t:agV×Int×Int):Bool:=dX (t.2.1+t.2.2)
def js(t:agV×Int×Int):agW aF:=if t.2.1+t.2.2=0 then none else some ⟨t.1,Int64.ofInt (t.2.1+t.2.2)⟩
theorem MW(k:Int)(l:agU (agV×Int×Int)):G6 k l=bif dX k&&l.all jS then .ok ⟨Int64.ofInt k,l.filterMap js⟩else .error .range:=by
 unfold G6;show(if(dX k&&l.all jS)=true then(Except.ok ⟨Int64.ofInt k,l.filterMap js⟩:X aw)else _)=_;cases dX k&&l.all jS<;>rfl
def HI(acc:agU aF):agW aF→agU aF
 |none=>acc
 |some m=>acc++[m]
theorem Ap(N:Nat)(s:agV)(x y:Int64)(f:Bool)(K:Int64)(acc:agU aF)(h:acc.length<1000000000):
 ∃L,uQ N s x y f K acc=some (f&&dX (x.toInt+y.toInt),L)∧L.length≤acc.length+1∧(dX (x.toInt+y.toInt)=true→L=HI acc (js (s,x.toInt,y.toInt))):=by
 unfold uQ;rw[Oc,af4,eu (by omega),show(bif f then some (x+y,dX (x.toInt+y.toInt)).2 else some false)=some (f&&dX (x.toInt+y.toInt)) by cases f<;>rfl,af4];dsimp only;have e (hf:dX (x.toInt+y.toInt)=true):(x+y).toInt=x.toInt+y.toInt:=by
  rw[ry]at hf;rw[EK,IntKind.wrap_i64];omega
 cases hz:(x+y).toInt !=0 with
 |true=>
  refine⟨_,rfl,by simp,fun hf=> ?_⟩;unfold js;rw[if_neg (by show ¬x.toInt+y.toInt=0;rw[←e hf];exact bne_iff_ne.1 hz)];show acc++[(⟨s,x+y⟩:aF)]=acc++[⟨s,Int64.ofInt (x.toInt+y.toInt)⟩];rw[Fh]
 |false=>
  refine⟨_,rfl,Nat.le_succ _,fun hf=> ?_⟩;unfold js;rw[if_pos (by show x.toInt+y.toInt=0;rw[←e hf];exact gN hz)];rfl
theorem abt(acc:agU aF)(t:agV×Int×Int)(l:agU (agV×Int×Int)):HI acc (js t)++l.filterMap js=acc++(t::l).filterMap js:=by
 rw[List.filterMap_cons];cases js t with
 |none=>rfl
 |some m=>show acc++[m]++_=_;rw[agn];rfl
theorem Ao{N:Nat}{K:Int64}{n:Nat}{l r:agU aF}{f f':Bool}{acc L:agU aF}{t:agV×Int×Int}{T:agU (agV×Int×Int)}
 (ih:∀f acc,acc.length+l.length+r.length≤1000000000→∃L,kR N K n l r f acc=some (f&&T.all jS,L)∧(T.all jS=true→L=acc++T.filterMap js))
 (hf:f'=(f&&jS t)) (hL:L.length+l.length+r.length≤1000000000) (h:jS t=true→L=HI acc (js t)):
 ∃L',kR N K n l r f' L=some (f&&(t::T).all jS,L')∧((t::T).all jS=true→L'=acc++(t::T).filterMap js):=by
 obtain⟨L',h1,h2⟩:=ih f' L hL;refine⟨L',?_,fun h3=> ?_⟩
 ·rw[h1,hf,agQ,Bool.and_assoc]
 ·rw[agQ,af7]at h3;rw[h2 h3.2,h h3.1,abt]
theorem wc(N:Nat)(K:Int64):∀(n:Nat)(a b:agU aF)(f:Bool)(acc:agU aF),a.length+b.length<n→acc.length+a.length+b.length≤1000000000→
 ∃L,kR N K n a b f acc=some (f&&(eF a b).all jS,L)∧((eF a b).all jS=true→L=acc++(eF a b).filterMap js)
 |0,a,b,f,acc,h,_=>absurd h (agy _)
 |n+1,[],[],f,acc,_,_=>by
  rw[kR,eF];exact⟨acc,by rw[List.all_nil,Bool.and_true];rfl,fun _=>by rw[List.filterMap_nil,agr]⟩
 |n+1,x::l,[],f,acc,h,hb=>by
  simp only[af8,agi]at h hb;rw[kR,eF];obtain⟨L,e1,e2,e3⟩:=Ap N x.aq x.cZ 0 f K acc (by omega);rw[show decide (((x::l).length:Int)>0)=true from agN (by simp only[af8];omega),show((([]:agU aF).length:Int)==0)=true from rfl];simp only[cond_true,af4,List.getElem?_cons_zero,e1,show decide (1≤(x::l).length)=true from agN (by simp only[af8];omega),List.drop_one,List.tail_cons];exact Ao (fun f acc hb=>wc N K n l [] f acc (by simp only[agi];omega) hb) rfl (by simp only[agi];omega) e3
 |n+1,[],y::r,f,acc,h,hb=>by
  simp only[af8,agi]at h hb;rw[kR,eF];obtain⟨L,e1,e2,e3⟩:=Ap N y.aq 0 y.cZ f K acc (by omega);rw[show decide (((y::r).length:Int)>0)=true from agN (by simp only[af8];omega),show(((y::r).length:Int)==0)=false from beq_eq_false_iff_ne.2 (by simp only[af8];omega),show decide ((([]:agU aF).length:Int)>0)=false from rfl,show((([]:agU aF).length:Int)==0)=true from rfl];simp only[cond_true,cond_false,af4,List.getElem?_cons_zero,e1,show decide (1≤(y::r).length)=true from agN (by simp only[af8];omega),List.drop_one,List.tail_cons];exact Ao (fun f acc hb=>wc N K n [] r f acc (by simp only[agi];omega) hb) rfl (by simp only[agi];omega) e3
 |n+1,x::l,y::r,f,acc,h,hb=>by
  simp only[af8]at h hb;rw[kR,eF];have p1:∀(z:aF)(l:agU aF),decide (((z::l).length:Int)>0)=true:=fun z l=>agN (by simp only[af8];omega);have p2:∀(z:aF)(l:agU aF),(((z::l).length:Int)==0)=false:=fun z l=>beq_eq_false_iff_ne.2 (by simp only[af8];omega);have p3:∀(z:aF)(l:agU aF),decide (1≤(z::l).length)=true:=fun z l=>agN (by simp only[af8];omega);simp only[p1,p2,cond_true,cond_false,af4,List.getElem?_cons_zero,show Op.bytesLess (bL x.aq) (bL y.aq)=lt x.aq y.aq from rfl,show Op.bytesLess (bL y.aq) (bL x.aq)=lt y.aq x.aq from rfl];cases hxy:lt x.aq y.aq with
  |true=>
   obtain⟨L,e1,e2,e3⟩:=Ap N x.aq x.cZ 0 f K acc (by omega);simp only[cond_true,e1,af4,p3,List.drop_one,List.tail_cons,if_true];exact Ao (fun f acc hb=>wc N K n l (y::r) f acc (by simp only[af8];omega) hb) rfl (by simp only[af8];omega) e3
  |false=>
   simp only[cond_false,Bool.false_eq_true,if_false];cases hyx:lt y.aq x.aq with
   |true=>
    obtain⟨L,e1,e2,e3⟩:=Ap N y.aq 0 y.cZ f K acc (by omega);simp only[cond_true,e1,af4,p3,List.drop_one,List.tail_cons,if_true];exact Ao (fun f acc hb=>wc N K n (x::l) r f acc (by simp only[af8];omega) hb) rfl (by simp only[af8];omega) e3
   |false=>
    obtain⟨L,e1,e2,e3⟩:=Ap N x.aq x.cZ y.cZ f K acc (by omega);simp only[cond_true,cond_false,e1,af4,p3,List.drop_one,List.tail_cons,Bool.false_eq_true,if_false];exact Ao (fun f acc hb=>wc N K n l r f acc (by omega) hb) rfl (by omega) e3
theorem RE(a b:aw):ib a b=bif eg a&&eg b then bif dX (a.xK.toInt+b.xK.toInt)&&(eF a.xL b.xL).all jS then .ok ⟨a.xK+b.xK,(eF a.xL b.xL).filterMap js⟩else .error .range else .error .arg:=by
 unfold ib;rw[MW,Fh];cases eg a&&eg b<;>rfl
theorem Vt(N:Nat)(hN:16<N)(a b:aw)(hl:a.xL.length+b.xL.length≤1000000000)(hf:a.xL.length+b.xL.length<N):xA N a b=some (fX dB (ib a b)):=by
 unfold xA Dg;have ha:gG a:=ago (ago (agL _ _) hl) (by decide);have hb:gG b:=ago (ago (Nat.le_add_left _ _) hl) (by decide);rw[wH N hN a ha,wH N hN b hb,af4,af4,Oc,af4,RE];dsimp only;obtain⟨L,e1,e2⟩:=wc N (a.xK+b.xK) N a.xL b.xL (dX (a.xK.toInt+b.xK.toInt)) [] hf (by simp only[agi];omega);rw[e1,af4];cases eg a with
 |false=>rfl
 |true=>
  cases eg b with
  |false=>rfl
  |true=>
   cases h1:dX (a.xK.toInt+b.xK.toInt)with
   |false=>rfl
   |true=>
    cases h2:(eF a.xL b.xL).all jS with
    |false=>rfl
    |true=>rw[e2 h2];rfl
theorem Ra(N:Nat)(l:agU agV)(s:agV)(hl:l.length<1000000000):∀(n i:Nat),i≤l.length→l.length-i<n→Ga N l l.length s n (i:Int)=some ((l.drop i).any fun w=>bL w==bL s)
 |0,i,_,h=>absurd h (agy _)
 |n+1,i,hi,h=>by
  rw[Ga,show Nat.beq l.length l.length=true from Nat.beq_refl _,cond_true];by_cases hk:i<l.length
  ·rw[show decide ((i:Int)<(l.length:Int))=true from agN (by omega),show decide ((0:Int)≤(i:Int))=true from agN (by omega),cond_true,cond_true,agx,af9 hk,af4,List.drop_eq_getElem_cons hk,agR,sW (by omega)];dsimp only;rw[Ra N l s hl n (i+1) (by omega) (by omega)];cases bL l[i]==bL s<;>rfl
  ·rw[show decide ((i:Int)<(l.length:Int))=false from agO (by omega),List.drop_eq_nil_of_le (by omega)];rfl
theorem CM{α:Type}(p:agU α)(x:α)(q:agU α):(p++x::q)[p.length]?=some x:=by simp
theorem La{α:Type}(p:agU α)(x y:α)(q:agU α):(p++x::q).set p.length y=p++y::q:=by simp
theorem ab2(x s:agV):(!((Op.bytesLess (bL x) (bL s))||(bL x==bL s)))=lt s x:=by
 show(!(lt x s||same x s))=lt s x;cases h1:lt x s with
 |true=>
  cases h2:lt s x with
  |false=>rfl
  |true=>have:=qy h1 h2;rw[sQ]at this;cases this
 |false=>
  cases h2:lt s x with
  |false=>rw[Bl h1 h2,s7.2 rfl];rfl
  |true=>
   cases h3:same x s with
   |false=>rfl
   |true=>rw[s7.1 h3,sQ]at h2;cases h2
theorem Qw(N:Nat)(s:agV):∀(q post:agU agV)(n k:Nat),q.length<n→q.length+1+post.length=k+1→k<1000000000→
 Cl N k n (q.length:Int) (q.reverse++s::post)=some (k+1,(jP q s).reverse++post)
 |[],post,n+1,k,_,hk,_=>by
  rw[Cl,show decide ((([]:agU agV).length:Int)>0)=false from rfl];rfl
 |x::q,post,n+1,k,hn,hk,hb=>by
  simp only[af8]at hn hk;have hL:(((x::q).reverse++s::post).length)=k+1:=by simp only[af6,List.length_reverse,af8];omega
  have hw:a8 (((x::q).length:Int)-1)=(q.length:Int):=by
   rw[af8,show(((q.length+1:Nat):Int)-1)=((q.length:Nat):Int) by omega];exact yg (by omega)
  have c1:decide (((x::q).length:Int)>0)=true:=agN (by simp only[af8];omega);have c2:decide ((0:Int)≤(q.length:Int))=true:=agN (by omega);have c3:decide ((q.length:Int)<((k+1):Int))=true:=agN (by omega);have c4:decide ((0:Int)≤((x::q).length:Int))=true:=agN (by simp only[af8];omega);have c5:decide (((x::q).length:Int)<((k+1):Int))=true:=agN (by simp only[af8];omega);have e1:(x::q).reverse++s::post=q.reverse++x::s::post:=by rw[List.reverse_cons,agn];rfl
  have g1:((x::q).reverse++s::post)[q.length]?=some x:=by rw[e1];have:=CM q.reverse x (s::post);rw[List.length_reverse]at this;exact this
  have g2:((x::q).reverse++s::post)[(x::q).length]?=some s:=by have:=CM (x::q).reverse s post;rw[List.length_reverse]at this;exact this
  have s1:((x::q).reverse++s::post).set (x::q).length x=q.reverse++x::x::post:=by
   have:=La (x::q).reverse s x post;rw[List.length_reverse]at this;rw[this,List.reverse_cons,agn];rfl
  have g3:(q.reverse++x::x::post)[q.length]?=some x:=by have:=CM q.reverse x (x::post);rw[List.length_reverse]at this;exact this
  have s2:(q.reverse++x::x::post).set q.length s=q.reverse++s::x::post:=by have:=La q.reverse x s (x::post);rw[List.length_reverse]at this;exact this
  have hL2:(q.reverse++x::x::post).length=k+1:=by simp only[af6,List.length_reverse,af8];omega
  rw[Cl,hw,c1,hL,show Nat.beq (k+1) (k+1)=true from Nat.beq_refl _,c2,c3,c4,c5];simp only[cond_true,agx,g1,g2,af4];rw[ab2,jP];cases aN:lt s x with
  |false=>
   simp only[cond_false,Bool.false_eq_true,if_false];rw[e1,List.reverse_cons,List.reverse_cons,agn,agn];rfl
  |true=>
   simp only[cond_true,if_true,s1,hL2,g3,s2,af4,show Nat.beq (k+1) (k+1)=true from Nat.beq_refl _];rw[Qw N s q (x::post) n k (by omega) (by simp only[af8];omega) hb,List.reverse_cons,agn];rfl
theorem afy(N:Nat)(l:agU agV)(s:agV)(hl:l.length<1000000)(hN:1000000<N):KY N l.length s l=some ((jH l s).length,jH l s):=by
 unfold KY QA jH;have h0:=Ra N l s (by omega) N 0 (Nat.zero_le _) (by omega);rw[agF]at h0;rw[show((0:Nat):Int)=(0:Int)from rfl]at h0;rw[h0,af4];show _=some ((if l.any (fun w=>bL w==bL s)=true then l else(jP l.reverse s).reverse).length,_);show _=some (_,(if l.any (fun w=>bL w==bL s)=true then l else(jP l.reverse s).reverse));cases l.any fun w=>bL w==bL s with
 |true=>rfl
 |false=>
  have hL:(l++[s]).length=l.length+1:=by simp
  rw[hL,show Nat.beq l.length l.length=true from Nat.beq_refl _,show Nat.beq (l.length+1) (l.length+1)=true from Nat.beq_refl _,eu (by omega)];simp only[cond_true,cond_false,Bool.false_eq_true,if_false];have:=Qw N s l.reverse [] N l.length (by rw[List.length_reverse];omega) (by rw[List.length_reverse];rfl) (by omega);rw[List.length_reverse,List.reverse_reverse,agr]at this;rw[show a8 ((l.length:Int)+1-1)=(l.length:Int) by rw[show((l.length:Int)+1-1)=((l.length:Nat):Int) by omega];exact yg (by omega)];rw[this];have hlen:(jP l.reverse s).reverse.length=l.length+1:=by
    have It:∀(q:agU agV),(jP q s).length=q.length+1:=by
     intro q
     induction q with
     |nil=>rfl
     |cons x q ih=>rw[jP];split<;>simp [ih]
    rw[List.length_reverse,It,List.length_reverse]
  rw[hlen]
theorem PB(l:agU agV)(s:agV):(jH l s).length≤l.length+1:=by
 have It:∀(q:agU agV),(jP q s).length=q.length+1:=by
  intro q
  induction q with
  |nil=>rfl
  |cons x q ih=>rw[jP];split<;>simp [ih]
 unfold jH;split
 ·omega
 ·rw[List.length_reverse,It,List.length_reverse];exact agh _
theorem Kw(N:Nat)(hN:1000000<N)(c:Nat→agU agV→agW (agU agV)):∀(l:agU aF)(k:Nat)(L:agU agV),L.length+l.length<1000000→
 EE N c l k L.length L=c ((l.map (·.aq)).foldl jH L).length ((l.map (·.aq)).foldl jH L)
 |[],_,_,_=>rfl
 |m::l,k,L,h=>by
  simp only[af8]at h;rw[EE,afy N L m.aq (by omega) hN,af4];dsimp only;rw[Kw N hN c l (k+1) (jH L m.aq) (by have:=PB L m.aq;omega)];rfl
theorem K4:∀(l L:agU agV),(l.foldl jH L).length≤L.length+l.length
 |[],_=>agh _
 |s::l,L=>by
  rw[List.foldl_cons];have h1:=K4 l (jH L s);have h2:=PB L s;simp only[af8];omega
theorem Zz(N:Nat)(hN:1000000<N)(a b:aw)(h:a.xL.length+b.xL.length<900000):JX N [a,b]=some (sq [a,b]):=by
 unfold JX sq;have ha:=Kw N hN (fun bE dP=>xe N [b] 1 bE dP) a.xL 0 [] (by simp only[agi];omega);rw[xe];refine Eq.trans ha ?_;have hl:=K4 (a.xL.map (·.aq)) [];simp only[agi,aga]at hl;rw[xe,Kw N hN _ b.xL 0 _ (by omega)];rw[xe,show Nat.beq _ _=true from Nat.beq_refl _,cond_true];rw[List.flatMap_cons,List.flatMap_cons,List.flatMap_nil,agr,List.foldl_append]
theorem KC(N:Nat)(s:agV):∀(l:agU aF)(k:Nat),∃c:Int64,Ek N s l k=some c∧c.toInt=iD l s
 |[],_=>⟨0,rfl,rfl⟩
 |m::l,k=>by
  obtain⟨c,h1,h2⟩:=KC N s l (k+1);rw[Ek,h1,iD];show ∃c',(bif same m.aq s then _ else _)=_∧_;cases same m.aq s with
  |true=>exact⟨_,rfl,rfl⟩
  |false=>exact⟨c,rfl,h2⟩
theorem KF(N:Nat)(q:Int64×Bool)(a b:aw):∀(l:agU agV)(k:Nat)(acc:agU aF),acc.length+l.length≤1000000000→
 vv N q a b l k acc=some (bif (l.map fun n=>(n,iD a.xL n,iD b.xL n)).all jS then((⟨q.1,acc++(l.map fun n=>(n,iD a.xL n,iD b.xL n)).filterMap js⟩:aw),0)else(dB,3))
 |[],_,acc,_=>by rw[vv,List.map_nil,List.filterMap_nil,agr];rfl
 |s::l,k,acc,h=>by
  simp only[af8]at h;obtain⟨x,hx,ex⟩:=KC N s a.xL 0;obtain⟨y,hy,ey⟩:=KC N s b.xL 0;rw[vv];unfold JC;rw[hx,hy,af4,af4,T2,af4,eu (by omega),agv,agQ,←ex,←ey];simp only[cond_true];rw[KF N q a b l (k+1) acc (by omega),KF N q a b l (k+1) _ (by simp only[af6,af8,agi];omega)];unfold Ez;rw[show jS (s,x.toInt,y.toInt)=dX (x.toInt+y.toInt)from rfl];cases hf:dX (x.toInt+y.toInt)with
  |false=>rfl
  |true=>
   simp only[cond_true,Bool.true_and];have e:(x+y).toInt=x.toInt+y.toInt:=by
    rw[ry]at hf;rw[EK,IntKind.wrap_i64];omega
   rw[List.filterMap_cons];cases hz:(x+y).toInt !=0 with
   |true=>
    have hk:js (s,x.toInt,y.toInt)=some ⟨s,x+y⟩:=by
     unfold js;rw[if_neg (by show ¬x.toInt+y.toInt=0;rw[←e];exact bne_iff_ne.1 hz),Fh]
    rw[hk,cond_true,agn];rfl
   |false=>
    have hk:js (s,x.toInt,y.toInt)=none:=by
     unfold js;rw[if_pos (by show x.toInt+y.toInt=0;rw[←e];exact gN hz)]
    rw[hk];rfl
theorem W9(N:Nat)(hN:1000000<N)(a b:aw)(hl:a.xL.length+b.xL.length<900000):Ef N a b=some (fX dB (ib a b)):=by
 unfold Ef;have ha:gG a:=ago (ago (agL _ _) (Nat.le_of_lt hl)) (by decide);have hb:gG b:=ago (ago (Nat.le_add_left _ _) (Nat.le_of_lt hl)) (by decide);have hn:(sq [a,b]).length≤900000:=by
  unfold sq;have:=K4 ([a,b].flatMap fun x=>x.xL.map (·.aq)) [];simp only[List.flatMap_cons,List.flatMap_nil,agr,af6,aga,agi]at this ⊢;omega
 rw[IL N (by omega) a ha,IL N (by omega) b hb,af4,af4,T2,af4,Zz N hN a b hl,af4,KF N _ _ _ _ _ _ (by simp only[agi];omega),←aeo];unfold Lp Ez;rw[MW,Fh];cases eg a with
 |false=>rfl
 |true=>
  cases eg b with
  |false=>rfl
  |true=>
   cases dX (a.xK.toInt+b.xK.toInt)with
   |false=>rfl
   |true=>cases ((sq [a,b]).map fun n=>(n,iD a.xL n,iD b.xL n)).all jS<;>rfl
def qj(e:ar):Prop:=∀x∈dd e,lO x=true∧ma x=true
theorem qj.arg{e x:ar}(h:qj e)(hx:x∈e.a7):qj x:=fun y hy=>h y (q6 hx hy)
theorem qj.len{e:ar}(h:qj e):(e.a7.length:Int)=mu e.aQ:=by
 have:=(h e agb).1;unfold lO at this;rw[af7,beq_iff_eq]at this;exact this.1
theorem qj.op{e:ar}(h:qj e):1≤e.aQ∧e.aQ≤18:=by
 have:=(h e agb).2;unfold ma at this;simp only[af7,decide_eq_true_eq]at this;exact⟨this.1,this.2.1⟩
theorem TN:∀l:agU ar,jT l=0→∀x∈l,lX x=0
 |[],_,x,hx=>by cases hx
 |y::l,h,x,hx=>by
  rw[jT]at h;cases e:lX y !=0 with
  |true=>rw[e,cond_true]at h;rw[h]at e;cases e
  |false=>
   rw[e,cond_false]at h;rcases agA.1 hx with rfl|hx
   ·exact gN e
   ·exact TN l h x hx
theorem FG{e:ar}(h:lI e=0):∀x∈dd e,lX x=0:=fun x hx=>by
 unfold lI at h;cases h1:decide (40<hY 40 e)with
 |true=>rw[h1]at h;cases h
 |false=>
  cases h2:decide (2000<(dd e).length)with
  |true=>rw[h1,h2]at h;cases h
  |false=>rw[h1,h2]at h;exact TN (dd e) h x hx
theorem Dq{x:ar}(h:lX x=0):ma x=true∧oZ x=true∧lO x=true∧mq x=true∧sE x=true:=by
 unfold lX at h;cases p:ma x<;>cases q:oZ x<;>cases r:lO x<;>cases s:mq x<;>cases t:sE x<;>rw[p,q,r,s,t]at h<;>first|exact⟨rfl,rfl,rfl,rfl,rfl⟩|(exact absurd h (by decide))
theorem WL{e:ar}(h:lI e=0):qj e:=fun x hx=>⟨(Dq (FG h x hx)).2.2.1,(Dq (FG h x hx)).1⟩
section
variable {α:Type}
theorem Vu{l:agU α}(h:(l.length:Int)=1):∃a,l=[a]:=by
 match l,h with
 |[a],_=>exact⟨a,rfl⟩
 |[],h=>simp at h
 |a::b::l,h=>simp at h;omega
theorem aft{l:agU α}(h:(l.length:Int)=2):∃a b,l=[a,b]:=by
 match l,h with
 |[a,b],_=>exact⟨a,b,rfl⟩
 |[],h=>simp at h
 |[a],h=>simp at h
 |a::b::c::l,h=>simp at h;omega
theorem ac3{l:agU α}(h:(l.length:Int)=3):∃a b c,l=[a,b,c]:=by
 match l,h with
 |[a,b,c],_=>exact⟨a,b,c,rfl⟩
 |[],h=>simp at h
 |[a],h=>simp at h
 |[a,b],h=>simp at h
 |a::b::c::d::l,h=>simp at h;omega
end
def ud(a b:agW (bn×Int)):Prop:=∃t t' x,a=some (t,x)∧b=some (t',x)∧(x=0→t=t')
theorem Mz{α:Type}(f:α→Int)(x:α):fA f [x]=f x:=by
 rw[fA,fA];cases e:f x !=0 with
 |true=>rfl
 |false=>exact(gN e).symm
theorem Z3{op:Int}(h1:1≤op)(h2:op≤18):(op=1∨op=2∨op=3∨op=8∨op=11∨op=12)∨(op=4∨op=5∨op=6∨op=7∨op=9∨op=10)∨(op=13∨op=14∨op=15)∨(op=16∨op=17∨op=18):=by omega
section
variable {N:Nat} {m:agU (agV×Int)} {vars:agU agV} {p p':aY}
theorem ZQ(hV:VN m (vars++p'.bu))(hP:p.bk=p'.bk)(tP:p.ay=p'.ay)(ye:nj p.bk)(jZ:ic p.ay)(e:ar)(h1:1≤e.aQ)(h2:e.aQ≤18)(acc:agU bn)(hl:(acc.length:Int)=mu e.aQ)
 (r1:ar→aY→agU (agV×Int)→agW (bn×Int)) (r2:aY→agU agV→ar→agW (bn×Int)) (k:Nat):
 ud (nN N e p m r1 [] k acc) (mv N e p' vars r2 [] k acc):=by
 rw[nN,mv];unfold zB wI xq wR;rcases Z3 h1 h2 with(h|h|h|h|h|h)|(h|h|h|h|h|h)|(h|h|h)|(h|h|h)
 ·rw[h];exact⟨_,_,_,rfl,rfl,fun _=>rfl⟩
 ·rw[h,HB N hV,K7,Mz];exact⟨_,_,_,rfl,rfl,fun _=>rfl⟩
 ·rw[h,XH N hV p ye jZ,Oj N vars p' (tP▸jZ),hP,tP];exact⟨_,_,_,rfl,rfl,fun _=>rfl⟩
 ·rw[h]at hl;obtain⟨a,rfl⟩:=Vu hl;rw[h];exact⟨_,_,_,rfl,rfl,fun _=>rfl⟩
 ·rw[h]at hl;obtain⟨a,b,c,rfl⟩:=ac3 hl;rw[h];show ud (Option.bind (bif _ then _ else _) _) (bif _ then _ else _);cases ((b.bW==c.bW)&&((b.ca==c.ca)&&((b.cF==c.cF)&&((b.cE==c.cE)&&((b.cJ==c.cJ)&&true)))))with
  |true=>exact⟨_,_,_,rfl,rfl,fun _=>rfl⟩
  |false=>exact⟨_,_,_,rfl,rfl,fun h=>by cases h⟩
 ·rw[h];exact⟨_,_,_,rfl,rfl,fun _=>rfl⟩
 all_goals first
  |(rw[h];exact⟨_,_,_,rfl,rfl,fun _=>rfl⟩)
  |(rw[h]at hl
    obtain⟨a,b,rfl⟩:=aft hl;rw[h];show ud (Option.bind (bif _ then _ else _) _) (bif _ then _ else _);cases ((a.bW==b.bW)&&((a.ca==b.ca)&&((a.cF==b.cF)&&((a.cE==b.cE)&&((a.cJ==b.cJ)&&true)))))with
    |true=>exact⟨_,_,_,rfl,rfl,fun _=>rfl⟩
    |false=>exact⟨_,_,_,rfl,rfl,fun h=>by cases h⟩)
theorem OG(e:ar)(r1:ar→aY→agU (agV×Int)→agW (bn×Int))(r2:aY→agU agV→ar→agW (bn×Int)):
 ∀(l:agU ar)(k:Nat)(acc:agU bn),acc.length+l.length≤1000000000→(∀x∈l,ud (r1 x p m) (r2 p' vars x))→
  (∀(om:agU bn)(k':Nat),om.length=acc.length+l.length→ud (nN N e p m r1 [] k' om) (mv N e p' vars r2 [] k' om))→
  ud (nN N e p m r1 l k acc) (mv N e p' vars r2 l k acc)
 |[],k,acc,_,_,he=>he acc k rfl
 |x::l,k,acc,hb,hx,he=>by
  rw[nN,mv];obtain⟨t,t',z,e1,e2,e3⟩:=hx x agb;rw[e1,e2,af4,af4];dsimp only;cases hz:z !=0 with
  |true=>exact⟨_,_,_,rfl,rfl,fun _=>rfl⟩
  |false=>
   obtain rfl:=e3 (gN hz);simp only[af8]at hb;rw[eu (by omega)];exact OG e r1 r2 l (k+1) (acc++[t]) (by simp only[af6,af8,agi];omega) (fun y hy=>hx y (age _ hy)) fun om k' h'=>he om k' (by simp only[af6,af8,agi]at*;omega)
theorem Nk(hV:VN m (vars++p'.bu))(hP:p.bk=p'.bk)(tP:p.ay=p'.ay)(ye:nj p.bk)(jZ:ic p.ay):
 ∀(d:Nat)(e:ar),SizeOf.sizeOf e<d→qj e→ud (q7 N d e p m) (xB N d p' vars e)
 |0,_,h,_=>absurd h (agy _)
 |d+1,e,h,hr=>by
  rw[q7,xB];have hlen:=hr.len;have h3:(e.a7.length:Int)≤3:=by
    rw[hlen];unfold mu;cases (e.aQ==1||(e.aQ==2||e.aQ==3))<;>cases (e.aQ==8||(e.aQ==12||e.aQ==18))<;>cases e.aQ==11<;>decide
  refine OG e _ _ e.a7 0 [] (by simp only[agi];omega) (fun x hx=>Nk hV hP tP ye jZ d x (by have:=kV hx;omega) (hr.arg hx)) fun om k' h'=> ?_;exact ZQ hV hP tP ye jZ e hr.op.1 hr.op.2 om (by rw[h',←hlen];simp only[agi,agq]) _ _ k'
end
theorem V4{m:agU (agV×Int)}{V W:agU agV}(h:VN m V)(e:∀s,cC W s=cC V s)(hl:V.length≤W.length):VN m W:=⟨fun s=>by rw[h.val,e],ago h.len hl⟩
theorem Oo(N:Nat)(e:ar)(p:aY):∀(l:agU agV)(k:Nat)(m:agU (agV×Int))(V:agU agV),VN m V→V.length+l.length<1000000000→∃m' k',VN m' (V++l)∧n5 N e p l k m=n5 N e p [] k' m'
 |[],k,m,V,h,_=>⟨m,k,by rw[agr];exact h,rfl⟩
 |s::l,k,m,V,h,hb=>by
  simp only[af8]at hb;rw[n5,show Nat.blt m.length 9223372036854775807=true from Nat.ble_eq_true_of_le (by have:=h.len;omega),cond_true];obtain⟨m',k',h1,h2⟩:=Oo N e p l (k+1) _ _ (h.add s 3 rfl) (by simp only[af6,af8,agi];omega);exact⟨m',k',by rw[agn]at h1;exact h1,h2⟩
theorem TT(N:Nat)(e:ar)(p:aY)(vars:agU agV):∀(l:agU agV)(k:Nat)(m:agU (agV×Int))(V:agU agV),VN m V→V.length+l.length<1000000000→∃m',VN m' (V++l)∧tV N e p vars l k m=n5 N e p vars 0 m'
 |[],k,m,V,h,_=>⟨m,by rw[agr];exact h,rfl⟩
 |s::l,k,m,V,h,hb=>by
  simp only[af8]at hb;rw[tV,show Nat.blt m.length 9223372036854775807=true from Nat.ble_eq_true_of_le (by have:=h.len;omega),cond_true];obtain⟨m',h1,h2⟩:=TT N e p vars l (k+1) _ _ (h.add s 1 rfl) (by simp only[af6,af8,agi];omega);exact⟨m',by rw[agn]at h1;exact h1,h2⟩
theorem VU(N:Nat)(hN:2147483648<N)(p p':aY)(vars:agU agV)(e:ar)(hs:SizeOf.sizeOf e<N)(h:mR e)(hS:p.bu=p'.bu)(hP:p.bk=p'.bk)(tP:p.ay=p'.ay)(ye:nj p.bk)(jZ:ic p.ay)
 (hl:p.bu.length+vars.length<1000000000):∃t x,AU N p vars e=some (t,x)∧BT N p' vars e=some (t,x)∧(x=0→lI e=0):=by
 unfold AU BT;rw[abg N hN e h,VL N hN e hs h,af4,af4];cases hv:lI e !=0 with
 |true=>exact⟨_,_,rfl,rfl,fun h0=>h0⟩
 |false=>
  have hv:=gN hv;simp only[cond_false];rw[PJ,KA,af4,af4];cases o7 e with
  |true=>exact⟨_,_,rfl,rfl,fun h0=>by cases h0⟩
  |false=>
   simp only[cond_false];obtain⟨m1,h1,e1⟩:=TT N e p vars p.bu 0 [] [] ⟨fun _=>rfl,agh _⟩ (by simp only[agi];omega);obtain⟨m2,k2,h2,e2⟩:=Oo N e p vars 0 m1 _ h1 (by simp only[agi,List.nil_append];omega);rw[e1,e2,n5];have hV:VN m2 (vars++p'.bu):=V4 h2 (fun s=>by rw[List.nil_append,iO,iO,hS,Bool.or_comm]) (by rw[hS];simp only[af6,List.nil_append];omega);unfold Ih GU;obtain⟨t,t',x,a1,a2,a3⟩:=Nk (N:=N) hV hP tP ye jZ N e hs (WL hv);rw[a1,a2,af4,af4];dsimp only;cases hx:x !=0 with
   |true=>exact⟨_,_,rfl,rfl,fun _=>hv⟩
   |false=>obtain rfl:=a3 (gN hx);exact⟨_,_,rfl,rfl,fun _=>hv⟩
theorem um{y:ar}:∀{l:agU ar},y∈jE l→∃x∈l,y∈dd x
 |[],h=>by rw[jE]at h;cases h
 |x::l,h=>by
  rw[xb]at h;rcases agI.1 h with h|h
  ·exact⟨x,agb,h⟩
  ·obtain⟨z,h1,h2⟩:=um h;exact⟨z,age _ h1,h2⟩
theorem afq{t t':bn}{x:Int}(h:uz t x=(t',0)):x=0:=congrArg Prod.snd h
theorem Nw(N:Nat)(e:ar)(p:aY)(vars:agU agV)(rec:aY→agU agV→ar→agW (bn×Int)):
 ∀(l:agU ar)(k:Nat)(acc:agU bn)(t:bn),mv N e p vars rec l k acc=some (t,0)→
  (∀x∈l,∃t',rec p vars x=some (t',0))∧∃k' om,mv N e p vars rec [] k' om=some (t,0)
 |[],k,acc,t,h=>⟨fun _ hx=>(by cases hx),k,acc,h⟩
 |x::l,k,acc,t,h=>by
  rw[mv]at h;cases hr:rec p vars x with
  |none=>rw[hr]at h;cases h
  |some q=>
   rw[hr,af4]at h;cases hz:q.2 !=0 with
   |true=>rw[hz,cond_true]at h;rw[(Prod.mk.inj (agp h)).2]at hz;cases hz
   |false=>
    rw[hz,cond_false]at h;cases hb:Nat.ble ((acc.length+1)*40) 140737488355328 with
    |false=>rw[hb]at h;cases h
    |true=>
     rw[hb,cond_true]at h;obtain⟨h1,h2⟩:=Nw N e p vars rec l (k+1) (acc++[q.1]) t h;refine⟨fun y hy=> ?_,h2⟩;rcases agA.1 hy with rfl|hy
     ·exact⟨q.1,by rw[hr,←gN hz]⟩
     ·exact h1 y hy
theorem UM(N:Nat)(p:aY)(vars:agU agV)(jZ:ic p.ay):∀(d:Nat)(e:ar)(t:bn),xB N d p vars e=some (t,0)→∀y∈dd e,(y.aQ=3→mE (vars++p.bu) p.bk p.ay y=0)∧(y.aQ=2→kS (vars++p.bu) y.aL=0)
 |0,e,t,h=>by cases h
 |d+1,e,t,h=>by
  rw[xB]at h;obtain⟨h1,k',om,h2⟩:=Nw N e p vars _ _ _ _ _ h;intro y hy;rcases agA.1 hy with rfl|hy
  ·refine⟨fun gh=> ?_,fun gh=> ?_⟩
   ·rw[mv,gh,Oj N vars p jZ]at h2;exact afq (agp h2)
   ·rw[mv,gh,K7,Mz]at h2;have h3:=congrArg Prod.snd (agp h2);exact h3
  ·obtain⟨x,hx,hy⟩:=um hy;obtain⟨t',h3⟩:=h1 x hx;exact UM N p vars jZ d x t' h3 y hy
theorem V1(N:Nat)(p:aY)(vars:agU agV)(jZ:ic p.ay)(e:ar)(t:bn)(h:BT N p vars e=some (t,0)):∀y∈dd e,(y.aQ=3→mE (vars++p.bu) p.bk p.ay y=0)∧(y.aQ=2→kS (vars++p.bu) y.aL=0):=by
 unfold BT at h;cases e1:GN N e with
 |none=>rw[e1]at h;cases h
 |some a=>
  rw[e1,af4]at h;cases h1:a !=0 with
  |true=>rw[h1,cond_true]at h;rw[(Prod.mk.inj (agp h)).2]at h1;cases h1
  |false=>
   rw[h1,cond_false,KA,af4]at h;cases h2:o7 e with
   |true=>rw[h2]at h;cases h
   |false=>
    rw[h2,cond_false]at h;cases e3:GU N p vars e with
    |none=>rw[e3]at h;cases h
    |some q=>
     rw[e3,af4]at h;cases h4:q.2 !=0 with
     |true=>rw[h4,cond_true]at h;rw[(Prod.mk.inj (agp h)).2]at h4;cases h4
     |false=>exact UM N p vars jZ N e q.1 (by unfold GU at e3;rw[e3,←gN h4])
structure Bd(N:Nat)(p:aY):Prop where
 s:p.bu.length≤1000
 w:p.cM.length≤1000
 q:p.bk.length≤1000
 d:p.ay.length≤1000
 o:p.cu.length≤1000
 P:nj p.bk
 D:ic p.ay
 W:∀c∈p.cM,gr 1000000000 c.aL
 E:∀d∈p.ay,mR d.bq∧SizeOf.sizeOf d.bq<N
def G7(d:aG):agU agV:=(d.aS++d.bI).map (·.aq)
structure og(p:aY)(k:Nat)(d:aG):Prop where
 par:cC (p.bk.map (·.aq)) d.aq=false
 body:lI d.bq=0
 abC:mI p.bu [] (d.aS++d.bI)=0
 reads:∀y∈dd d.bq,y.aQ=3→mE (G7 d++p.bu) p.bk (p.ay.take k) y=0
 rE:∀y∈dd d.bq,y.aQ=2→kS (G7 d++p.bu) y.aL=0
 len:d.aS.length≤6∧d.bI.length≤6
 xv:cC ((p.ay.take k).map (·.aq)) d.aq=false
theorem Ux{D:agU aG}(h:ic D)(k:Nat):ic (D.take k):=⟨fun d hd=>h.len d (List.mem_of_mem_take hd),fun d hd=>h.j8 d (List.mem_of_mem_take hd)⟩
section
variable {N:Nat} {p:aY}
theorem abh(hN:2147483648<N)(B:Bd N p){m:agU (agV×Int)}{T:agU agV}{k:Nat}{d:aG}(h:KN m p.bu T)(hd:p.ay[k]?=some d)(hT:T.length≤1000000)(hq:∀s,cC (p.bk.map (·.aq)++(p.ay.take k).map (·.aq)) s=true→cC T s=true):
 ∃x m',AW N (k:Int) p m=some (x,m')∧LC N p (k:Int) (p.bu++T)=some x∧(x=0→KN m' p.bu (T++[d.aq])∧og p k d):=by
 have hmem:=tO hd;have af3:=B.D.len d hmem;have hlen:d.aS.length+d.bI.length<1000000000:=by omega
 have S9:∀x∈d.aS++d.bI,gG x.ep:=fun x hx=>(B.D.j8 d hmem x hx).ok;have hs:=B.s;unfold AW LC;rw[show decide ((0:Int)≤(k:Int))=true from agN (by omega),agx,hd,cond_true,cond_true,af4,af4,
  HJ N (by omega) _ 2 p h (by omega),Di N (by omega),af4,af4,Wl,LD,af4,af4,CJ,CJ]
 dsimp only;cases e:iv (p.bu++T) d.aq !=0 with
 |true=>exact⟨_,_,rfl,rfl,fun h0=>by rw[h0]at e;cases e⟩
 |false=>
  have e0:=gN e;have k1:=h.NJ (Eg e0).2;rw[e0];simp only[cond_false,agP,cond_true];cases iG d.aC with
  |false=>exact⟨_,_,rfl,rfl,fun h0=>by cases h0⟩
  |true=>
   simp only[cond_true];rw[show(bif !decide (d.aS.length≤6)then some true else some !decide (d.bI.length≤6))=some (!(decide (d.aS.length≤6)&&decide (d.bI.length≤6))) by cases decide (d.aS.length≤6)<;>cases decide (d.bI.length≤6)<;>rfl,af4];cases e6:decide (d.aS.length≤6)&&decide (d.bI.length≤6)with
   |false=>exact⟨_,_,rfl,rfl,fun h0=>by cases h0⟩
   |true=>
    rw[af7,decide_eq_true_eq,decide_eq_true_eq]at e6;simp only[cond_true,Bool.not_true,cond_false];rw[eu (by omega),eu (by omega),ad9 N (by omega) d p k1 S9 hlen,VR N (by omega) _ _ S9 (by simp only[af6];omega)];simp only[af4,cond_true,bne_self_eq_false,cond_false];cases ea:mI p.bu [] (d.aS++d.bI) !=0 with
    |true=>exact⟨_,_,rfl,rfl,fun h0=>by rw[h0]at ea;cases ea⟩
    |false=>
     simp only[cond_false];rw[XP,Yb,af4,af4];cases ef:yA d !=0 with
     |true=>exact⟨_,_,rfl,rfl,fun h0=>by rw[h0]at ef;cases ef⟩
     |false=>
      simp only[cond_false];have hk:k<p.ay.length:=by
       by_cases hk:k<p.ay.length
       ·exact hk
       ·rw[agC (by omega)]at hd;cases hd
      rw[show decide (k≤p.ay.length)=true from agN (by omega),cond_true,cond_true,ab3 N d hlen,adh N d hlen,af4,af4,agF];obtain⟨t,x,a1,a2,a3⟩:=VU N hN ⟨p.bu,p.cM,p.bk,p.ay.take k,p.cu⟩ ⟨p.bu,[],p.bk,p.ay.take k,[]⟩ ((d.aS++d.bI).map (·.aq)) d.bq (B.E d hmem).2 (B.E d hmem).1 rfl rfl rfl B.P (Ux B.D k)
        (by simp only[aga,af6];omega)
      rw[a1,a2,af4,af4];dsimp only;cases ex:x !=0 with
      |true=>exact⟨_,_,rfl,rfl,fun h0=>by rw[h0]at ex;cases ex⟩
      |false=>
       have x0:=gN ex;simp only[cond_false];cases ((t.bW==d.aC.bW)&&((t.ca==d.aC.ca)&&((t.cF==d.aC.cF)&&((t.cE==d.aC.cE)&&((t.cJ==d.aC.cJ)&&true)))))with
       |false=>exact⟨_,_,rfl,rfl,fun h0=>by cases h0⟩
       |true=>
        have fu:cC (p.bk.map (·.aq)++(p.ay.take k).map (·.aq)) d.aq=false:=by
         cases eq:cC (p.bk.map (·.aq)++(p.ay.take k).map (·.aq)) d.aq with
         |false=>rfl
         |true=>
          have:=(Eg e0).2;rw[iO,hq _ eq,Bool.or_true]at this;cases this
        rw[iO,agT]at fu;rw[x0]at a2;have tr:=V1 N _ _ (Ux B.D k) d.bq t a2;exact⟨_,_,rfl,rfl,fun _=>⟨k1,fu.1,a3 x0,gN ea,fun y hy=>(tr y hy).1,fun y hy=>(tr y hy).2,e6,fu.2⟩⟩
def zw(p:aY):Bool:=decide (p.bu.length≤64)&&(decide (p.bk.length≤64)&&(decide (p.ay.length≤64)&&(decide (p.cu.length≤64)&&decide (p.cM.length≤256))))
theorem ac0:Cc N p=some (zw p):=by
 unfold Cc zw;simp only[C5];rw[show decide (((max (max (max p.bu.length p.bk.length) p.ay.length) p.cu.length:Nat):Int)≤64)=decide (max (max (max p.bu.length p.bk.length) p.ay.length) p.cu.length≤64)from sR _ 64,show decide ((p.cM.length:Int)≤256)=decide (p.cM.length≤256)from sR _ 256];rw[show decide (max (max (max p.bu.length p.bk.length) p.ay.length) p.cu.length≤64)=(decide (p.bu.length≤64)&&(decide (p.bk.length≤64)&&(decide (p.ay.length≤64)&&decide (p.cu.length≤64)))) by
  rw[Bool.eq_iff_iff];simp only[af7,decide_eq_true_iff];omega]
 cases decide (p.bu.length≤64)<;>cases decide (p.bk.length≤64)<;>cases decide (p.ay.length≤64)<;>cases decide (p.cu.length≤64)<;>rfl
theorem WY:(bif (decide ((p.bu.length:Int)>(64:Int)))then some true else(bif (decide ((p.bk.length:Int)>(64:Int)))then some true else(bif (decide ((p.ay.length:Int)>(64:Int)))then some true else(bif (decide ((p.cu.length:Int)>(64:Int)))then some true else some (decide ((p.cM.length:Int)>(256:Int)))))))=some (!zw p):=by
 unfold zw;rw[show ∀n:Nat,decide ((n:Int)>64)= !decide (n≤64)from fun n=>jG n 64];rw[show decide ((p.bk.length:Int)>64)= !decide (p.bk.length≤64)from jG _ 64,show decide ((p.ay.length:Int)>64)= !decide (p.ay.length≤64)from jG _ 64,show decide ((p.cu.length:Int)>64)= !decide (p.cu.length≤64)from jG _ 64,show decide ((p.cM.length:Int)>256)= !decide (p.cM.length≤256)from jG _ 256];cases decide (p.bu.length≤64)<;>cases decide (p.bk.length≤64)<;>cases decide (p.ay.length≤64)<;>cases decide (p.cu.length≤64)<;>rfl
def sX:agU agV→agU agV→Int
 |_,[]=>0
 |S,s::l=>bif iv S s !=0 then iv S s else sX (S++[s]) l
theorem IK(hN:16<N):∀(l:agU agV)(k:Nat)(m:agU (agV×Int))(S:agU agV),KN m S []→S.length+l.length≤1000→
 ∃m',KN m' (S++l) []∧tc N p l k m=bif sX S l !=0 then some (0,sX S l)else qX N p m' p.cM 0
 |[],k,m,S,h,_=>⟨m,by rw[agr];exact h,rfl⟩
 |s::l,k,m,S,h,hb=>by
  simp only[af8]at hb;rw[tc,HJ N hN s 1 p h (by simp only[agi];omega),af4,agr,sX];dsimp only;cases e:iv S s !=0 with
  |true=>
   obtain⟨m',h1,_⟩:=IK hN l k _ _ (h.mL s) (by simp only[af6,af8,agi];omega);refine⟨m',by rw[agn]at h1;exact h1,?_⟩;simp only[cond_true];rw[e];rfl
  |false=>
   rw[gN e];obtain⟨m',h1,h2⟩:=IK hN l (k+1) _ _ (h.mL s) (by simp only[af6,af8,agi];omega);exact⟨m',by rw[agn]at h1;exact h1,h2⟩
theorem U5{α:Type}{L l:agU α}{x:α}{k:Nat}(h:L.drop k=x::l):L.take (k+1)=L.take k++[x]:=by
 have:=bS h;rw[List.take_add_one,this];rfl
theorem pc{α:Type}{L l:agU α}{x:α}{k:Nat}(h:L.drop k=x::l):L.drop (k+1)=l:=by
 rw[←List.drop_drop,h];rfl
theorem vG{α:Type}{L l:agU α}{x:α}{k:Nat}(h:L.drop k=x::l):k<L.length:=by
 by_cases hk:k<L.length
 ·exact hk
 ·rw[List.drop_eq_nil_of_le (by omega)]at h;cases h
theorem QL(hN:16<N):∀(l:agU agV)(k:Nat),p.bu.drop k=l→E2 N p l k=some (sX (p.bu.take k) l)
 |[],_,_=>rfl
 |s::l,k,h=>by
  rw[E2,agx,show decide (k≤p.bu.length)=true from agN (by have:=vG h;omega),cond_true,agF,Di N hN,af4,sX,QL hN l (k+1) (pc h),U5 h];cases iv (p.bu.take k) s !=0<;>rfl
theorem T0(hN:16<N){m:agU (agV×Int)}(h:KN m p.bu []):∀(l:agU cv)(k:Nat),(∀c∈l,gr 1000000000 c.aL)→
 qX N p m l k=bif fA (fun c=>gX p.bu c.aL) l !=0 then some (1,fA (fun c=>gX p.bu c.aL) l)else oM N p p.bk 0 2 m
 |[],_,_=>rfl
 |c::l,k,hc=>by
  have ok:gG c.aL:=(hc c agb).ok;have e1:yO N c p m=some (gX p.bu c.aL):=by
   unfold yO Gz;rw[wH N hN _ ok,af4,af4,HM N hN _ p ok h];unfold gX;cases eg c.aL<;>rfl
  rw[qX,e1,af4,fA,T0 hN h l (k+1) fun y hy=>hc y (age _ hy)];cases e:gX p.bu c.aL !=0 with
  |true=>simp only[cond_true];rw[e];rfl
  |false=>rfl
theorem TG(hN:16<N)(hs:p.bu.length≤1000):∀(l:agU cv)(k:Nat),(∀c∈l,gr 1000000000 c.aL)→
 Bx N p l k=bif fA (fun c=>gX p.bu c.aL) l !=0 then some (1,fA (fun c=>gX p.bu c.aL) l)else vy N p p.bk 0 p.bu 2
 |[],_,_=>by
  rw[Bx,eu (by omega)];rfl
 |c::l,k,hc=>by
  rw[Bx,LY N hN _ (hc c agb).ok,af4,fA,TG hN hs l (k+1) fun y hy=>hc y (age _ hy)];cases e:gX p.bu c.aL !=0 with
  |true=>simp only[cond_true];rw[e];rfl
  |false=>rfl
theorem S2(hN:16<N)(hs:p.bu.length≤1000):∀(l:agU bN)(k:Nat)(at_:Int)(m:agU (agV×Int))(T:agU agV),KN m p.bu T→nj l→T.length+l.length≤1000→
 (∃a x,x≠0∧oM N p l k at_ m=some (a,x)∧vy N p l k (p.bu++T) at_=some (a,x))∨
 ∃at' m',KN m' p.bu (T++l.map (·.aq))∧oM N p l k at_ m=oP N p p.ay 0 at' m'∧vy N p l k (p.bu++T) at_=wD N p p.ay 0 (p.bu++(T++l.map (·.aq))) at'
 |[],k,at_,m,T,h,_,_=> .inr ⟨at_,m,by rw[List.map_nil,agr];exact h,rfl,by rw[List.map_nil,agr];rfl⟩
 |x::l,k,at_,m,T,h,hl,hb=>by
  simp only[af8]at hb;obtain⟨m1,e1,e2⟩:=afr N hN x p (fun y hy=>(hl.j8 x agb y hy).ok) h (by omega);rw[oM,vy,e1,ZM N hN x p.bu T (fun y hy=>(hl.j8 x agb y hy).ok),af4,af4];dsimp only;cases e:wM p.bu T x !=0 with
  |true=>exact .inl ⟨_,_,fun h0=>(by rw[h0]at e;cases e),rfl,rfl⟩
  |false=>
   simp only[cond_false];rw[eu (by simp only[af6];omega),cond_true,agn];have:=S2 hN hs l (k+1) (a8 (at_+1)) m1 (T++[x.aq]) (e2 (gN e)) ⟨fun y hy=>hl.len y (age _ hy),fun y hy=>hl.j8 y (age _ hy)⟩ (by simp only[af6,af8,agi];omega);rw[agn]at this;exact this
theorem P7(hN:2147483648<N)(B:Bd N p):∀(l:agU aG)(k:Nat)(at_:Int)(m:agU (agV×Int))(T:agU agV),p.ay.drop k=l→KN m p.bu T→(∀s,cC (p.bk.map (·.aq)++(p.ay.take k).map (·.aq)) s=true→cC T s=true)→T.length+l.length≤10000→
 (∃a x,x≠0∧oP N p l k at_ m=some (a,x)∧wD N p l k (p.bu++T) at_=some (a,x))∨
 ((∀i d,k≤i→p.ay[i]?=some d→og p i d)∧∃at' m',KN m' p.bu (T++l.map (·.aq))∧oP N p l k at_ m=qH N m' p p.cu 0 at'∧wD N p l k (p.bu++T) at_=Aq N p p.cu 0 at')
 |[],k,at_,m,T,hd,h,_,_=>by
  refine .inr ⟨fun i d hi hx=> ?_,at_,m,by rw[List.map_nil,agr];exact h,rfl,rfl⟩
  ·have:p.ay.length≤k:=by
    by_cases hk:p.ay.length≤k
    ·exact hk
    ·have:=congrArg List.length hd;simp at this;omega
   rw[agC (by omega)]at hx;cases hx
 |d::l,k,at_,m,T,hd,h,hq,hb=>by
  simp only[af8]at hb;have hs:=B.s;obtain⟨x,m1,e1,e2,e3⟩:=abh hN B h (bS hd) (by omega) hq;rw[oP,wD,e1,e2,af4,af4];dsimp only;cases e:x !=0 with
  |true=>exact .inl ⟨_,_,fun h0=>(by rw[h0]at e;cases e),rfl,rfl⟩
  |false=>
   obtain⟨k1,g1⟩:=e3 (gN e);simp only[cond_false];rw[eu (by simp only[af6];omega),cond_true,agn];have:=P7 hN B l (k+1) (a8 (at_+1)) m1 (T++[d.aq]) (pc hd) k1 (fun s hs=>by
    rw[U5 hd,List.map_append,←agn,iO]at hs;rw[iO];rcases Bool.or_eq_true _ _▸hs with hs|hs
    ·rw[hq s hs];rfl
    ·rw[show cC [d.aq] s=true from hs,Bool.or_true]) (by simp only[af6,af8,agi];omega)
   rw[agn]at this;rcases this with this|⟨g,this⟩
   ·exact .inl this
   ·refine .inr ⟨fun i d' hi hx=> ?_,this⟩;by_cases ly:i=k
    ·subst ly;rw[bS hd]at hx;cases hx;exact g1
    ·exact g i d' (by omega) hx
theorem F5{α:Type}(f:α→agV)(s:agV):∀l:agU α,cC (l.map f) s=(l.find? fun x=>bL (f x)==bL s).isSome
 |[]=>rfl
 |x::l=>by
  rw[agv,List.find?_cons,show cC (f x::l.map f) s=(bL (f x)==bL s||cC (l.map f) s)from agR,F5 f s l];cases bL (f x)==bL s<;>rfl
theorem OW(P:agU bN)(D:agU aG)(s:agV):(eE P D s).2.2=cC (P.map (·.aq)++D.map (·.aq)) s:=by
 unfold eE;rw[iO,F5,F5];show _=(_||(D.find? (eH s)).isSome);cases P.find? fun x=>bL x.aq==bL s with
 |some x=>rfl
 |none=>cases D.find? (eH s)<;>rfl
theorem OC(hD:ic p.ay){m:agU (agV×Int)}(h:KN m p.bu (p.bk.map (·.aq)++p.ay.map (·.aq))):∀(l:agU agV)(k:Nat)(at_:Int),p.cu.drop k=l→
 ∃a x,qH N m p l k at_=some (a,x)∧Aq N p l k at_=some (a,x)
 |[],_,_,_=>⟨_,_,rfl,rfl⟩
 |s::l,k,at_,hd=>by
  rw[qH,Aq,h.Zc,HS N p s hD,af4,OW,agx,show decide (k≤p.cu.length)=true from agN (by have:=vG hd;omega),agF,Ui,ug,af4,af4];cases cC (p.bk.map (·.aq)++p.ay.map (·.aq)) s with
  |false=>exact⟨_,_,rfl,rfl⟩
  |true=>
   cases cC (p.cu.take k) s with
   |true=>exact⟨_,_,rfl,rfl⟩
   |false=>exact OC hD h l (k+1) (a8 (at_+1)) (pc hd)
theorem Km(hN:2147483648<N)(B:Bd N p):∃a x,se N p=some (a,x)∧DU N p=some (a,x)∧(x=0→∀i d,p.ay[i]?=some d→og p i d):=by
 have hs:=B.s;have hq:=B.q;have hd:=B.d;unfold se DU Ox;rw[ac0,WY,af4,af4];cases zw p with
 |false=>exact⟨_,_,rfl,rfl,fun h=>by cases h⟩
 |true=>
  simp only[cond_true,Bool.not_true,cond_false];obtain⟨m1,k1,e1⟩:=IK (N:=N) (p:=p) (by omega) p.bu 0 [] [] KN.nil (by simp only[agi];omega);rw[List.nil_append]at k1;rw[e1,QL (by omega) p.bu 0 rfl,af4,List.take_zero];cases ez:sX [] p.bu !=0 with
  |true=>exact⟨_,_,rfl,rfl,fun h0=>by rw[h0]at ez;cases ez⟩
  |false=>
   simp only[cond_false];rw[T0 (by omega) k1 _ _ B.W,TG (by omega) hs _ _ B.W];cases ew:fA (fun c=>gX p.bu c.aL) p.cM !=0 with
   |true=>exact⟨_,_,rfl,rfl,fun h0=>by rw[h0]at ew;cases ew⟩
   |false=>
    simp only[cond_false];have pb:=S2 (N:=N) (p:=p) (by omega) hs p.bk 0 2 m1 [] k1 B.P (by simp only[agi];omega);rw[agr,List.nil_append]at pb;rcases pb with⟨a,x,hx,e1,e2⟩|⟨at',m2,k2,e1,e2⟩
    ·exact⟨a,x,e1,e2,fun h0=>absurd h0 hx⟩
    ·rw[e1,e2];rcases P7 hN B p.ay 0 at' m2 _ rfl k2 (fun s h=>by rw[List.take_zero,List.map_nil,agr]at h;exact h) (by simp only[aga];omega)with⟨a,x,hx,e1,e2⟩|⟨g,Yr,m3,k3,e1,e2⟩
     ·exact⟨a,x,e1,e2,fun h0=>absurd h0 hx⟩
     ·rw[e1,e2];obtain⟨a,x,e1,e2⟩:=OC (N:=N) B.D k3 p.cu 0 Yr rfl;exact⟨a,x,e1,e2,fun _ i d h=>g i d (Nat.zero_le _) h⟩
end
def ko(s:agV)(y:ar):Bool:=y.xIdx.any (fun x=>bL x.aV==bL s)||(y.aQ==3&&(bL y.aq==bL s&&y.xIdx.any fun x=> !(bL x.aV==[])))
theorem OL(N:Nat)(s:agV):∀(l:agU az)(k:Nat),∃z:Int,tp N s l k=some z∧decide (z≥0)=l.any fun x=>bL x.aV==bL s
 |[],_=>⟨_,rfl,rfl⟩
 |x::l,k=>by
  obtain⟨z,h1,h2⟩:=OL N s l (k+1);rw[tp,h1,agR,show GH N x s=some (bL x.aV==bL s)from rfl,af4];cases bL x.aV==bL s with
  |true=>exact⟨_,rfl,agN (by omega)⟩
  |false=>exact⟨_,rfl,h2⟩
theorem QM(N:Nat):∀(l:agU az)(k:Nat),∃z:Int,tM N l k=some z∧decide (z≥0)=l.any fun x=> !(bL x.aV==[])
 |[],_=>⟨_,rfl,rfl⟩
 |x::l,k=>by
  obtain⟨z,h1,h2⟩:=QM N l (k+1);rw[tM,h1,agR,show C8 N x=some (!(bL x.aV==[]))from rfl,af4];cases bL x.aV==[]with
  |false=>exact⟨_,rfl,agN (by omega)⟩
  |true=>exact⟨_,rfl,h2⟩
theorem VH(N:Nat)(l:agU az)(s:agV):zA N l s=some (l.any fun x=>bL x.aV==bL s):=by
 unfold zA ET;obtain⟨z,h1,h2⟩:=OL N s l 0;rw[h1,af4,h2]
theorem Wh(N:Nat)(l:agU az):Cg N l=some (l.any fun x=> !(bL x.aV==[])):=by
 unfold Cg Ev;obtain⟨z,h1,h2⟩:=QM N l 0;rw[h1,af4,h2]
theorem NL(N:Nat)(c:agW Int)(s:agV):∀l:agU ar,sS N c s l=bif l.any (ko s)then some 1 else c
 |[]=>rfl
 |y::l=>by
  rw[sS,VH,Wh,NL N c s l,agR,af4];unfold ko;cases y.xIdx.any (fun x=>bL x.aV==bL s)<;>cases y.aQ==3<;>cases bL y.aq==bL s<;>cases y.xIdx.any (fun x=> !(bL x.aV==[]))<;>rfl
def pj(s:agV)(D:agU aG):Bool:=D.any fun d=>(dd d.bq).any (ko s)
theorem Jt(N:Nat)(s:agV):∀(D:agU aG)(k:Nat),qC N s D k=some (bif pj s D then 1 else 0)
 |[],_=>rfl
 |d::D,k=>by
  rw[qC,show sm N d.bq=some d.bq from rfl,af4,NL,Jt N s D];unfold pj;rw[agR];cases (dd d.bq).any (ko s)<;>rfl
theorem Sq(N:Nat)(rec:ar→agV→agW Bool)(s:agV):∀(l:agU ar)(k:Nat),(∀x∈l,rec x s=some (!(dd x).any (ko s)))→DY N rec s l k=some (!(jE l).any (ko s))
 |[],_,_=>by rw[jE];rfl
 |x::l,k,h=>by
  rw[DY,h x agb,af4,Sq N rec s l (k+1) fun y hy=>h y (age _ hy),xb,List.any_append];cases (dd x).any (ko s)<;>rfl
def C2(s:agV)(e:ar)(x:az):Bool:=bL x.aV==bL s||(e.aQ==3&&(bL e.aq==bL s&& !(bL x.aV==[])))
theorem Qm(N:Nat)(rec:ar→agV→agW Bool)(s:agV)(e:ar)(h:∀x∈e.a7,rec x s=some (!(dd x).any (ko s))):∀(l:agU az)(k:Nat),BL N rec s e l k=some (!l.any (C2 s e)&& !(jE e.a7).any (ko s))
 |[],_=>by rw[BL,Sq N rec s _ _ h];rfl
 |x::l,k=>by
  rw[BL,Qm N rec s e h l,agR,od];unfold C2;cases bL x.aV==bL s<;>cases e.aQ==3<;>cases bL e.aq==bL s<;>cases bL x.aV==[]<;>rfl
theorem Sv(s:agV)(e:ar):∀l:agU az,l.any (C2 s e)=(l.any (fun x=>bL x.aV==bL s)||(e.aQ==3&&(bL e.aq==bL s&&l.any fun x=> !(bL x.aV==[]))))
 |[]=>by rw[List.any_nil,List.any_nil,List.any_nil,Bool.and_false,Bool.and_false];rfl
 |x::l=>by
  rw[agR,agR,agR,Sv s e l];unfold C2;cases bL x.aV==bL s<;>cases e.aQ==3<;>cases bL e.aq==bL s<;>cases bL x.aV==[]<;>cases l.any (fun x=>bL x.aV==bL s)<;>rfl
theorem Tq(N:Nat)(s:agV):∀(d:Nat)(e:ar),SizeOf.sizeOf e<d→Gt N d e s=some (!(dd e).any (ko s))
 |0,_,h=>absurd h (agy _)
 |d+1,e,h=>by
  rw[Gt,Qm N _ s e (fun x hx=>Tq N s d x (by have:=kV hx;omega)) _ 0,Sv];unfold dd;rw[agR,Bool.not_or (ko s e)];rfl
theorem Qf(N:Nat)(s:agV):∀(D:agU aG)(k:Nat),(∀d∈D,SizeOf.sizeOf d.bq<N)→DJ N s D k=some (bif pj s D then 1 else 0)
 |[],_,_=>rfl
 |d::D,k,h=>by
  rw[DJ,Qf N s D (k+1) fun y hy=>h y (age _ hy)];unfold SF pj;rw[Tq N s N _ (h d agb),af4,agR];cases (dd d.bq).any (ko s)<;>rfl
theorem Nu{N:Nat}{p:aY}(hN:2147483648<N)(B:Bd N p)(s:agV):∃x,rJ N p s=some x∧LZ N p s=some x∧
 (x=0→(∀i d,p.ay[i]?=some d→og p i d)∧∃(i:Nat)(d:aG),p.ay.findIdx? (eH s)=some i∧p.ay[i]?=some d∧eH s d=true):=by
 obtain⟨a,x,e1,e2,e3⟩:=Km hN B;unfold rJ LZ;rw[e1,e2,af4,af4];dsimp only;cases e:x !=0 with
 |true=>exact⟨_,rfl,rfl,fun h0=>by rw[h0]at e;cases e⟩
 |false=>
  simp only[cond_false];rw[IN,Re,af4,af4];unfold jY;rcases wq (eH s) p.ay with⟨h1,h2⟩|⟨i,d,h1,h2,h3,h4⟩
  ·rw[h1];exact⟨_,rfl,rfl,fun h0=>by cases h0⟩
  ·rw[h1];simp only[agq];rw[show decide ((i:Int)<0)=false from agO (by omega),show decide ((0:Int)≤(i:Int))=true from agN (by omega),agx,h2];simp only[cond_true,cond_false,af4];cases d.cG !=0 with
   |true=>exact⟨_,rfl,rfl,fun h0=>by cases h0⟩
   |false=>
    simp only[cond_false];rw[Jt,Qf N s _ _ fun d hd=>(B.E d hd).2];exact⟨_,rfl,rfl,fun _=>⟨e3 (gN e),i,d,rfl,h2,h4⟩⟩
theorem Bm{a g:aw}{b:Int64}(h:kO a b= .ok g):g.xL.length≤a.xL.length:=by
 rw[Hg]at h;cases h1:eg a<;>rw[h1]at h
 ·cases h
 ·cases h2:b.toInt==0<;>rw[h2]at h
  ·cases h3:dX (a.xK.toInt*b.toInt)&&a.xL.all (oa b)<;>rw[h3]at h
   ·cases h
   ·cases h;exact Nat.le_of_eq (aga _)
  ·cases h;exact Nat.zero_le _
theorem xy:∀a b:agU aF,(eF a b).length≤a.length+b.length
 |[],[]=>by rw[eF];exact agh _
 |x::l,[]=>by rw[eF];have:=xy l [];simp only[af8,agi]at*;omega
 |[],y::r=>by rw[eF];have:=xy [] r;simp only[af8,agi]at*;omega
 |x::l,y::r=>by
  rw[eF];have h1:=xy l (y::r);have h2:=xy (x::l) r;have h3:=xy l r;split
  ·simp only[af8]at*;omega
  ·split<;>simp only[af8]at* <;>omega
termination_by a b=>a.length+b.length
theorem Ia{a b g:aw}(h:ib a b= .ok g):g.xL.length≤a.xL.length+b.xL.length:=by
 rw[RE]at h;cases h1:eg a&&eg b<;>rw[h1]at h
 ·cases h
 ·cases h2:dX (a.xK.toInt+b.xK.toInt)&&(eF a.xL b.xL).all jS<;>rw[h2]at h
  ·cases h
  ·cases h
   exact ago (List.length_filterMap_le _ _) (xy _ _)
def wb(s:agV):aw:=⟨0,[⟨s,1⟩]⟩
def dF:agU bf→agU az→agV→aw
 |a::A,x::F,s=>bif bL a.aq==bL s then x.aL else dF A F s
 |_,_,s=>wb s
def mW(F:agV→aw):agU aF→aw→X aw
 |[],out=> .ok out
 |m::l,out=>match kO (F m.aq) m.cZ with
  | .error e=> .error e
  | .ok g=>match ib out g with
    | .error e=> .error e
    | .ok h=>mW F l h
def gM(F:agV→aw)(l:aw):X aw:=mW F l.xL ⟨l.xK,[]⟩
def cN{α β:Type}(f:α→X β):agU α→X (agU β)
 |[]=> .ok []
 |x::l=>match f x with
  | .error e=> .error e
  | .ok y=>match cN f l with
    | .error e=> .error e
    | .ok r=> .ok (y::r)
def gY(F:agV→aw)(x:az):X az:=match gM F x.aL with
 | .error e=> .error e
 | .ok l=>match cN (gM F) x.bj with
   | .error e=> .error e
   | .ok a=> .ok ⟨l,x.aV,a⟩
def iP(F:agV→aw):Nat→ar→X ar
 |0,_=> .error .arg
 |d+1,e=>match gM F e.aL with
  | .error x=> .error x
  | .ok l=>match cN (gY F) e.xIdx with
    | .error x=> .error x
    | .ok i=>match cN (iP F d) e.a7 with
      | .error x=> .error x
      | .ok a=> .ok ⟨e.aQ,e.aq,e.dm,e.aC,l,i,a⟩
def qx(l:aw):Prop:=(∀m∈l.xL,fF m.aq=true)∧l.xL.length≤300
def Lc(x:az):Prop:=qx x.aL∧x.bj.length≤300∧∀l∈x.bj,qx l
def M1(e:ar):Prop:=qx e.aL∧e.xIdx.length≤300∧(∀x∈e.xIdx,Lc x)∧e.a7.length≤300
def jD(e:ar):Prop:=∀y∈dd e,M1 y
theorem jD.arg{e x:ar}(h:jD e)(hx:x∈e.a7):jD x:=fun y hy=>h y (q6 hx hy)
structure kN(A:List bf)(I:List az):Prop where
 len:I.length=A.length
 small:∀x∈I,x.aL.xL.length≤300
 xv:A.Pairwise fun a b=>(bL b.aq==bL a.aq)=false
theorem kN.tail{a:bf}{x:az}{A:agU bf}{I:agU az}(h:kN (a::A) (x::I)):kN A I:=
 ⟨by have:=h.len;simp only[af8]at this;omega,fun y hy=>h.small y (age _ hy),(List.pairwise_cons.1 h.xv).2⟩
theorem Fm:∀(A:agU bf)(I:agU az)(s:agV),(∀x∈I,x.aL.xL.length≤300)→(dF A I s).xL.length≤300
 |[],I,s,_=>by cases I<;>exact agd rfl
 |a::A,[],s,_=>agd rfl
 |a::A,x::I,s,h=>by
  rw[dF];cases bL a.aq==bL s with
  |true=>exact h x agb
  |false=>exact Fm A I s fun y hy=>h y (age _ hy)
section
variable {N:Nat} {A:agU bf} {I:agU az}
theorem SG(m:aF):∀(A:agU bf)(I:agU az)(k:Nat),I.length=A.length→
 (∃i x,sN N m A k=some ((k+i:Nat):Int)∧I[i]?=some x∧x.aL=dF A I m.aq)∨
 (sN N m A k=some (-1)∧dF A I m.aq=wb m.aq)
 |[],I,k,_=> .inr ⟨rfl,by cases I<;>rfl⟩
 |a::A,[],k,h=>by simp at h
 |a::A,x::I,k,h=>by
  rw[sN,show Ec N a m=some (bL a.aq==bL m.aq)from rfl,af4,dF];cases bL a.aq==bL m.aq with
  |true=>exact .inl ⟨0,x,rfl,rfl,rfl⟩
  |false=>
   rcases SG m A I (k+1) (by simpa using h)with⟨i,y,h1,h2,h3⟩|⟨h1,h2⟩
   ·exact .inl ⟨i+1,y,by rw[cond_false,h1,Nat.add_assoc,Nat.add_comm 1 i],by rw[agH];exact h2,h3⟩
   ·exact .inr ⟨h1,h2⟩
def ym(out f:aw)(b:Int64)(c:aw→agW (aw×Int)):agW (aw×Int):=match kO f b with
 | .error e=>some (dB,e.code)
 | .ok g=>match ib out g with
   | .error e=>some (dB,e.code)
   | .ok h=>c h
theorem aaY(hN:1000000<N)(m:aF)(out f:aw)(c:Int64→agU aF→agW (aw×Int))(h:out.xL.length+f.xL.length<900000):
 tX N m out.xK out.xL c f.xK f.xL=ym out f m.cZ fun h=>c h.xK h.xL:=by
 unfold tX ym;rw[afo N (by omega) ⟨f.xK,f.xL⟩ _ (by show f.xL.length≤_;omega),af4];show(bif (fX dB (kO f m.cZ)).2 !=0 then _ else _)=_;cases hs:kO f m.cZ with
 |error e=>show(bif e.code !=0 then _ else _)=_;rw[e.ne];rfl
 |ok g=>
  have hl:=Bm hs;show Option.bind (xA N ⟨out.xK,out.xL⟩ g) _=_;rw[Vt N (by omega) ⟨out.xK,out.xL⟩ g (by show out.xL.length+_≤_;omega) (by show out.xL.length+_<_;omega),af4];show(bif (fX dB (ib out g)).2 !=0 then _ else _)=(match ib out g with| .error e=>some (dB,e.code)| .ok h=>c h.xK h.xL);cases ib out g with
  |error e=>show(bif e.code !=0 then _ else _)=_;rw[e.ne];rfl
  |ok h=>rfl
theorem R4(hN:1000000<N)(S:kN A I):∀(l:agU aF)(k:Nat)(out:aw),(∀m∈l,fF m.aq=true)→out.xL.length+l.length*300<900000→
 n3 N A I l k out.xK out.xL=some (fX dB (mW (dF A I) l out))
 |[],k,out,_,_=>rfl
 |m::l,k,out,hn,hb=>by
  simp only[af8]at hb;have hf:=Fm A I m.aq S.small;have key:∀f:aw,f=dF A I m.aq→tX N m out.xK out.xL (fun bE dP=>n3 N A I l (k+1) bE dP) f.xK f.xL=some (fX dB (mW (dF A I) (m::l) out)):=by
   rintro f rfl;rw[aaY hN m out _ _ (by omega),mW];unfold ym;cases hs:kO (dF A I m.aq) m.cZ with
   |error e=>rfl
   |ok g=>
    have hl:=Bm hs;show(match ib out g with| .error e=>some (dB,e.code)| .ok h=>_)=some (fX dB (match ib out g with| .error e=> .error e| .ok h=>mW (dF A I) l h));cases ha:ib out g with
    |error e=>rfl
    |ok h=>
     have yr:=Ia ha;exact R4 hN S l (k+1) h (fun y hy=>hn y (age _ hy)) (by omega)
  rw[n3];unfold DZ F3;rw[NC N _ (by omega),af4,hn m agb,cond_true,af4];rcases SG (N:=N) m A I 0 S.len with⟨i,x,h1,h2,h3⟩|⟨h1,h2⟩
  ·rw[h1,af4,agq,show decide ((i:Int)≥0)=true from agN (by omega),agx,h2];exact key _ h3
  ·rw[h1,af4];exact key (wb m.aq) h2.symm
theorem IZ(hN:1000000<N)(S:kN A I)(l:aw)(h:qx l):yf N l A I=some (fX dB (gM (dF A I) l)):=
 R4 hN S l.xL 0 ⟨l.xK,[]⟩ h.1 (by have:=h.2;simp only[agi];omega)
theorem Wr(hN:1000000<N)(m:aF)(out f:aw)(c:Int64→agU aF→agW (aw×Int))(p:jV)(k:Nat)(h:out.xL.length+f.xL.length<900000):
 kG N m out.xK out.xL c p [] k f.xK f.xL=ym out f m.cZ fun h=>c h.xK h.xL:=by
 rw[kG];unfold ym;rw[VC N (by omega) ⟨f.xK,f.xL⟩ _ (by show f.xL.length≤_;omega),af4];show(bif (fX dB (kO f m.cZ)).2 !=0 then _ else _)=_;cases hs:kO f m.cZ with
 |error e=>show(bif e.code !=0 then _ else _)=_;rw[e.ne];rfl
 |ok g=>
  have hl:=Bm hs;show Option.bind (Ef N ⟨out.xK,out.xL⟩ g) _=_;rw[W9 N hN ⟨out.xK,out.xL⟩ g (by show out.xL.length+_<_;omega),af4];show(bif (fX dB (ib out g)).2 !=0 then _ else _)=(match ib out g with| .error e=>some (dB,e.code)| .ok h=>c h.xK h.xL);cases ib out g with
  |error e=>show(bif e.code !=0 then _ else _)=_;rw[e.ne];rfl
  |ok h=>rfl
theorem OX(m:aF)(K:Int64)(L:agU aF)(c:Int64→agU aF→agW (aw×Int))(p:jV):∀(A:agU bf)(k:Nat)(f:aw),(∀a∈A,(bL a.aq==bL m.aq)=false)→
 kG N m K L c p A k f.xK f.xL=kG N m K L c p [] 0 f.xK f.xL
 |[],k,f,_=>by rw[kG,kG]
 |a::A,k,f,h=>by
  conv=>lhs;rw[kG,h a agb,cond_false]
  exact OX m K L c p A (k+1) f fun b hb=>h b (age _ hb)
theorem P5(m:aF)(K:Int64)(L:agU aF)(c:Int64→agU aF→agW (aw×Int))(p:jV):∀(A:agU bf)(I:agU az)(k:Nat),p.N1.drop k=I→kN A I→
 kG N m K L c p A k (wb m.aq).xK (wb m.aq).xL=kG N m K L c p [] 0 (dF A I m.aq).xK (dF A I m.aq).xL
 |[],I,k,_,_=>by
  have:dF [] I m.aq=wb m.aq:=by cases I<;>rfl
  rw[this,kG,kG]
 |a::A,[],k,_,S=>by have:=S.len;simp at this
 |a::A,x::I,k,hd,S=>by
  conv=>lhs;rw[kG,agx,bS hd,af4]
  rw[dF];cases e:bL a.aq==bL m.aq with
  |true=>
   exact OX m K L c p A (k+1) x.aL fun b hb=>by
    have:=(List.pairwise_cons.1 S.xv).1 b hb;rw[beq_iff_eq.1 e]at this;exact this
  |false=>exact P5 m K L c p A I (k+1) (pc hd) S.tail
theorem ML(hN:1000000<N)(S:kN A I):∀(l:agU aF)(k:Nat)(out:aw),out.xL.length+l.length*300<900000→
 GA N ⟨A,I⟩ l k out.xK out.xL=some (fX dB (mW (dF A I) l out))
 |[],k,out,_=>rfl
 |m::l,k,out,hb=>by
  simp only[af8]at hb;have hf:=Fm A I m.aq S.small;rw[GA];refine Eq.trans (P5 m out.xK out.xL _ ⟨A,I⟩ A I 0 rfl S) ?_;rw[Wr hN m out _ _ _ _ (by omega),mW];unfold ym;cases hs:kO (dF A I m.aq) m.cZ with
  |error e=>rfl
  |ok g=>
   have hl:=Bm hs;show(match ib out g with| .error e=>some (dB,e.code)| .ok h=>_)=some (fX dB (match ib out g with| .error e=> .error e| .ok h=>mW (dF A I) l h));cases ha:ib out g with
   |error e=>rfl
   |ok h=>
    have yr:=Ia ha;exact ML hN S l (k+1) h (by omega)
theorem JA(hN:1000000<N)(S:kN A I)(l:aw)(h:qx l):EX N ⟨A,I⟩ l=some (fX dB (gM (dF A I) l)):=
 ML hN S l.xL 0 ⟨l.xK,[]⟩ (by have:=h.2;simp only[agi];omega)
theorem NK(hN:1000000<N)(S:kN A I)(v8:agU az)(c:agU az→agW (agU az×Int))(q:aw×Int)(x:az)(h8:v8.length<1000000):∀(l:agU aw)(k:Nat)(K:Int64)(L:agU aF)(acc:agU aw),(∀y∈l,qx y)→acc.length+l.length<1000000→
 qZ N v8 c q x A I l k K L acc=match cN (gM (dF A I)) l with| .error e=>some ([],e.code)| .ok r=>c (v8++[⟨q.1,x.aV,acc++r⟩])
 |[],k,K,L,acc,_,_=>by rw[qZ,cN,eu (by omega)];dsimp only;rw[agr];rfl
 |y::l,k,K,L,acc,hy,hb=>by
  simp only[af8]at hb;rw[qZ,IZ hN S y (hy y agb),af4,cN];cases gM (dF A I) y with
  |error e=>show(bif e.code !=0 then _ else _)=_;rw[e.ne];rfl
  |ok v=>
   show(bif Nat.ble ((acc.length+1)*32) 140737488355328 then _ else none)=_;rw[eu (by omega)];refine Eq.trans (NK hN S v8 c q x h8 l (k+1) _ _ (acc++[v]) (fun z hz=>hy z (age _ hz)) (by simp only[af6,af8,agi];omega)) ?_;cases cN (gM (dF A I)) l with
   |error e=>rfl
   |ok r=>show c (v8++[⟨q.1,x.aV,acc++[v]++r⟩])=_;rw[agn];rfl
theorem PT(hN:1000000<N)(S:kN A I):∀(l:agU az)(k:Nat)(acc:agU az),(∀y∈l,Lc y)→acc.length+l.length<1000000→
 qa N A I l k acc=match cN (gY (dF A I)) l with| .error e=>some ([],e.code)| .ok r=>some (acc++r,0)
 |[],k,acc,_,_=>by rw[qa,cN];dsimp only;rw[agr]
 |y::l,k,acc,hy,hb=>by
  simp only[af8]at hb;have h1:=hy y agb;rw[qa,IZ hN S y.aL h1.1,af4,cN];cases e1:gM (dF A I) y.aL with
  |error e=>
   rw[show gY (dF A I) y= .error e by unfold gY;rw[e1]];show(bif e.code !=0 then _ else _)=_;rw[e.ne];rfl
  |ok v=>
   refine Eq.trans (NK hN S acc _ (v,0) y (by omega) y.bj 0 _ _ [] h1.2.2 (by have:=h1.2.1;simp only[agi];omega)) ?_;cases e2:cN (gM (dF A I)) y.bj with
   |error e=>rw[show gY (dF A I) y= .error e by unfold gY;rw[e1];dsimp only;rw[e2]]
   |ok a=>
    rw[show gY (dF A I) y= .ok ⟨v,y.aV,a⟩ by unfold gY;rw[e1];dsimp only;rw[e2]];refine Eq.trans (PT hN S l (k+1) (acc++[⟨v,y.aV,a⟩]) (fun z hz=>hy z (age _ hz)) (by simp only[af6,af8,agi];omega)) ?_;cases cN (gY (dF A I)) l with
    |error e=>rfl
    |ok r=>dsimp only;rw[agn];rfl
theorem UR(e:ar)(v4:aw×Int)(v5:agU az×Int)(rec:agU bf→agU az→ar→agW (ar×Int))(f:ar→X ar):∀(l:agU ar)(k:Nat)(acc:agU ar),(∀y∈l,rec A I y=some (fX fq (f y)))→acc.length+l.length<1000000→
 qO N e v4 v5 rec A I l k acc=match cN f l with| .error e=>some (fq,e.code)| .ok r=>some (⟨e.aQ,e.aq,e.dm,e.aC,v4.1,v5.1,acc++r⟩,0)
 |[],k,acc,_,_=>by rw[qO,cN];dsimp only;rw[agr]
 |y::l,k,acc,hy,hb=>by
  simp only[af8]at hb;rw[qO,hy y agb,af4,cN];cases f y with
  |error e=>show(bif e.code !=0 then _ else _)=_;rw[e.ne];rfl
  |ok v=>
   show(bif Nat.ble ((acc.length+1)*160) 140737488355328 then _ else none)=_;rw[eu (by omega)];refine Eq.trans (UR e v4 v5 rec f l (k+1) (acc++[v]) (fun z hz=>hy z (age _ hz)) (by simp only[af6,af8,agi];omega)) ?_;cases cN f l with
   |error e=>rfl
   |ok r=>show some ((⟨_,_,_,_,_,_,acc++[v]++r⟩:ar),_)=_;rw[agn];rfl
theorem O0(hN:1000000<N)(S:kN A I):∀(d:Nat)(e:ar),SizeOf.sizeOf e<d→jD e→sw N d A I e=some (fX fq (iP (dF A I) d e))
 |0,e,h,_=>absurd h (agy _)
 |d+1,e,h,ok=>by
  have h1:=ok e agb;rw[sw,IZ hN S e.aL h1.1,af4,iP];cases gM (dF A I) e.aL with
  |error e=>show(bif e.code !=0 then _ else _)=_;rw[e.ne];rfl
  |ok v=>
   show Option.bind (zX N A I e.xIdx) _=_;unfold zX;rw[PT hN S e.xIdx 0 [] h1.2.2.1 (by have:=h1.2.1;simp only[agi];omega)];cases cN (gY (dF A I)) e.xIdx with
   |error e=>show(bif e.code !=0 then _ else _)=_;rw[e.ne];rfl
   |ok i=>
    refine Eq.trans (UR e (v,0) ([]++i,0) _ (iP (dF A I) d) e.a7 0 [] (fun y hy=>O0 hN S d y (by have:=kV hy;omega) (ok.arg hy)) (by have:=h1.2.2.2;simp only[agi];omega)) ?_;cases cN (iP (dF A I) d) e.a7 with
    |error e=>rfl
    |ok a=>rfl
theorem SA(hN:1000000<N)(S:kN A I)(v8:agU az)(c:agU az→Int64→agU aF→agW (ar×Int))(q:aw×Int)(x:az)(h8:v8.length<1000000):∀(l:agU aw)(k:Nat)(K:Int64)(L:agU aF)(acc:agU aw),(∀y∈l,qx y)→acc.length+l.length<1000000→
 ∃K' L',BN N v8 c q x ⟨A,I⟩ l k K L acc=match cN (gM (dF A I)) l with| .error e=>some (fq,e.code)| .ok r=>c (v8++[⟨q.1,x.aV,acc++r⟩]) K' L'
 |[],k,K,L,acc,_,_=>⟨K,L,by rw[BN,cN,eu (by omega)];dsimp only;rw[agr];rfl⟩
 |y::l,k,K,L,acc,hy,hb=>by
  simp only[af8]at hb;rw[BN,JA hN S y (hy y agb),af4,cN];cases gM (dF A I) y with
  |error e=>exact⟨K,L,by show(bif e.code !=0 then _ else _)=_;rw[e.ne];rfl⟩
  |ok v=>
   obtain⟨K',L',h⟩:=SA hN S v8 c q x h8 l (k+1) v.xK v.xL (acc++[v]) (fun z hz=>hy z (age _ hz)) (by simp only[af6,af8,agi];omega);refine⟨K',L',?_⟩;show(bif Nat.ble ((acc.length+1)*32) 140737488355328 then _ else none)=_;rw[eu (by omega)];refine Eq.trans h ?_;cases cN (gM (dF A I)) l with
   |error e=>rfl
   |ok r=>show c (v8++[⟨q.1,x.aV,acc++[v]++r⟩]) K' L'=_;rw[agn];rfl
theorem Nn(hN:1000000<N)(S:kN A I)(e:ar)(q:aw×Int)(rec:jV→ar→agW (ar×Int)):∀(l:agU az)(k:Nat)(acc:agU az)(K:Int64)(L:agU aF),(∀y∈l,Lc y)→acc.length+l.length<1000000→
 w9 N e q rec ⟨A,I⟩ l k acc K L=match cN (gY (dF A I)) l with| .error e=>some (fq,e.code)| .ok r=>yl N e q (acc++r) rec ⟨A,I⟩ e.a7 0 []
 |[],k,acc,K,L,_,_=>by rw[w9,cN];dsimp only;rw[agr]
 |y::l,k,acc,K,L,hy,hb=>by
  simp only[af8]at hb;have h1:=hy y agb;rw[w9,JA hN S y.aL h1.1,af4,cN];cases e1:gM (dF A I) y.aL with
  |error e=>
   rw[show gY (dF A I) y= .error e by unfold gY;rw[e1]];show(bif e.code !=0 then _ else _)=_;rw[e.ne];rfl
  |ok v=>
   obtain⟨K',L',h⟩:=SA hN S acc (fun bE dP kM=>w9 N e q rec ⟨A,I⟩ l (k+1) bE dP kM) (v,0) y (by omega) y.bj 0 v.xK v.xL [] h1.2.2 (by have:=h1.2.1;simp only[agi];omega);refine Eq.trans h ?_;cases e2:cN (gM (dF A I)) y.bj with
   |error e=>rw[show gY (dF A I) y= .error e by unfold gY;rw[e1];dsimp only;rw[e2]]
   |ok a=>
    rw[show gY (dF A I) y= .ok ⟨v,y.aV,a⟩ by unfold gY;rw[e1];dsimp only;rw[e2]];refine Eq.trans (Nn hN S e q rec l (k+1) (acc++[⟨v,y.aV,a⟩]) K' L' (fun z hz=>hy z (age _ hz)) (by simp only[af6,af8,agi];omega)) ?_;cases cN (gY (dF A I)) l with
    |error e=>rfl
    |ok r=>dsimp only;rw[agn];rfl
theorem QQ(e:ar)(v4:aw×Int)(i:agU az)(rec:jV→ar→agW (ar×Int))(p:jV)(f:ar→X ar):∀(l:agU ar)(k:Nat)(acc:agU ar),(∀y∈l,rec p y=some (fX fq (f y)))→acc.length+l.length<1000000→
 yl N e v4 i rec p l k acc=match cN f l with| .error e=>some (fq,e.code)| .ok r=>some (⟨e.aQ,e.aq,e.dm,e.aC,v4.1,i,acc++r⟩,0)
 |[],k,acc,_,_=>by rw[yl,cN];dsimp only;rw[agr]
 |y::l,k,acc,hy,hb=>by
  simp only[af8]at hb;rw[yl,hy y agb,af4,cN];cases f y with
  |error e=>show(bif e.code !=0 then _ else _)=_;rw[e.ne];rfl
  |ok v=>
   show(bif Nat.ble ((acc.length+1)*160) 140737488355328 then _ else none)=_;rw[eu (by omega)];refine Eq.trans (QQ e v4 i rec p f l (k+1) (acc++[v]) (fun z hz=>hy z (age _ hz)) (by simp only[af6,af8,agi];omega)) ?_;cases cN f l with
   |error e=>rfl
   |ok r=>show some ((⟨_,_,_,_,_,_,acc++[v]++r⟩:ar),_)=_;rw[agn];rfl
theorem Rq(hN:1000000<N)(S:kN A I):∀(d:Nat)(e:ar),SizeOf.sizeOf e<d→jD e→EP N d ⟨A,I⟩ e=some (fX fq (iP (dF A I) d e))
 |0,e,h,_=>absurd h (agy _)
 |d+1,e,h,ok=>by
  have h1:=ok e agb;rw[EP,JA hN S e.aL h1.1,af4,iP];cases gM (dF A I) e.aL with
  |error e=>show(bif e.code !=0 then _ else _)=_;rw[e.ne];rfl
  |ok v=>
   refine Eq.trans (Nn hN S e (v,0) _ e.xIdx 0 [] v.xK v.xL h1.2.2.1 (by have:=h1.2.1;simp only[agi];omega)) ?_;cases cN (gY (dF A I)) e.xIdx with
   |error e=>rfl
   |ok i=>
    refine Eq.trans (QQ e (v,0) ([]++i) _ ⟨A,I⟩ (iP (dF A I) d) e.a7 0 [] (fun y hy=>Rq hN S d y (by have:=kV hy;omega) (ok.arg hy)) (by have:=h1.2.2.2;simp only[agi];omega)) ?_;cases cN (iP (dF A I) d) e.a7 with
    |error e=>rfl
    |ok a=>rfl
end
theorem KS{α β:Type}{f g:α→X β}:∀l:agU α,(∀x∈l,f x=g x)→cN f l=cN g l
 |[],_=>rfl
 |x::l,h=>by rw[cN,cN,h x agb,KS l fun y hy=>h y (age _ hy)]
theorem Hk(F:agV→aw):∀(d d':Nat)(e:ar),SizeOf.sizeOf e<d→SizeOf.sizeOf e<d'→iP F d e=iP F d' e
 |0,_,_,h,_=>absurd h (agy _)
 |_,0,_,_,h=>absurd h (agy _)
 |d+1,d'+1,e,h,h'=>by
  rw[iP,iP,KS e.a7 fun x hx=>Hk F d d' x (by have:=kV hx;omega) (by have:=kV hx;omega)]
structure TU(x:az):Prop where
 iQ:gr 1000000 x.aL
 at_:x.bj.length≤1000000
 rE:∀l∈x.bj,gr 1000000 l
structure OA(e:ar):Prop where
 iQ:gr 1000000 e.aL
 idx:e.xIdx.length≤1000000
 each:∀x∈e.xIdx,TU x
 args:e.a7.length≤1000000
def lM(e:ar):Prop:=∀y∈dd e,OA y
theorem lM.arg{e x:ar}(h:lM e)(hx:x∈e.a7):lM x:=fun y hy=>h y (q6 hx hy)
theorem lM.ok{e:ar}(h:lM e):mR e:=fun y hy=>
 ⟨ago (h y hy).iQ (by decide),fun x hx=>⟨ago ((h y hy).each x hx).iQ (by decide),fun l hl=>ago (((h y hy).each x hx).rE l hl) (by decide)⟩,ago (h y hy).args (by decide)⟩
theorem Jd(N:Nat)(l:aw)(h:gr 1000000 l):uc N l=some (l,0):=by
 unfold uc A9;rw[eu (by have:=h;unfold gr at this;omega)];rfl
theorem Bz{α:Type}:∀(L:agU α)(k:Nat)(x:α),L[k]?=some x→L.set k x=L
 |[],_,_,_=>rfl
 |y::L,0,x,h=>by cases h;rfl
 |y::L,k+1,x,h=>by rw[List.set_cons_succ,Bz L k x (by rw[agH]at h;exact h)]
theorem iY(n:Nat):Nat.beq n n=true:=Nat.beq_refl n
theorem U0(N:Nat)(e:ar)(rec:ar→agW (ar×Int))(v8:agU az)(v2:aw×Int):∀(l:agU ar)(k:Nat),e.a7.drop k=l→(∀x∈l,rec x=some (x,0))→v8.length=e.xIdx.length→
 rU N v8 e.xIdx e.a7 e v2 rec l k e.a7=some (⟨e.aQ,e.aq,e.dm,e.aC,v2.1,v8,e.a7⟩,0)
 |[],k,_,_,h8=>by rw[rU,h8,iY,iY];rfl
 |x::l,k,hd,hx,h8=>by
  rw[rU,hx x agb,af4,iY,show decide ((k:Int)<(e.a7.length:Int))=true from agN (by have:=vG hd;omega),bS hd];simp only[cond_true,af4,bne_self_eq_false,cond_false];rw[Bz _ _ _ (bS hd)];exact U0 N e rec v8 v2 l (k+1) (pc hd) (fun y hy=>hx y (age _ hy)) h8
theorem PS(N:Nat)(c:agU az→agW (ar×Int))(v8:agU az)(k4:Nat)(x:az)(hx:v8[k4]?=some x):∀(l:agU aw)(k:Nat),x.bj.drop k=l→(∀y∈l,gr 1000000 y)→
 qS N x.bj c v8 k4 (x.aL,0) x l k x.bj=c v8
 |[],k,_,_=>by
  rw[qS,iY,cond_true];dsimp only;rw[Bz v8 k4 x hx,Bz v8 k4 x hx]
 |y::l,k,hd,hy=>by
  rw[qS,Jd N y (hy y agb),af4,iY,show decide ((k:Int)<(x.bj.length:Int))=true from agN (by have:=vG hd;omega),bS hd];simp only[cond_true,af4,bne_self_eq_false,cond_false];rw[Bz _ _ _ (bS hd)];exact PS N c v8 k4 x hx l (k+1) (pc hd) fun z hz=>hy z (age _ hz)
theorem U4(N:Nat)(e:ar)(rec:ar→agW (ar×Int))(v2:aw×Int)(ha:e.a7.length≤1000000)(hr:∀x∈e.a7,rec x=some (x,0)):∀(l:agU az)(k:Nat),e.xIdx.drop k=l→(∀y∈l,TU y)→
 pA N e e.xIdx v2 rec l k e.xIdx=some (⟨e.aQ,e.aq,e.dm,e.aC,v2.1,e.xIdx,e.a7⟩,0)
 |[],k,_,_=>by
  rw[pA];unfold HX;rw[eu (by omega),cond_true,af4];exact U0 N e rec e.xIdx v2 e.a7 0 rfl hr rfl
 |x::l,k,hd,hy=>by
  have h1:=hy x agb;have hl:=h1.at_;rw[pA,Jd N x.aL h1.iQ,af4,iY,show decide ((k:Int)<(e.xIdx.length:Int))=true from agN (by have:=vG hd;omega),bS hd];unfold Jo;simp only[cond_true,af4,bne_self_eq_false,cond_false];rw[eu (by omega),cond_true,af4,List.length_set,iY,cond_true];rw[PS N _ e.xIdx k x (bS hd) x.bj 0 rfl h1.rE];exact U4 N e rec v2 ha hr l (k+1) (pc hd) fun z hz=>hy z (age _ hz)
theorem QG(N:Nat):∀(d:Nat)(e:ar),SizeOf.sizeOf e<d→lM e→nS N d e=some (e,0)
 |0,_,h,_=>absurd h (agy _)
 |d+1,e,h,hb=>by
  have h1:=hb e agb;have hl:=h1.idx;rw[nS,Jd N e.aL h1.iQ,af4];unfold Ll;rw[eu (by omega)];refine Eq.trans (U4 N e _ (e.aL,0) h1.args (fun x hx=>QG N d x (by have:=kV hx;omega) (hb.arg hx)) e.xIdx 0 rfl h1.each) ?_;cases e;rfl
theorem acG(N:Nat)(e:ar)(h:SizeOf.sizeOf e<N)(hb:lM e):yJ N e=some e:=by
 unfold yJ He;rw[QG N N e h hb];rfl
theorem J7(N:Nat):∀(l:agU bf)(k:Nat)(acc:agU bf),acc.length+l.length≤1000000000→(∀x∈l,gr 1000000000 x.ep)→rh N l k acc=some (acc++l)
 |[],_,acc,_,_=>by rw[rh,agr]
 |a::l,k,acc,h,hx=>by
  simp only[af8]at h;rw[rh,ED N a.ep (hx a agb),af4,eu (by omega),cond_true];dsimp only;rw[J7 N l (k+1) _ (by simp only[af6,af8,agi];omega) fun y hy=>hx y (age _ hy)];rw[agn];rfl
section
variable {N:Nat} {p:aY}
theorem O1(S:agU agV)(W:agU cv)(P:agU bN)(O:agU agV):∀(l:agU aG)(k n:Nat)(acc:agU aG),acc.length=n→n+l.length≤1000→ic l→(∀d∈l,lM d.bq∧SizeOf.sizeOf d.bq<N)→
 rX N S W P O l k n acc=some (S,W,P,n+l.length,O,acc++l)
 |[],_,n,acc,_,_,_,_=>by rw[rX,agr];rfl
 |d::l,k,n,acc,ha,hb,hD,hE=>by
  simp only[af8]at hb;have hl:=hD.len d agb;have e1:rV N d.aS=some d.aS:=by
   unfold rV;rw[J7 N _ _ _ (by simp only[agi];omega) fun y hy=>hD.j8 d agb y (List.mem_append_left _ hy)];rfl
  have e2:rV N d.bI=some d.bI:=by
   unfold rV;rw[J7 N _ _ _ (by simp only[agi];omega) fun y hy=>hD.j8 d agb y (List.mem_append_right _ hy)];rfl
  rw[rX,e1,e2,acG N d.bq (hE d agb).2 (hE d agb).1,af4,af4,af4,ha,iY,eu (by omega),cond_true,cond_true];refine Eq.trans (O1 S W P O l (k+1) (n+1) (acc++[d]) (by simp only[af6,af8,agi];omega) (by omega) ⟨fun y hy=>hD.len y (age _ hy),fun y hy=>hD.j8 y (age _ hy)⟩ fun y hy=>hE y (age _ hy)) ?_;rw[agn,af8,Nat.add_assoc,Nat.add_comm 1 l.length];rfl
structure Bc(N:Nat)(p:aY):Prop where
 b:Bd N p
 E:∀d∈p.ay,lM d.bq∧SizeOf.sizeOf d.bq<N
theorem N9(B:Bc N p)(S:agU agV)(W:agU cv)(O:agU agV):∀(l:agU bN)(k:Nat)(acc:agU bN),acc.length+l.length≤1000→nj l→
 qG N S W O p l k acc=some (S,W,acc++l,p.ay.length,O,p.ay)
 |[],k,acc,_,_=>by
  have:=B.b.d;rw[qG,O1 S W acc O p.ay 0 0 [] rfl (by omega) B.b.D B.E,agr,agq];rfl
 |x::l,k,acc,h,hP=>by
  simp only[af8]at h;rw[qG,Rm N x.aS (hP.len x agb) (hP.j8 x agb),af4,eu (by omega),cond_true];refine Eq.trans (N9 B S W O l (k+1) (acc++[x]) (by simp only[af6,af8,agi];omega) ⟨fun y hy=>hP.len y (age _ hy),fun y hy=>hP.j8 y (age _ hy)⟩) ?_;rw[agn];rfl
theorem Rr(B:Bc N p)(S:agU agV)(O:agU agV):∀(l:agU cv)(k:Nat)(acc:agU cv),acc.length+l.length≤1000→(∀c∈l,gr 1000000000 c.aL)→
 qV N S O p l k acc=some (S,acc++l,p.bk,p.ay.length,O,p.ay)
 |[],k,acc,_,_=>by
  have:=B.b.q;rw[qV,N9 B S acc O p.bk 0 [] (by simp only[agi];omega) B.b.P,agr];rfl
 |c::l,k,acc,h,hc=>by
  simp only[af8]at h;rw[qV,ED N c.aL (hc c agb),af4,eu (by omega),cond_true];refine Eq.trans (Rr B S O l (k+1) (acc++[c]) (by simp only[af6,af8,agi];omega) fun y hy=>hc y (age _ hy)) ?_;rw[agn];rfl
theorem LO(B:Bc N p):sK N p=some (p.bu,p.cM,p.bk,p.ay.length,p.cu,p.ay):=by
 have h1:=B.b.s;have h2:=B.b.o;have h3:=B.b.w;unfold sK FC;rw[eu (by omega),eu (by omega),cond_true,cond_true,af4,af4,Rr B _ _ p.cM 0 [] (by simp only[agi];omega) B.b.W];rfl
end
noncomputable def fI(D:aG):Nat→ar→X ar
 |0,_=> .error .arg
 |n+1,e=>bif e.aQ==3&&bL e.aq==bL D.aq then iP (dF D.aS e.xIdx) (SizeOf.sizeOf D.bq+1) D.bq else match cN (fI D n) e.a7 with
  | .error x=> .error x
  | .ok a=> .ok ⟨e.aQ,e.aq,e.dm,e.aC,e.aL,e.xIdx,a⟩
def ou(A:agU bf):Prop:=A.Pairwise fun a b=>(bL b.aq==bL a.aq)=false
structure Rp(D:aG)(e:ar):Prop where
 ok:jD e
 idx:∀y∈dd e,y.aQ=3→(bL y.aq==bL D.aq)=true→y.xIdx.length=D.aS.length
theorem Rp.arg{D:aG}{e x:ar}(h:Rp D e)(hx:x∈e.a7):Rp D x:=⟨h.ok.arg hx,fun y hy=>h.idx y (q6 hx hy)⟩
theorem Rp.sub{D:aG}{e:ar}(h:Rp D e)(hd:ou D.aS)(h3:(e.aQ==3)=true)(hn:(bL e.aq==bL D.aq)=true):kN D.aS e.xIdx:=
 ⟨h.idx e agb (beq_iff_eq.1 h3) hn,fun x hx=>(((h.ok e agb).2.2.1 x hx).1).2,hd⟩
section
variable {N:Nat} {D:aG}
theorem Rl(e:ar)(rec:ar→aG→agW (ar×Int))(f:ar→X ar):∀(l:agU ar)(k:Nat)(acc:agU ar),(∀y∈l,rec y D=some (fX fq (f y)))→acc.length+l.length<1000000→
 qh N e rec D l k acc=match cN f l with| .error e=>some (fq,e.code)| .ok r=>some (⟨e.aQ,e.aq,e.dm,e.aC,e.aL,e.xIdx,acc++r⟩,0)
 |[],k,acc,_,_=>by rw[qh,cN];dsimp only;rw[agr]
 |y::l,k,acc,hy,hb=>by
  simp only[af8]at hb;rw[qh,hy y agb,af4,cN];cases f y with
  |error e=>show(bif e.code !=0 then _ else _)=_;rw[e.ne];rfl
  |ok v=>
   show(bif Nat.ble ((acc.length+1)*160) 140737488355328 then _ else none)=_;rw[eu (by omega)];refine Eq.trans (Rl e rec f l (k+1) (acc++[v]) (fun z hz=>hy z (age _ hz)) (by simp only[af6,af8,agi];omega)) ?_;cases cN f l with
   |error e=>rfl
   |ok r=>dsimp only;rw[agn];rfl
theorem UH(hN:1000000<N)(hd:ou D.aS)(hD:jD D.bq)(hs:SizeOf.sizeOf D.bq<N):∀(d:Nat)(e:ar),SizeOf.sizeOf e<d→Rp D e→oh N d e D=some (fX fq (fI D d e))
 |0,e,h,_=>absurd h (agy _)
 |d+1,e,h,R=>by
  rw[oh,fI];have h1:=(R.ok e agb).2.2.2;have ih:=Rl (N:=N) (D:=D) e (oh N d) (fI D d) e.a7 0 [] (fun y hy=>UH hN hd hD hs d y (by have:=kV hy;omega) (R.arg hy)) (by simp only[agi];omega);have e0:qh N e (oh N d) D e.a7 0 []=some (fX fq (match cN (fI D d) e.a7 with| .error x=> .error x| .ok a=> .ok ⟨e.aQ,e.aq,e.dm,e.aC,e.aL,e.xIdx,a⟩)):=by
    rw[ih];cases cN (fI D d) e.a7<;>rfl
  cases h3:e.aQ==3 with
  |false=>exact e0
  |true=>
   cases hn:bL e.aq==bL D.aq with
   |false=>exact e0
   |true=>
    have S:=R.sub hd h3 hn;show Option.bind (F1 N D.aS e.xIdx D.bq) _=_;unfold F1;rw[O0 hN S N D.bq hs hD,Hk _ N (SizeOf.sizeOf D.bq+1) D.bq hs (agS _)];rfl
theorem Px(e:ar)(rec:ar→aG→agW (ar×Int))(f:ar→X ar):∀(l:agU ar)(k:Nat)(acc:agU ar),(∀y∈l,rec y D=some (fX fq (f y)))→acc.length+l.length<1000000→
 wY N e rec D l k acc=match cN f l with| .error e=>some (fq,e.code)| .ok r=>some (⟨e.aQ,e.aq,e.dm,e.aC,e.aL,e.xIdx,acc++r⟩,0)
 |[],k,acc,_,_=>by rw[wY,cN];dsimp only;rw[agr]
 |y::l,k,acc,hy,hb=>by
  simp only[af8]at hb;rw[wY,hy y agb,af4,cN];cases f y with
  |error e=>show(bif e.code !=0 then _ else _)=_;rw[e.ne];rfl
  |ok v=>
   show(bif Nat.ble ((acc.length+1)*160) 140737488355328 then _ else none)=_;rw[eu (by omega)];refine Eq.trans (Px e rec f l (k+1) (acc++[v]) (fun z hz=>hy z (age _ hz)) (by simp only[af6,af8,agi];omega)) ?_;cases cN f l with
   |error e=>rfl
   |ok r=>dsimp only;rw[agn];rfl
theorem S8(hN:1000000<N)(hd:ou D.aS)(hD:jD D.bq)(hs:SizeOf.sizeOf D.bq<N):∀(d:Nat)(e:ar),SizeOf.sizeOf e<d→Rp D e→vH N d e D=some (fX fq (fI D d e))
 |0,e,h,_=>absurd h (agy _)
 |d+1,e,h,R=>by
  rw[vH,fI];have h1:=(R.ok e agb).2.2.2;have ih:=Px (N:=N) (D:=D) e (vH N d) (fI D d) e.a7 0 [] (fun y hy=>S8 hN hd hD hs d y (by have:=kV hy;omega) (R.arg hy)) (by simp only[agi];omega);have e0:wY N e (vH N d) D e.a7 0 []=some (fX fq (match cN (fI D d) e.a7 with| .error x=> .error x| .ok a=> .ok ⟨e.aQ,e.aq,e.dm,e.aC,e.aL,e.xIdx,a⟩)):=by
    rw[ih];cases cN (fI D d) e.a7<;>rfl
  cases h3:e.aQ==3 with
  |false=>exact e0
  |true=>
   cases hn:bL e.aq==bL D.aq with
   |false=>exact e0
   |true=>
    have S:=R.sub hd h3 hn;show Option.bind (KJ N ⟨D.aS,e.xIdx⟩ D.bq) _=_;unfold KJ;rw[Rq hN S N D.bq hs hD,Hk _ N (SizeOf.sizeOf D.bq+1) D.bq hs (agS _)];rfl
theorem RJ:∀(d d':Nat)(e:ar),SizeOf.sizeOf e<d→SizeOf.sizeOf e<d'→fI D d e=fI D d' e
 |0,_,_,h,_=>absurd h (agy _)
 |_,0,_,_,h=>absurd h (agy _)
 |d+1,d'+1,e,h,h'=>by
  rw[fI,fI,KS e.a7 fun x hx=>RJ d d' x (by have:=kV hx;omega) (by have:=kV hx;omega)]
end
theorem Qh(F:agV→aw)(J:∀s,(F s).xL.length≤300):∀(l:agU aF)(out r:aw),mW F l out= .ok r→r.xL.length≤out.xL.length+l.length*300
 |[],out,r,h=>by cases h;omega
 |m::l,out,r,h=>by
  rw[mW]at h;cases hs:kO (F m.aq) m.cZ with
  |error e=>rw[hs]at h;cases h
  |ok g=>
   rw[hs]at h;dsimp only at h;cases ha:ib out g with
   |error e=>rw[ha]at h;cases h
   |ok k=>
    rw[ha]at h;have h1:=Bm hs;have h2:=Ia ha;have h3:=Qh F J l k r h;have h4:=J m.aq;simp only[af8];omega
theorem pK{α β:Type}{f:α→X β}:∀(l:agU α)(r:agU β),cN f l= .ok r→r.length=l.length∧∀y∈r,∃x∈l,f x= .ok y
 |[],r,h=>by cases h;exact⟨rfl,fun _ h=>by cases h⟩
 |x::l,r,h=>by
  rw[cN]at h;cases hx:f x with
  |error e=>rw[hx]at h;cases h
  |ok y=>
   rw[hx]at h;dsimp only at h;cases hl:cN f l with
   |error e=>rw[hl]at h;cases h
   |ok r'=>
    rw[hl]at h;cases h
    obtain⟨h1,h2⟩:=pK l r' hl;refine⟨by rw[af8,af8,h1],fun z hz=> ?_⟩;rcases agA.1 hz with rfl|hz
    ·exact⟨x,agb,hx⟩
    ·obtain⟨w,hw,e⟩:=h2 z hz;exact⟨w,age _ hw,e⟩
theorem Ky{F:agV→aw}(J:∀s,(F s).xL.length≤300){l r:aw}(ok:qx l)(h:gM F l= .ok r):gr 1000000 r:=by
 have h1:=Qh F J l.xL ⟨l.xK,[]⟩ r h;have h2:=ok.2;unfold gr;simp only[agi]at h1;omega
theorem Rz{F:agV→aw}(J:∀s,(F s).xL.length≤300):∀(d:Nat)(e r:ar),jD e→iP F d e= .ok r→lM r
 |0,e,r,_,h=>by cases h
 |d+1,e,r,ok,h=>by
  have h1:=ok e agb;rw[iP]at h;cases e1:gM F e.aL with
  |error x=>rw[e1]at h;cases h
  |ok l=>
   rw[e1]at h;dsimp only at h;cases e2:cN (gY F) e.xIdx with
   |error x=>rw[e2]at h;cases h
   |ok i=>
    rw[e2]at h;dsimp only at h;cases e3:cN (iP F d) e.a7 with
    |error x=>rw[e3]at h;cases h
    |ok a=>
     rw[e3]at h;cases h
     obtain⟨l1,m1⟩:=pK _ _ e2;obtain⟨l2,m2⟩:=pK _ _ e3;intro y hy;rcases agA.1 hy with rfl|hy
     ·refine⟨Ky J h1.1 e1,by have:=h1.2.1;show i.length≤_;omega,fun z hz=> ?_,by have:=h1.2.2.2;show a.length≤_;omega⟩;obtain⟨x,hx,hz⟩:=m1 z hz;have JS:=h1.2.2.1 x hx;unfold gY at hz;cases f1:gM F x.aL with
      |error q=>rw[f1]at hz;cases hz
      |ok l'=>
       rw[f1]at hz;dsimp only at hz;cases f2:cN (gM F) x.bj with
       |error q=>rw[f2]at hz;cases hz
       |ok a'=>
        rw[f2]at hz;cases hz
        obtain⟨l3,m3⟩:=pK _ _ f2;refine⟨Ky J JS.1 f1,by have:=JS.2.1;show a'.length≤_;omega,fun w hw=> ?_⟩;obtain⟨v,hv,hw⟩:=m3 w hw;exact Ky J (JS.2.2 v hv) hw
     ·obtain⟨z,hz,hy⟩:=um hy;obtain⟨x,hx,hz⟩:=m2 z hz;exact Rz J d x z (ok.arg hx) hz y hy
theorem X9{e:ar}(h:M1 e):OA e:=
 ⟨ago h.1.2 (by decide),ago h.2.1 (by decide),fun x hx=>⟨ago (h.2.2.1 x hx).1.2 (by decide),ago (h.2.2.1 x hx).2.1 (by decide),fun l hl=>ago ((h.2.2.1 x hx).2.2 l hl).2 (by decide)⟩,ago h.2.2.2 (by decide)⟩
theorem NF{D:aG}(hD:jD D.bq):∀(d:Nat)(e r:ar),jD e→fI D d e= .ok r→lM r
 |0,e,r,_,h=>by cases h
 |d+1,e,r,ok,h=>by
  have h1:=ok e agb;rw[fI]at h;cases h3:e.aQ==3&&bL e.aq==bL D.aq with
  |true=>
   rw[h3,cond_true]at h;exact Rz (fun s=>Fm _ _ s fun x hx=>((h1.2.2.1 x hx).1).2) _ _ _ hD h
  |false=>
   rw[h3,cond_false]at h;cases e3:cN (fI D d) e.a7 with
   |error x=>rw[e3]at h;cases h
   |ok a=>
    rw[e3]at h;cases h
    obtain⟨l2,m2⟩:=pK _ _ e3;have hb:=X9 h1;intro y hy;rcases agA.1 hy with rfl|hy
    ·exact⟨hb.iQ,hb.idx,hb.each,by have:=h1.2.2.2;show a.length≤_;omega⟩
    ·obtain⟨z,hz,hy⟩:=um hy;obtain⟨x,hx,hz⟩:=m2 z hz;exact NF hD d x z (ok.arg hx) hz y hy
noncomputable def gu(D x:aG):X aG:=match fI D (SizeOf.sizeOf x.bq+1) x.bq with
 | .error e=> .error e
 | .ok b=> .ok ⟨x.aq,x.aC,x.aS,x.bI,x.cG,b⟩
structure Gx(N:Nat)(D x:aG):Prop where
 rp:Rp D x.bq
 size:SizeOf.sizeOf x.bq<N
section
variable {N:Nat} {D:aG}
theorem Ri(hN:1000000<N)(hd:ou D.aS)(hD:jD D.bq)(hs:SizeOf.sizeOf D.bq<N){x:aG}(h:Gx N D x):
 EJ N x.bq D=some (fX fq (fI D (SizeOf.sizeOf x.bq+1) x.bq))∧JN N x.bq D=some (fX fq (fI D (SizeOf.sizeOf x.bq+1) x.bq)):=by
 unfold EJ JN;rw[UH hN hd hD hs N x.bq h.size h.rp,S8 hN hd hD hs N x.bq h.size h.rp,RJ N (SizeOf.sizeOf x.bq+1) x.bq h.size (agS _)];exact⟨rfl,rfl⟩
theorem Sw(hN:1000000<N)(hd:ou D.aS)(hD:jD D.bq)(hs:SizeOf.sizeOf D.bq<N)(S:agU agV)(W:agU cv)(P:agU bN)(O:agU agV)(D0:agU aG)(s:agV)(at_:Int)(n:Nat)(hn:n≤1000):
 ∀(l:agU aG)(i:Nat)(R:agU aG)(f:Nat),R.length=i→l.length<f→i+l.length=n→(∀x∈l,Gx N D x)→
  l9 N (S,W,P,n,O,D0) D s at_ f (i:Int) (R++l)=match cN (gu D) l with| .error e=>some (pw,e.code)| .ok r=>l9 N (S,W,P,n,O,D0) D s at_ 1 (n:Int) (R++r)
 |l,i,R,0,_,h,_,_=>absurd h (agy _)
 |[],i,R,f+1,hR,hf,hi,_=>by
  have hi:i=n:=by simpa using hi
  subst hi;rw[cN];dsimp only;rw[l9,l9,show decide ((i:Int)<(i:Int))=false from agO (by omega)];rfl
 |x::l,i,R,f+1,hR,hf,hi,hx=>by
  simp only[af8]at hf hi;have I8:=hx x agb;have hlen:(R++x::l).length=n:=by simp only[af6,af8];omega
  have hg:(R++x::l)[i]?=some x:=by rw[←hR];exact CM R x l
  have vT:∀y,(R++x::l).set i y=R++y::l:=fun y=>by rw[←hR];exact La R x y l
  rw[l9];dsimp only;rw[show decide ((i:Int)<(n:Int))=true from agN (by omega),hlen,iY,show decide ((0:Int)≤(i:Int))=true from agN (by omega),agx,hg,cond_true,cond_true,cond_true,af4,
    (Ri hN hd hD hs I8).1,af4,cN]
  cases e1:fI D (SizeOf.sizeOf x.bq+1) x.bq with
  |error e=>
   rw[show gu D x= .error e by unfold gu;rw[e1]];show(bif e.code !=0 then _ else _)=_;rw[e.ne];rfl
  |ok b=>
   rw[show gu D x= .ok ⟨x.aq,x.aC,x.aS,x.bI,x.cG,b⟩ by unfold gu;rw[e1],vT,sW (by omega)];show l9 N _ D s at_ f _ (R++⟨x.aq,x.aC,x.aS,x.bI,x.cG,b⟩::l)=_;have ih:=Sw hN hd hD hs S W P O D0 s at_ n hn l (i+1) (R++[⟨x.aq,x.aC,x.aS,x.bI,x.cG,b⟩]) f (by simp only[af6,af8,agi];omega) (by omega) (by omega) fun y hy=>hx y (age _ hy);rw[agn]at ih;refine Eq.trans ih ?_;cases cN (gu D) l with
   |error e=>rfl
   |ok r=>dsimp only;rw[agn];rfl
def iS(c:Bool)(at_:Nat):Nat→agU aG→agU aG
 |_,[]=>[]
 |k,x::r=>bif !(k==at_)||c then x::iS c at_ (k+1) r else iS c at_ (k+1) r
theorem E0(at_:Nat):∀(k:Nat)(r:agU aG),iS true at_ k r=r
 |_,[]=>rfl
 |k,x::r=>by rw[iS,Bool.or_true,cond_true,E0 at_ (k+1) r]
theorem S1(at_:Nat):∀(k:Nat)(r:agU aG),at_<k→iS false at_ k r=r
 |_,[],_=>rfl
 |k,x::r,h=>by
  rw[iS,show(k==at_)=false from beq_eq_false_iff_ne.2 (by omega),S1 at_ (k+1) r (by omega)];rfl
theorem HU(at_:Nat):∀(k:Nat)(r:agU aG),k≤at_→iS false at_ k r=r.take (at_-k)++r.drop (at_-k+1)
 |_,[],_=>by rw[iS,List.take_nil,List.drop_nil];rfl
 |k,x::r,h=>by
  rw[iS];by_cases hk:k=at_
  ·subst hk;rw[show(k==k)=true from agP k,S1 k (k+1) r (by omega),Nat.sub_self];rfl
  ·rw[show(k==at_)=false from beq_eq_false_iff_ne.2 hk,HU at_ (k+1) r (by omega),show at_-k=(at_-(k+1))+1 by omega];rfl
theorem NI(hN:1000000<N)(hd:ou D.aS)(hD:jD D.bq)(hs:SizeOf.sizeOf D.bq<N)(p:aY)(s:agV)(at_:Nat)(Nr:p.ay[at_]?=some D):
 ∀(l:agU aG)(k:Nat)(acc:agU aG),(∀x∈l,Gx N D x)→acc.length+l.length≤1000→
  mP N p (at_:Int) s l k acc=match cN (gu D) l with| .error e=>some (pw,e.code)| .ok r=>mP N p (at_:Int) s [] 0 (acc++iS (cC p.cu s) at_ k r)
 |[],k,acc,_,_=>by rw[cN];dsimp only;rw[iS,agr,mP,mP]
 |x::l,k,acc,hx,hb=>by
  simp only[af8]at hb;have I8:=hx x agb;have ih:=fun acc hb=>NI hN hd hD hs p s at_ Nr l (k+1) acc (fun y hy=>hx y (age _ hy)) hb
  conv=>lhs;rw[mP]
  rw[show decide ((0:Int)≤(at_:Int))=true from agN (by omega),agx,Nr,cond_true,af4,(Ri hN hd hD hs I8).2,af4,ug,af4,cN];cases e1:fI D (SizeOf.sizeOf x.bq+1) x.bq with
  |error e=>
   rw[show gu D x= .error e by unfold gu;rw[e1]];show(bif e.code !=0 then _ else _)=_;rw[e.ne];rfl
  |ok b=>
   rw[show gu D x= .ok ⟨x.aq,x.aC,x.aS,x.bI,x.cG,b⟩ by unfold gu;rw[e1]];rw[show(bif ((k:Int) !=(at_:Int))then some true else some (cC p.cu s))=some (!(k==at_)||cC p.cu s) by rw[Ly];cases k==at_<;>rfl,af4,eu (by omega)];show(bif _ then mP N p (at_:Int) s l (k+1) (acc++[⟨x.aq,x.aC,x.aS,x.bI,x.cG,b⟩])else mP N p (at_:Int) s l (k+1) acc)=_;rw[ih acc (by omega),ih _ (by simp only[af6,af8,agi];omega)];cases hm:cN (gu D) l with
   |error e=>cases !(k==at_)||cC p.cu s<;>rfl
   |ok r=>
    dsimp only;rw[iS];cases !(k==at_)||cC p.cu s with
    |true=>rw[cond_true,cond_true,agn];rfl
    |false=>rfl
end
theorem UY(S:agU agV):∀(l:agU bf)(O:agU agV),mI S O l=0→ou l∧∀a∈l,cC O a.aq=false
 |[],_,_=>⟨List.Pairwise.nil,fun _ h=>by cases h⟩
 |a::l,O,h=>by
  rw[mI]at h;cases e1:iv (S++O) a.aq !=0 with
  |true=>rw[e1,cond_true]at h;rw[h]at e1;cases e1
  |false=>
   rw[e1,cond_false]at h;cases e2:gX S a.ep !=0 with
   |true=>rw[e2,cond_true]at h;rw[h]at e2;cases e2
   |false=>
    rw[e2,cond_false]at h;obtain⟨h1,h2⟩:=UY S l _ h;have h3:=(Eg (gN e1)).2;rw[iO,agT]at h3;refine⟨List.pairwise_cons.2 ⟨fun b hb=> ?_,h1⟩,fun b hb=> ?_⟩
    ·have:=h2 b hb;rw[iO,agT,xX]at this;rw[←this.2];exact Bool.eq_iff_iff.2 (by rw[beq_iff_eq,beq_iff_eq];exact eq_comm)
    ·rcases agA.1 hb with rfl|hb
     ·exact h3.2
     ·have:=h2 b hb;rw[iO,agT]at this;exact this.1
theorem aek{A B:agU bf}(h:ou (A++B)):ou A:=(List.pairwise_append.1 h).1
theorem afC{l:agU bN}{s:agV}(h:cC (l.map (·.aq)) s=false):l.find? (fun x=>bL x.aq==bL s)=none:=by
 rw[F5]at h;cases e:l.find? fun x=>bL x.aq==bL s with
 |none=>rfl
 |some x=>rw[e]at h;cases h
theorem Vs{p:aY}{s:agV}{i j:Nat}{D x:aG}(hj:p.ay.findIdx? (eH s)=some j)(hD:p.ay[j]?=some D)(hi:eH s D=true)(gD:og p j D)(gx:og p i x):
 ∀y∈dd x.bq,y.aQ=3→(bL y.aq==bL D.aq)=true→y.xIdx.length=D.aS.length:=by
 intro y hy h3 hn;have hr:=gx.reads y hy h3;unfold mE at hr;have KV:p.bk.find? (fun x=>bL x.aq==bL y.aq)=none:=by
  have:=gD.par;rw[Bg (s:=y.aq) (by rw[beq_iff_eq]at hn ⊢;exact hn)]at this;exact afC this
 have ga:eH y.aq=eH s:=by
  funext d
  unfold eH at hi ⊢;rw[beq_iff_eq.1 hn,beq_iff_eq.1 hi]
 have U8:eE p.bk (p.ay.take i) y.aq=(match (p.ay.take i).find? (eH s)with|some d=>(d.aC,d.aS.map (·.ep),true)|none=>(fb,[],false)):=by
  unfold eE;rw[KV,ga]
  try rfl
 rw[U8]at hr;cases hf:(p.ay.take i).find? (eH s)with
 |none=>rw[hf]at hr;cases hr
 |some d=>
  rw[hf]at hr;have hd:d=D:=by
    have h1:p.ay.find? (eH s)=some d:=by
     have:=agJ i p.ay;rw[←this,List.find?_append,hf];rfl
    rcases wq (eH s) p.ay with⟨h2,_⟩|⟨k,e,h2,h3,h4,_⟩
    ·rw[hj]at h2;cases h2
    ·rw[hj]at h2;cases h2;rw[hD]at h3;cases h3;rw[h1]at h4;cases h4;rfl
  subst hd;dsimp only at hr;rw[cond_true,aga]at hr;cases he:y.xIdx.length==d.aS.length with
  |true=>exact beq_iff_eq.1 he
  |false=>rw[he]at hr;cases hr
theorem Rc(N:Nat)(s:agV)(D:agU aG)(hl:D.length<1000000):∀(n i:Nat),i≤D.length→D.length-i<n→uC N D.length D s n (i:Int)=some (jY (D.drop i) s i)
 |0,i,_,h=>absurd h (agy _)
 |n+1,i,hi,h=>by
  rw[uC];by_cases hk:i<D.length
  ·rw[show decide ((i:Int)<(D.length:Int))=true from agN (by omega),show decide ((0:Int)≤(i:Int))=true from agN (by omega),cond_true,cond_true,agx,af9 hk,af4,List.drop_eq_getElem_cons hk,yF,sW (by omega)];dsimp only;rw[Rc N s D hl n (i+1) (by omega) (by omega),show vU N D[i] s=some (eH s D[i])from rfl,af4];cases eH s D[i]<;>rfl
  ·rw[show decide ((i:Int)<(D.length:Int))=false from agO (by omega),List.drop_eq_nil_of_le (by omega)];rfl
theorem aaX(N:Nat)(hN:1000000<N)(S:agU agV)(W:agU cv)(P:agU bN)(O:agU agV)(s:agV)(D:agU aG)(hl:D.length<1000000):BM N S W P D.length O s D=some (jY D s 0):=by
 unfold BM FJ;have:=Rc N s D hl N 0 (Nat.zero_le _) (by omega);rw[agF]at this;rw[iY,cond_true];rw[show((0:Nat):Int)=0 from rfl]at this;rw[this];rfl
noncomputable def lz(p:aY)(s:agV):agU aG:=match p.ay.find? (eH s)with
 |none=>[]
 |some D=>match cN (gu D) p.ay with
  | .error _=>[]
  | .ok r=>r
theorem P9:∀(K V:agU (agU UInt8)),K.Pairwise (fun a b=>a≠b)→(∀x∈K,x∈V)→K.length≤V.length
 |[],_,_,_=>Nat.zero_le _
 |x::K,V,h,hV=>by
  obtain⟨h1,h2⟩:=List.pairwise_cons.1 h;have hx:=hV x agb;have:=P9 K (V.erase x) h2 fun y hy=>(List.mem_erase_of_ne (Ne.symm (h1 y hy))).2 (hV y (age _ hy));rw[List.length_erase_of_mem hx]at this;have:=List.length_pos_of_mem hx;simp only[af8];omega
theorem Z9:∀{a b c:agU UInt8},Op.bytesLess a b=true→Op.bytesLess b c=true→Op.bytesLess a c=true:=by
 intro a b c h1 h2;rw[CK,decide_eq_true_eq]at*;exact List.lt_trans h1 h2
theorem Sz:∀(l:agU aF)(p:agW agV),m9 p l=true→(∀q,p=some q→∀m∈l,Op.bytesLess (bL q) (bL m.aq)=true)∧(l.map fun m=>bL m.aq).Pairwise (fun a b=>a≠b)
 |[],_,_=>⟨(fun _ _ _ h=>by cases h),List.Pairwise.nil⟩
 |m::l,p,h=>by
  rw[zK,af7,af7,af7]at h;obtain⟨g1,g2⟩:=Sz l (some m.aq) h.2.2.2;have g3:=g1 m.aq rfl;refine⟨fun q hq x hx=> ?_,?_⟩
  ·subst hq;have h1:Op.bytesLess (bL q) (bL m.aq)=true:=h.2.2.1;rcases agA.1 hx with rfl|hx
   ·exact h1
   ·exact Z9 h1 (g3 x hx)
  ·rw[agv];refine List.pairwise_cons.2 ⟨fun b hb e=> ?_,g2⟩;obtain⟨x,hx,rfl⟩:=List.mem_map.1 hb;have:=g3 x hx;rw[e,CK,decide_eq_true_eq]at this;exact absurd this (List.lt_irrefl _)
theorem Kc{V:agU agV}{l:aw}(h:eg l=true)(hk:kS V l=0):l.xL.length≤V.length:=by
 unfold kS at hk;have iX:qo V l=true:=by
  cases e:qo V l with
  |true=>rfl
  |false=>rw[e]at hk;cases hk
 have:=P9 (l.xL.map fun m=>bL m.aq) (V.map bL) (Sz l.xL none h).2 fun x hx=>by
  obtain⟨m,hm,rfl⟩:=List.mem_map.1 hx;have:=agw.1 iX m hm;obtain⟨w,hw,e⟩:=List.any_eq_true.1 this;exact List.mem_map.2 ⟨w,hw,beq_iff_eq.1 e⟩
 rw[aga,aga]at this;exact this
theorem K5{α:Type}{f:α→Int}:∀{l:agU α},fA f l=0→∀x∈l,f x=0
 |[],_,_,h=>by cases h
 |y::l,h,x,hx=>by
  rw[fA]at h;cases e:f y !=0 with
  |true=>rw[e,cond_true]at h;rw[h]at e;cases e
  |false=>
   rw[e,cond_false]at h;rcases agA.1 hx with rfl|hx
   ·exact gN e
   ·exact K5 h x hx
theorem Tj:∀(l:agU aF)(p:agW agV),m9 p l=true→∀m∈l,fF m.aq=true
 |[],_,_,_,h=>by cases h
 |x::l,p,h,m,hm=>by
  rw[zK,af7,af7,af7]at h;rcases agA.1 hm with rfl|hm
  ·exact h.1
  ·exact Tj l _ h.2.2.2 m hm
theorem TQ{l:aw}(h:pJ l=true):l.xL.length≤300:=by
 unfold pJ at h;rw[af7,beq_iff_eq,beq_iff_eq]at h;omega
theorem YR{V:agU agV}{P:agU bN}{D:agU aG}{y:ar}(hr:mE V P D y=0):∀x∈y.xIdx,nQ V P D x=0:=by
 unfold mE at hr;cases h1:(eE P D y.aq).2.2 with
 |false=>rw[h1]at hr;cases hr
 |true=>
  rw[h1,cond_true]at hr;cases h2:y.xIdx.length==(eE P D y.aq).2.1.length with
  |false=>rw[h2]at hr;cases hr
  |true=>rw[h2,cond_true]at hr;exact K5 hr
theorem acK{V:agU agV}{P:agU bN}{D:agU aG}{x:az}(hr:nQ V P D x=0)(hb:lU x=true)(hV:V.length≤300)(hf:∀l∈mV x,eg l=true):∀l∈mV x,l.xL.length≤300:=by
 unfold nQ at hr;unfold lU at hb;unfold mV at hf ⊢;intro l hl;cases h1:bL x.aV==[]with
 |true=>
  rw[h1,cond_true]at hr hb;have h0:x.bj=[]:=List.eq_nil_of_length_eq_zero (beq_iff_eq.1 hb);rw[h0]at hl;rcases agA.1 hl with rfl|hl
  ·exact ago (Kc (hf _ agb) hr) hV
  ·cases hl
 |false=>
  rw[h1,cond_false]at hr hb;cases h2:(eE P D x.aV).2.2 with
  |false=>rw[h2]at hr;cases hr
  |true=>
   rw[h2,cond_true]at hr;cases h3:(eE P D x.aV).1.bW !=3 with
   |true=>rw[h3]at hr;cases hr
   |false=>
    rw[h3,cond_false]at hr;cases h4:x.bj.length==(eE P D x.aV).2.1.length with
    |false=>rw[h4]at hr;cases hr
    |true=>
     rw[h4,cond_true]at hr;rcases agA.1 hl with rfl|hl
     ·exact TQ hb
     ·exact ago (Kc (hf l (age _ hl)) (K5 hr l hl)) hV
theorem og.jD{p:aY}{k:Nat}{d:aG}(g:og p k d)(hS:p.bu.length≤64):jD d.bq:=fun y hy=>by
 obtain⟨hp,_,hr,_,hf⟩:=Dq (FG g.body y hy);unfold sE at hf;unfold lO at hr;unfold ma at hp;rw[af7,agw]at hf;simp only[af7,beq_iff_eq,decide_eq_true_eq,agw,Bool.or_eq_true]at hr hp;obtain⟨oW,Cy,Ln⟩:=hr;obtain⟨_,_,_,_,hp2,Xe,Vn⟩:=hp;have hV:(G7 d++p.bu).length≤300:=by
  have:=g.len;unfold G7;rw[af6,aga,af6];omega
 have ha:y.a7.length≤300:=by
  have:mu y.aQ≤3:=by
   unfold mu;cases (y.aQ==1||(y.aQ==2||y.aQ==3))<;>cases (y.aQ==8||(y.aQ==12||y.aQ==18))<;>cases y.aQ==11<;>decide
  omega
 have mk:∀l∈jU y,l.xL.length≤300→qx l:=fun l hl h=>⟨Tj l.xL none (hf.2 l hl),h⟩;have Qd:y.aL∈jU y:=by unfold jU;exact agb
 have Jh:∀x∈y.xIdx,∀l∈mV x,l∈jU y:=fun x hx l hl=>by
  unfold jU;exact age _ (List.mem_flatMap.2 ⟨x,hx,hl⟩)
 have Vv:y.aL.xL.length≤300:=by
  rcases hp2 with h|h
  ·exact ago (Kc (hf.2 _ Qd) (g.rE y hy h)) hV
  ·exact TQ h
 refine⟨mk _ Qd Vv,by omega,fun x hx=> ?_,ha⟩;have h3:y.aQ=3:=by
  rcases Xe with h|⟨_,h⟩
  ·exact h
  ·rw[List.eq_nil_of_length_eq_zero h]at hx;cases hx
 have jJ:=acK (YR (g.reads y hy h3) x hx) (Vn x hx) hV fun l hl=>hf.2 l (Jh x hx l hl);exact⟨mk _ (Jh x hx _ agb) (jJ _ agb),ago (Ln x hx) (by decide),fun l hl=>mk l (Jh x hx l (age _ hl)) (jJ l (age _ hl))⟩
theorem Kd{D:aG}:∀(l r:agU aG),cN (gu D) l= .ok r→r.map (·.aq)=l.map (·.aq)
 |[],r,h=>by cases h;rfl
 |x::l,r,h=>by
  rw[cN]at h;cases hx:gu D x with
  |error e=>rw[hx]at h;cases h
  |ok y=>
   rw[hx]at h;cases hl:cN (gu D) l with
   |error e=>rw[hl]at h;cases h
   |ok r'=>
    rw[hl]at h;cases h;unfold gu at hx;cases hb:fI D (SizeOf.sizeOf x.bq+1) x.bq with
    |error e=>rw[hb]at hx;cases hx
    |ok b=>
     rw[hb]at hx;cases hx;rw[agv,agv,Kd l r' hl]
noncomputable def DE(p:aY)(s:agV):aY:=
 ⟨p.bu,p.cM,p.bk,match p.ay.findIdx? (eH s)with|none=>[]|some j=>iS (cC p.cu s) j 0 (lz p s),p.cu⟩
theorem ad8{N:Nat}{p:aY}(hN:2147483648<N)(B:Bc N p)(s:agV)(hS:p.bu.length≤64)(lq:∀d∈lz p s,2*SizeOf.sizeOf d.bq+2<N):
 ∃r x,p6 N p s=some (r,x)∧Sc N p s=some (r,x)∧(∀d∈r.ay,2*SizeOf.sizeOf d.bq+2<N)∧(x=0→r=DE p s∧(lz p s).map (·.aq)=p.ay.map (·.aq)∧Bc N r∧∀i d,r.ay[i]?=some d→og r i d)∧(x≠0→r.ay=[]):=by
 have jw:=B.b.d;obtain⟨z,e1,e2,e3⟩:=Nu hN B.b s;unfold p6 Sc;rw[e1,e2,af4,af4];cases hz:z !=0 with
 |true=>exact⟨_,_,rfl,rfl,(fun _ h=>by cases h),(fun h=>by rw[h]at hz;cases hz),fun _=>rfl⟩
 |false=>
  obtain⟨zj,j,D,hj,hD,hi⟩:=e3 (gN hz);have gD:=zj j D hD;have oX:j<p.ay.length:=by
   by_cases h:j<p.ay.length
   ·exact h
   ·rw[agC (by omega)]at hD;cases hD
  have hDm:=tO hD;have jZ:=gD.jD hS;have hs:=(B.E D hDm).2;have hd:ou D.aS:=aek (UY _ _ _ gD.abC).1;have rp:∀x∈p.ay,Gx N D x:=fun x hx=>by
   obtain⟨i,hX,dw⟩:=List.mem_iff_getElem.1 hx;have gx:=zj i x (by rw[af9 hX,dw]);exact⟨⟨gx.jD hS,Vs hj hD hi gD gx⟩,(B.E x hx).2⟩
  have A1:jY p.ay s 0=(j:Int):=by unfold jY;rw[hj];dsimp only;rw[agq]
  simp only[cond_false];rw[LO B,Re,af4,af4];dsimp only;rw[aaX N (by omega) _ _ _ _ s p.ay (by omega),af4,A1,iY,show decide ((0:Int)≤(j:Int))=true from agN (by omega),show decide ((j:Int)<(p.ay.length:Int))=true from agN (by omega),agx,hD];simp only[cond_true,af4];have l1:=Sw (N:=N) (by omega) hd jZ hs p.bu p.cM p.bk p.cu p.ay s (j:Int) p.ay.length (by omega) p.ay 0 [] N rfl (by omega) (by omega) rp;have l2:=NI (N:=N) (by omega) hd jZ hs p s j hD p.ay 0 [] rp (by simp only[agi];omega);rw[List.nil_append]at l1;rw[show((0:Nat):Int)=0 from rfl]at l1;rw[l1,l2];cases hm:cN (gu D) p.ay with
  |error e=>exact⟨_,_,rfl,rfl,(fun _ h=>by cases h),(fun h=>by cases e<;>cases h),fun _=>rfl⟩
  |ok r=>
   dsimp only;obtain⟨hlen,hmem⟩:=pK _ _ hm;have SR:lz p s=r:=by
    unfold lz;rcases wq (eH s) p.ay with⟨h2,_⟩|⟨k,e,h2,h3,h4,_⟩
    ·rw[hj]at h2;cases h2
    ·rw[hj]at h2;cases h2;rw[hD]at h3;cases h3;rw[h4];dsimp only;rw[hm]
   have Et:=SR;rw[SR]at lq;have parts:∀d∈r,∃x∈p.ay,d.aS=x.aS∧d.bI=x.bI∧lM d.bq:=fun d eh=>by
    obtain⟨x,hx,e⟩:=hmem d eh;unfold gu at e;cases e4:fI D (SizeOf.sizeOf x.bq+1) x.bq with
    |error q=>rw[e4]at e;cases e
    |ok b=>
     rw[e4]at e;cases e
     exact⟨x,hx,rfl,rfl,NF jZ _ _ _ (rp x hx).rp.ok e4⟩
   have bc:∀K:agU aG,(∀x∈K,x∈r)→K.length≤r.length→Bc N ⟨p.bu,p.cM,p.bk,K,p.cu⟩:=fun K hK hKl=>by
    refine⟨⟨B.b.s,B.b.w,B.b.q,by show K.length≤_;omega,B.b.o,B.b.P,⟨fun d eh=> ?_,fun d eh=> ?_⟩,B.b.W,fun d eh=> ?_⟩,fun d eh=> ?_⟩
    ·obtain⟨x,hx,h1,h2,_⟩:=parts d (hK d eh);rw[h1,h2];exact B.b.D.len x hx
    ·obtain⟨x,hx,h1,h2,_⟩:=parts d (hK d eh);rw[h1,h2];exact B.b.D.j8 x hx
    ·obtain⟨x,hx,_,_,h3⟩:=parts d (hK d eh);exact⟨h3.ok,by have:=lq d (hK d eh);omega⟩
    ·obtain⟨x,hx,_,_,h3⟩:=parts d (hK d eh);exact⟨h3,by have:=lq d (hK d eh);omega⟩
   rw[l9,mP];dsimp only;rw[show decide ((p.ay.length:Int)<(p.ay.length:Int))=false from agO (by omega),cond_false,Ui,af4,List.nil_append,List.nil_append,hlen,iY];cases hh:cC p.cu s with
   |true=>
    rw[E0];have b1:=bc r (fun _ h=>h) (agh _);obtain⟨a,x,v1,v2,v3⟩:=Km hN b1.b;rw[v1,v2];simp only[cond_true,af4];cases hx:x !=0 with
    |true=>exact⟨_,_,rfl,rfl,(fun _ h=>by cases h),(fun h=>by rw[h]at hx;cases hx),fun _=>rfl⟩
    |false=>
     simp only[cond_false];rw[LO b1,af4];dsimp only;rw[iY];exact⟨_,_,rfl,rfl,lq,(fun _=>⟨by unfold DE;rw[hj,Et,hh];dsimp only;rw[E0],Et.symm▸Kd _ _ hm,b1,v3 (gN hx)⟩),fun h=>absurd rfl h⟩
   |false=>
    rw[HU j 0 r (Nat.zero_le _),Nat.sub_zero];have PA:(r.take j++r.drop (j+1)).length+1=r.length:=by
      rw[af6,List.length_take,List.length_drop];omega
    have hk:∀x∈r.take j++r.drop (j+1),x∈r:=fun x hx=>by
     rcases agI.1 hx with h|h
     ·exact List.mem_of_mem_take h
     ·exact List.mem_of_mem_drop h
    have b1:=bc _ hk (by omega);obtain⟨a,x,v1,v2,v3⟩:=Km hN b1.b;have V2:Dx N r (j:Int) p.ay.length=some (r.take j++r.drop (j+1)):=by
     unfold Dx;rw[hlen,iY,show decide ((0:Int)≤(j:Int))=true from agN (by omega),agx,show Nat.blt j p.ay.length=true from Nat.ble_eq_true_of_le oX,show Nat.blt p.ay.length 9223372036854775807=true from Nat.ble_eq_true_of_le (by omega)];rfl
    rw[V2,v2];simp only[cond_false,af4];rw[show(r.take j++r.drop (j+1)).length+1=p.ay.length by omega,iY,show(r.take j++r.drop (j+1)).length=p.ay.length-1 by omega,iY,cond_true,cond_true,v1,af4];dsimp only;cases hx:x !=0 with
    |true=>exact⟨_,_,rfl,rfl,(fun _ h=>by cases h),(fun h=>by rw[h]at hx;cases hx),fun _=>rfl⟩
    |false=>
     simp only[cond_false];rw[LO b1,af4];dsimp only;rw[iY];exact⟨_,_,rfl,rfl,(fun d eh=>lq d (hk d eh)),(fun _=>⟨by unfold DE;rw[hj,Et,hh];dsimp only;rw[HU j 0 r (Nat.zero_le _),Nat.sub_zero],Et.symm▸Kd _ _ hm,b1,v3 (gN hx)⟩),fun h=>absurd rfl h⟩
end Go.Proofs.YtphmhnabilhbgaaGreatDoor
