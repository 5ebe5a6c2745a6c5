/-
  Part 13 of the proof: PAll, ValNames, ValNode, ValTree, ValTree2, ValidLaw, InVal1, InVal2, InVal3, InVal4, CnB, CnC, CnD, CnE, CnF, CnG, CnH, CnI, CpE, Wts, CnJ, CnK, OpenT, CnNormAbs.
-/
import Derived.Test.YtmkmibahjanejaaGreatDoorPp12
namespace Go.Proofs.YtmkmibahjanejaaGreatDoor
end Go.Proofs.YtmkmibahjanejaaGreatDoor
namespace Go.Proofs.YtmkmibahjanejaaGreatDoor
open Go.RowKit
theorem zS(b:agL)(i:Nat):b[i]?=(bL b)[i]?:=by
 unfold bL;rw[agj];by_cases h:i<b.size
 ·rw[getElem?_pos b i h,agi (xs:=b.data) (by exact h)];rfl
 ·rw[getElem?_neg b i h,Array.getElem?_eq_none (xs:=b.data) (by exact Nat.le_of_not_lt h)]
theorem pG(b:agL):b.size=(bL b).length:=by unfold bL;rw[agt];rfl
theorem Eb{i:Nat}(h:i<9223372036854775807):aN ((i:Int)+1)=((i+1:Nat):Int):=by
 unfold aN;rw[IntKind.wrap_i64]<;>omega
def kL(c:UInt8):Bool:=decide (97<=c.toNat)&&decide (c.toNat<=122)
def gX(c:UInt8):Bool:=kL c||(decide (48<=c.toNat)&&decide (c.toNat<=57))||c.toNat==95
def p6(l:agK UInt8):Bool:=lz.any λw=>bL w==l
def EX(l:agK UInt8):Bool:=decide (1<=l.length)&&(decide (l.length<=16)&&(!p6 l&&((l.take 1).all kL&&l.all gX)))
def eu(s:agL):Bool:=EX (bL s)
theorem Of(c:UInt8):IntKind.i32.wrap (c.toNat:Int)=(c.toNat:Int):=by
 have:=c.toNat_lt;rw[IntKind.wrap_i32]<;>omega
theorem mq{p q:Prop} [Decidable p] [Decidable q](h:p↔q):decide p=decide q:=decide_eq_decide.2 h
theorem gY(a b:Bool):(bif a then some b else some false)=some (a&&b):=by cases a<;>rfl
theorem lD(a b:Bool):(bif a then some true else some b)=some (a||b):=by cases a<;>rfl
theorem Mc(N:Nat)(c:UInt8):AU N (c.toNat:Int)=some (kL c):=by
 unfold AU kL;rw[gY,afU,mq (q:=97<=c.toNat) (by omega),mq (p:=(c.toNat:Int)<=122) (q:=c.toNat<=122) (by omega)]
theorem ZL(N:Nat)(c:UInt8):Fi N (c.toNat:Int)=some (decide (48<=c.toNat)&&decide (c.toNat<=57)):=by
 unfold Fi;rw[gY,afU,mq (q:=48<=c.toNat) (by omega),mq (p:=(c.toNat:Int)<=57) (q:=c.toNat<=57) (by omega)]
theorem sN(n k:Nat):((n:Int)==(k:Int))=(n==k):=by
 rw[Bool.eq_iff_iff,beq_iff_eq,beq_iff_eq];omega
theorem US(N:Nat)(c:UInt8):Bv N (c.toNat:Int)=some (gX c):=by
 unfold Bv gX;rw[Mc,afU,ZL,afU];have:=sN c.toNat 95;rw[show(((c.toNat:Int)==95))=(c.toNat==95)from this];rw[lD,lD,afU,Bool.or_assoc]
theorem Qi(N:Nat)(s:agL)(hs:s.size<9223372036854775807):∀(k i:Nat),i<=s.size->s.size-i<k->yX N s k (i:Int)=some ((i+(((bL s).drop i).takeWhile gX).length:Nat):Int)
 |0,i,_,hk=>absurd hk (ago _)
 |k+1,i,hi,hk=>by
  rw[yX];by_cases az:i<s.size
  ·have h1:decide ((i:Int)<(s.size:Int))=true:=agD (by omega);have h2:decide ((0:Int)<=(i:Int))=true:=agD (by omega);rw[h1,h2];simp only[cond_true,agn];have hl:i<(bL s).length:=by rw[<-pG];exact az
   rw[zS,afZ hl,List.drop_eq_getElem_cons hl,afU,Of,US,afU,afU];cases hw:gX (bL s)[i]with
   |true=>
    simp only[cond_true];rw[Eb (Nat.lt_trans az hs),Qi N s hs k (i+1) az (by omega),List.takeWhile_cons_of_pos hw,afY]
    congr 2;omega
   |false=>
    simp only[cond_false];rw[List.takeWhile_cons_of_neg (by rw[hw];simp)];rfl
  ·have h1:decide ((i:Int)<(s.size:Int))=false:=agE (by omega);rw[h1];simp only[cond_false,afU];rw[List.drop_eq_nil_of_le (by rw[<-pG];omega)];rfl
theorem U6(N:Nat)(s:agL)(hs:s.size<9223372036854775807)(hN:s.size<N):C5 N s=some ((((bL s).takeWhile gX).length:Nat):Int):=by
 unfold C5;have:=Qi N s hs N 0 (Nat.zero_le _) (by omega);rw[agv,agf]at this;exact this
theorem L9{α:Type}(p:α->Bool):∀l:agK α,((l.takeWhile p).length==l.length)=l.all p
 |[]=>rfl
 |x::l=>by
  cases h:p x with
  |true=>
   rw[List.takeWhile_cons_of_pos h,agG,h,Bool.true_and,<-L9 p l];simp
  |false=>rw[List.takeWhile_cons_of_neg (by rw[h];simp),agG,h];simp
theorem KQ(N:Nat)(v:agL):∀(l:agK agL)(k:Nat),∃z:Int,Fm N v l k=some z/\decide (z>=0)=l.any λw=>bL w==bL v
 |[],k=>⟨-1,rfl,rfl⟩
 |w::l,k=>by
  rw[Fm,agH];have hc:(bL v==bL w)=(bL w==bL v):=by rw[Bool.eq_iff_iff,beq_iff_eq,beq_iff_eq];exact eq_comm
  cases h:bL v==bL w with
  |true=>rw[hc]at h;exact⟨k,rfl,by rw[h,Bool.true_or];exact agD (by omega)⟩
  |false=>
   obtain⟨z,h1,h2⟩:=KQ N v l (k+1);rw[hc]at h;exact⟨z,h1,by rw[h,Bool.false_or];exact h2⟩
theorem VS(N:Nat)(v:agL):Gc N v=some (p6 (bL v)):=by
 unfold Gc Hl vQ Ff;obtain⟨z,h1,h2⟩:=KQ N v lz 0;rw[afU,h1,afU,afU,h2];rfl
theorem Gt{α:Type}{l:agK α}(h:0<l.length):l.take 1=[l[0]]:=by
 cases l with
 |nil=>cases h
 |cons x l=>rfl
theorem po:bL (bs [])=[]:=rfl
theorem Cy(N:Nat)(s:agL)(hN:16<N):tb N s=some (eu s):=by
 unfold tb eu EX;have hz:=pG s;by_cases h0:(bL s).length=0
 ·have:bL s=[]:=List.length_eq_zero_iff.1 h0;rw[this];rfl
 have bQ:(bL s==bL (bs []))=false:=by
  rw[po,beq_eq_false_iff_ne];intro h;rw[h]at h0;exact h0 rfl
 rw[bQ,agD (show 1<=(bL s).length by omega),Bool.true_and];simp only[cond_false];by_cases cf:(bL s).length<=16
 ·rw[agD (show(s.size:Int)<=16 by omega),agD cf,Bool.true_and];simp only[cond_true];have hl:0<(bL s).length:=by omega
  rw[zS,afZ hl,afU,Of,Mc,afU,U6 N s (by omega) (by omega),afU,VS,afU];rw[hz,sN,L9];have ht:(bL s).take 1=[(bL s)[0]]:=Gt hl;rw[ht,agG,List.all_nil,Bool.and_true,gY,gY,afU]
  congr 1
  cases p6 (bL s)<;>cases kL (bL s)[0]<;>cases (bL s).all gX<;>rfl
 ·rw[agE (show ¬(s.size:Int)<=16 by omega),agE cf];rfl
theorem aeL(N:Nat)(b:Bool):fG N b=some b:=by cases b<;>rfl
theorem ac0(a b:Bool):(bif a then some a else some b)=some (a||b):=by cases a<;>rfl
theorem adU(a b:agK UInt8):(a==b)=(b==a):=by rw[Bool.eq_iff_iff,beq_iff_eq,beq_iff_eq];exact eq_comm
theorem T8(N:Nat)(v:agL):Ga N v=some (p6 (bL v)):=by
 simp only[Ga,aeL,ac0,p6,lz,agH,List.any_nil,Bool.or_false,adU (bL v)]
theorem AP(n k:Nat):decide ((n:Int)<(k:Int))= !decide (k<=n):=by
 by_cases h:k<=n
 ·rw[agD h,agE (by omega)];rfl
 ·rw[agE h,agD (by omega)];rfl
theorem iI(n k:Nat):decide ((n:Int)>(k:Int))= !decide (n<=k):=by
 by_cases h:n<=k
 ·rw[agD h,agE (by omega)];rfl
 ·rw[agE h,agD (by omega)];rfl
theorem NK(n k:Nat):decide ((n:Int)>=(k:Int))=decide (k<=n):=mq (by omega)
theorem sk(n k:Nat):decide ((n:Int)<=(k:Int))=decide (n<=k):=mq (by omega)
theorem Tb(n k:Nat):((n:Int) !=(k:Int))= !(n==k):=by unfold bne;rw[sN]
theorem UO(c:UInt8):(bif (decide ((c.toNat:Int)<97))then(bif (decide ((c.toNat:Int)<48))then some ((c.toNat:Int) !=95)else(bif (decide ((c.toNat:Int)>57))then some ((c.toNat:Int) !=95)else some false))else(bif (decide ((c.toNat:Int)>122))then(bif (decide ((c.toNat:Int)<48))then some ((c.toNat:Int) !=95)else(bif (decide ((c.toNat:Int)>57))then some ((c.toNat:Int) !=95)else some false))else some false))=some (!gX c):=by
 have a1:=AP c.toNat 97;have a2:=AP c.toNat 48;have a3:=iI c.toNat 57;have a4:=iI c.toNat 122;have a5:=Tb c.toNat 95;simp only[Int.cast_ofNat_Int]at a1 a2 a3 a4 a5;rw[a1,a2,a3,a4,a5];unfold gX kL;cases decide (97<=c.toNat)<;>cases decide (48<=c.toNat)<;>cases decide (c.toNat<=57)<;>cases decide (c.toNat<=122)<;>cases (c.toNat==95)<;>rfl
theorem Qx(N:Nat)(s:agL)(hs:s.size<9223372036854775807):∀(k i:Nat),i<=s.size->s.size-i<k->vi N s k (i:Int)=some (((bL s).drop i).all gX)
 |0,i,_,hk=>absurd hk (ago _)
 |k+1,i,hi,hk=>by
  rw[vi];by_cases az:i<s.size
  ·have h1:decide ((i:Int)<(s.size:Int))=true:=agD (by omega);have h2:decide ((0:Int)<=(i:Int))=true:=agD (by omega);rw[h1,h2];simp only[cond_true,agn];have hl:i<(bL s).length:=by rw[<-pG];exact az
   rw[zS,afZ hl,List.drop_eq_getElem_cons hl,afU,UO,afU,agG];cases hw:gX (bL s)[i]with
   |true=>
    simp only[Bool.not_true,cond_false,Bool.true_and];rw[Eb (Nat.lt_trans az hs),Qx N s hs k (i+1) az (by omega)]
   |false=>rfl
  ·have h1:decide ((i:Int)<(s.size:Int))=false:=agE (by omega);rw[h1];simp only[cond_false];rw[List.drop_eq_nil_of_le (by rw[<-pG];omega)];rfl
theorem Zo(N:Nat)(s:agL)(hN:16<N):E0 N s=some (eu s):=by
 unfold E0 eu EX;have hz:=pG s;have a1:=AP s.size 1;have a2:=iI s.size 16;simp only[Int.cast_ofNat_Int]at a1 a2;rw[a1,a2,hz];cases h1:decide (1<=(bL s).length)with
 |false=>rfl
 |true=>
  cases cf:decide ((bL s).length<=16)with
  |false=>rfl
  |true=>
   have nI:=of_decide_eq_true h1;have X5:=of_decide_eq_true cf;have hl:0<(bL s).length:=by omega
   simp only[Bool.not_true,cond_false,Bool.true_and];rw[T8,afU,zS,afZ hl,afU];have b1:=AP (bL s)[0].toNat 97;have b2:=iI (bL s)[0].toNat 122;simp only[Int.cast_ofNat_Int]at b1 b2;rw[b1,b2,lD,lD,afU,Gt hl];have:=Qx N s (by omega) N 0 (Nat.zero_le _) (by omega);rw[agv]at this;rw[show vi N s N 0=_ from this,agG,List.all_nil,Bool.and_true];unfold kL;cases p6 (bL s)<;>cases decide (97<=(bL s)[0].toNat)<;>cases decide ((bL s)[0].toNat<=122)<;>rfl
theorem L1(N:Nat)(v:agL):∀(l:agK agL)(k:Nat),E3 N v l k=some (l.any λw=>bL w==bL v)
 |[],_=>rfl
 |w::l,k=>by
  rw[E3,agH,L1 N v l (k+1)];cases bL w==bL v<;>rfl
theorem XJ(c:UInt8)(z:Bool):(bif (decide ((c.toNat:Int)>=97))then(bif (decide ((c.toNat:Int)<=122))then some (!true)else(bif z then(bif (decide ((c.toNat:Int)>=48))then(bif (decide ((c.toNat:Int)<=57))then some (!true)else some (!((c.toNat:Int)==95)))else some (!((c.toNat:Int)==95)))else some (!false)))else(bif z then(bif (decide ((c.toNat:Int)>=48))then(bif (decide ((c.toNat:Int)<=57))then some (!true)else some (!((c.toNat:Int)==95)))else some (!((c.toNat:Int)==95)))else some (!false)))=some (!(bif z then gX c else kL c)):=by
 have a1:=NK c.toNat 97;have a2:=NK c.toNat 48;have a3:=sk c.toNat 57;have a4:=sk c.toNat 122;have a5:=sN c.toNat 95;simp only[Int.cast_ofNat_Int]at a1 a2 a3 a4 a5;rw[a1,a2,a3,a4,a5];unfold gX kL;cases decide (97<=c.toNat)<;>cases decide (48<=c.toNat)<;>cases decide (c.toNat<=57)<;>cases decide (c.toNat<=122)<;>cases (c.toNat==95)<;>cases z<;>rfl
theorem Rz(N:Nat)(s:agL)(hs:s.size<9223372036854775807):∀(k i:Nat),i<=s.size->s.size-i<k->uR N s k (i:Int)=some (bif decide (i>0)then((bL s).drop i).all gX else((bL s).take 1).all kL&&((bL s).drop 1).all gX)
 |0,i,_,hk=>absurd hk (ago _)
 |k+1,i,hi,hk=>by
  rw[uR];by_cases az:i<s.size
  ·have h1:decide ((i:Int)<(s.size:Int))=true:=agD (by omega);have h2:decide ((0:Int)<=(i:Int))=true:=agD (by omega);rw[h1,h2];simp only[cond_true,agn];have hl:i<(bL s).length:=by rw[<-pG];exact az
   rw[zS,afZ hl,afU,XJ,afU];rw[Eb (Nat.lt_trans az hs),Rz N s hs k (i+1) az (by omega),agD (show i+1>0 by omega)];simp only[cond_true];by_cases h0:i=0
   ·subst h0;rw[agE (show ¬((0:Nat):Int)>0 by omega),agE (show ¬0>0 by omega)];simp only[cond_false];rw[Gt hl,agG,List.all_nil,Bool.and_true];cases kL (bL s)[0]<;>rfl
   ·rw[agD (show(i:Int)>0 by omega),agD (show i>0 by omega)];simp only[cond_true];rw[List.drop_eq_getElem_cons hl,agG];cases gX (bL s)[i]<;>rfl
  ·have h1:decide ((i:Int)<(s.size:Int))=false:=agE (by omega);rw[h1];simp only[cond_false];have hn:(bL s).drop i=[]:=List.drop_eq_nil_of_le (by rw[<-pG];omega);by_cases h0:i=0
   ·subst h0;rw[agv]at hn;rw[hn];rfl
   ·rw[agD (show i>0 by omega),hn];rfl
theorem El(N:Nat)(s:agL)(hN:16<N):sx N s=some (eu s):=by
 unfold sx eu EX;have hz:=pG s;have a1:=AP s.size 1;have a2:=iI s.size 16;simp only[Int.cast_ofNat_Int]at a1 a2;rw[a1,a2,hz];cases h1:decide (1<=(bL s).length)with
 |false=>rfl
 |true=>
  cases cf:decide ((bL s).length<=16)with
  |false=>rfl
  |true=>
   have nI:=of_decide_eq_true h1;have X5:=of_decide_eq_true cf;have hl:0<(bL s).length:=by omega
   simp only[Bool.not_true,cond_false,Bool.true_and];have hh:∀l,qj N l s=some (l.any λw=>bL w==bL s):=λl=>L1 N s l 0;unfold I1;rw[afU,hh,afU,afU];have:=Rz N s (by omega) N 0 (Nat.zero_le _) (by omega);rw[show uR N s N 0=_ from this];show(bif p6 (bL s)then some false else some (((bL s).take 1).all kL&&((bL s).drop 1).all gX))=_;have hw:(bL s).all gX=(gX (bL s)[0]&&((bL s).drop 1).all gX):=by
    have hd:bL s=(bL s)[0]::(bL s).drop 1:=by
     have:=List.drop_eq_getElem_cons hl
     rwa [agv]at this
    rw[<-agG,<-hd]
   rw[hw,Gt hl,agG,List.all_nil,Bool.and_true];unfold gX;cases p6 (bL s)<;>cases kL (bL s)[0]<;>simp
def gp(t:bz):Bool:=
 bif t.bO==1||t.bO==3 then t.bZ==0&&(t.cu==0&&(t.ct==0&&t.cv==0))
 else t.bO==2&&(decide (2<=t.bZ)&&(decide (t.bZ<=31)&&(decide (0<=t.cu)&&(decide (t.cu<=30)&&(decide (1<=t.ct)&&(decide (t.ct<=4)&&(t.cv==1||t.cv==2)))))))
theorem aeE(a:Bool):(bif a then some true else some false)=some a:=by cases a<;>rfl
theorem IF(a b:Int):decide (a<b)= !decide (b<=a):=by
 by_cases h:b<=a
 ·rw[agD h,agE (by omega)];rfl
 ·rw[agE h,agD (by omega)];rfl
theorem Cs(a b:Int):decide (a>b)= !decide (a<=b):=IF b a
theorem om(a b:Int):decide (a>=b)=decide (b<=a):=rfl
theorem yJ(a b:Int):(a !=b)= !(a==b):=rfl
theorem I7(N:Nat)(t:bz):tK N t=some (gp t):=by
 unfold tK gp;simp only[lD,gY,afU,om];cases (t.bO==1||t.bO==3)<;>rfl
theorem Ri(N:Nat)(t:bz)(h:(t.bO==2)=true):Ak N t=some (bif (decide (2<=t.bZ)&&(decide (t.bZ<=31)&&(decide (0<=t.cu)&&(decide (t.cu<=30)&&(decide (1<=t.ct)&&(decide (t.ct<=4)&&(t.cv==1||t.cv==2)))))))then 0 else 10):=by
 unfold Ak;simp only[lD,gY,afU,om,Cs,yJ,h,Bool.not_true,Bool.false_or];cases decide (2<=t.bZ)<;>cases decide (t.bZ<=31)<;>cases decide (0<=t.cu)<;>cases decide (t.cu<=30)<;>cases decide (1<=t.ct)<;>cases decide (t.ct<=4)<;>cases t.cv==1<;>cases t.cv==2<;>rfl
theorem DZ(N:Nat)(t:bz):tg N t=some (bif gp t then 0 else 10):=by
 unfold tg Cn gp Jb;cases h1:t.bO==1 with
 |true=>
  simp only[cond_true,afU,agF,Bool.true_and,Bool.true_or,Bool.and_true];cases (t.bZ==0&&(t.cu==0&&(t.ct==0&&t.cv==0)))<;>rfl
 |false=>
  cases h3:t.bO==3 with
  |true=>
   simp only[cond_true,cond_false,afU,agF,Bool.true_and,Bool.or_true,Bool.and_true];cases (t.bZ==0&&(t.cu==0&&(t.ct==0&&t.cv==0)))<;>rfl
  |false=>
   cases h2:t.bO==2 with
   |true=>
    rw[Ri N t h2];simp only[cond_true,cond_false,afU,Bool.true_and,Bool.or_false];cases (decide (2<=t.bZ)&&(decide (t.bZ<=31)&&(decide (0<=t.cu)&&(decide (t.cu<=30)&&(decide (1<=t.ct)&&(decide (t.ct<=4)&&(t.cv==1||t.cv==2)))))))<;>rfl
   |false=>rfl
def ov:agM agL->agK aR->Bool
 |_,[]=>true
 |p,m::l=>eu m.ak&&(!(m.cO.toInt==0)&&((match p with|none=>true|some q=>Op.bytesLess (bL q) (bL m.ak))&&ov (some m.ak) l))
theorem ID(p:agM agL)(m:aR)(l:agK aR):ov p (m::l)=(eu m.ak&&(!(m.cO.toInt==0)&&((match p with|none=>true|some q=>Op.bytesLess (bL q) (bL m.ak))&&ov (some m.ak) l))):=by cases p<;>rfl
def fZ(x:aI):Bool:=ov none x.xL
def pz(x:aI)(k:Nat):agM agL:=bif k==0 then none else(x.xL[k-1]?).map (·.ak)
theorem ZI{k:Nat}(h0:0<k)(h:k<=maxLen):aN ((k:Int)-1)=((k-1:Nat):Int):=by
 unfold aN;have:(k:Int)-1=((k-1:Nat):Int):=by omega
 rw[this];unfold maxLen at h;rw[IntKind.wrap_i64]<;>omega
theorem Py{x:aI}{k:Nat}{m:aR}{l:agK aR}(hd:x.xL.drop k=m::l):pz x (k+1)=some m.ak:=by
 have:=aL hd;unfold pz;simp [this]
theorem Mj{x:aI}{k:Nat}{m:aR}{l:agK aR}(hd:x.xL.drop k=m::l)(hm:x.xL.length<=maxLen):
 (bif (decide ((k:Int)>0))then bif (decide ((0:Int)<=(aN ((k:Int)-(1:Int)))))then
 Option.bind (x.xL[((aN ((k:Int)-(1:Int)))).toNat]?) λv7=>
 some (!(Op.bytesLess (bL v7.ak) (bL m.ak)))
 else none else some false)=some (!(match pz x k with|none=>true|some q=>Op.bytesLess (bL q) (bL m.ak))):=by
 have az:k<x.xL.length:=(afV.1 (aL hd)).1;by_cases h0:k=0
 ·subst h0;rfl
 ·rw[agD (show(k:Int)>0 by omega),ZI (by omega) (by omega),agD (show(0:Int)<=((k-1:Nat):Int) by omega)];simp only[cond_true,agn];have hp:pz x k=(x.xL[k-1]?).map (·.ak):=by
    unfold pz;rw[beq_false_of_ne h0];rfl
  rw[hp,afZ (show k-1<x.xL.length by omega)];rfl
theorem QU(N:Nat)(hN:16<N)(x:aI)(hm:x.xL.length<=maxLen):∀(l:agK aR)(k:Nat),x.xL.drop k=l->Ds N x l k=some (bif ov (pz x k) l then 0 else 1)
 |[],k,_=>rfl
 |m::l,k,hd=>by
  rw[Ds,Zo N m.ak hN,afU,ID,Mj hd hm,QU N hN x hm l (k+1) (pL hd),Py hd];generalize (match pz x k with|none=>true|some q=>Op.bytesLess (bL q) (bL m.ak))=b;cases eu m.ak<;>cases (m.cO.toInt==0)<;>cases b<;>cases ov (some m.ak) l<;>rfl
theorem KS(N:Nat)(hN:16<N)(x:aI)(hm:x.xL.length<=maxLen):Ax N x=some (bif fZ x then 0 else 1):=QU N hN x hm x.xL 0 rfl
theorem PK(N:Nat)(hN:16<N)(x:aI)(hm:x.xL.length<=maxLen):∀(l:agK aR)(k:Nat),x.xL.drop k=l->B8 N x l k=some (ov (pz x k) l)
 |[],k,_=>rfl
 |m::l,k,hd=>by
  rw[B8,El N m.ak hN,afU,ID,Mj hd hm,PK N hN x hm l (k+1) (pL hd),Py hd];generalize (match pz x k with|none=>true|some q=>Op.bytesLess (bL q) (bL m.ak))=b;cases eu m.ak<;>cases (m.cO.toInt==0)<;>cases b<;>cases ov (some m.ak) l<;>rfl
theorem BK(N:Nat)(hN:16<N)(x:aI)(hm:x.xL.length<=maxLen):ta N x=some (fZ x):=PK N hN x hm x.xL 0 rfl
def tJ(t:bz)(v:j5):Bool:=
 bif t.bO==2 then v.xD.toInt==1&&(decide (-(2^(t.bZ-1).toNat)<=v.xN.toInt)&&decide (v.xN.toInt<2^(t.bZ-1).toNat))
 else decide (v.xN.toInt<=2147483647)&&(decide (-2147483647<=v.xN.toInt)&&(decide (1<=v.xD.toInt)&&(decide (v.xD.toInt<=2147483647)&&
  (bif t.bO==3 then v.xD.toInt==1 else Nat.gcd v.xN.toInt.natAbs v.xD.toInt.toNat==1))))
theorem abi:∀n:Fin 30,(decide ((0:Int)<=(IntKind.u64.wrap (aN (((n.val+2:Nat):Int)-(1:Int))))))=true/\(decide ((0:Int)<=(aN (((n.val+2:Nat):Int)-(1:Int)))))=true/\
 (-(Int64.ofInt ((1:Int)*2^(min ((IntKind.u64.wrap (aN (((n.val+2:Nat):Int)-(1:Int))))).toNat (IntKind.bits .i64))))).toInt= -(2^(n.val+1))/\
 ((Int64.ofInt ((1:Int)*2^(min ((IntKind.u64.wrap (aN (((n.val+2:Nat):Int)-(1:Int))))).toNat (IntKind.bits .i64))))-(1:Int64)).toInt=2^(n.val+1)-1/\
 (-(Int64.ofInt ((1:Int)*2^(min ((aN (((n.val+2:Nat):Int)-(1:Int)))).toNat (IntKind.bits .i64))))).toInt= -(2^(n.val+1))/\
 (Int64.ofInt ((1:Int)*2^(min ((aN (((n.val+2:Nat):Int)-(1:Int)))).toNat (IntKind.bits .i64)))).toInt=2^(n.val+1):=by decide+kernel
theorem QS{b:Int}(h1:2<=b)(h2:b<=31):(decide ((0:Int)<=(IntKind.u64.wrap (aN (b-(1:Int))))))=true/\(decide ((0:Int)<=(aN (b-(1:Int)))))=true/\
 (-(Int64.ofInt ((1:Int)*2^(min ((IntKind.u64.wrap (aN (b-(1:Int))))).toNat (IntKind.bits .i64))))).toInt= -(2^(b-1).toNat)/\
 ((Int64.ofInt ((1:Int)*2^(min ((IntKind.u64.wrap (aN (b-(1:Int))))).toNat (IntKind.bits .i64))))-(1:Int64)).toInt=2^(b-1).toNat-1/\
 (-(Int64.ofInt ((1:Int)*2^(min ((aN (b-(1:Int)))).toNat (IntKind.bits .i64))))).toInt= -(2^(b-1).toNat)/\
 (Int64.ofInt ((1:Int)*2^(min ((aN (b-(1:Int)))).toNat (IntKind.bits .i64)))).toInt=2^(b-1).toNat:=by
 obtain⟨n,rfl⟩:∃n:Nat,b=n:=⟨b.toNat,by omega⟩;have:=abi ⟨n-2,by omega⟩;simp only[show n-2+2=n by omega,show n-2+1=n-1 by omega]at this;rw[show((n:Int)-1).toNat=n-1 by omega];exact this
theorem TE(N:Nat):∀(k a b:Nat),b<k->xE N k (a:Int) (b:Int)=some ((Nat.gcd a b:Nat):Int)
 |0,a,b,h=>absurd h (ago _)
 |k+1,a,b,h=>by
  rw[xE];by_cases h0:b=0
  ·subst h0;simp
  ·rw[show(((b:Nat):Int) !=0)=true by rw[bne_iff_ne];omega];simp only[cond_true];rw[<-Int.ofNat_tmod,TE N k b (a%b) (by have:=Nat.mod_lt a (Nat.pos_of_ne_zero h0);omega)];rw[Nat.gcd_comm a b,Nat.gcd_rec b a,Nat.gcd_comm]
theorem PH(N:Nat):∀(k:Nat)(a b:Int64),0<=a.toInt->0<=b.toInt->b.toInt.toNat<k->∃g:Int64,y5 N k a b=some g/\g.toInt=((Nat.gcd a.toInt.toNat b.toInt.toNat:Nat):Int)
 |0,a,b,_,_,h=>absurd h (ago _)
 |k+1,a,b,ha,hb,h=>by
  rw[y5];by_cases h0:b.toInt=0
  ·rw[h0];refine⟨a,rfl,?_⟩;show a.toInt=((Nat.gcd a.toInt.toNat 0:Nat):Int);rw[Nat.gcd_zero_right];omega
  ·rw[show(b.toInt !=0)=true by rw[bne_iff_ne];exact h0];simp only[cond_true];obtain⟨x,hx⟩:∃x:Nat,a.toInt=x:=⟨a.toInt.toNat,by omega⟩;obtain⟨y,hy⟩:∃y:Nat,b.toInt=y:=⟨b.toInt.toNat,by omega⟩;rw[hx,hy];have hyp:0<y:=by omega
   have hm:(x:Int).tmod (y:Int)=((x%y:Nat):Int):=(Int.ofNat_tmod x y).symm;have az:=Nat.mod_lt x hyp;have jh:b.toInt<2^63:=Int64.toInt_lt b;have jL:(Int64.ofInt ((x%y:Nat):Int)).toInt=((x%y:Nat):Int):=by
    rw[Int64.toInt_ofInt_of_le]
    ·omega
    ·omega
   rw[hm];obtain⟨g,h1,h2⟩:=PH N k b (Int64.ofInt ((x%y:Nat):Int)) hb (by rw[jL];omega) (by rw[jL];omega);refine⟨g,h1,?_⟩;rw[h2,jL,hy];simp only[agn];rw[Nat.gcd_comm x y,Nat.gcd_rec y x,Nat.gcd_comm]
theorem I2(z:Int):IntKind.u64.wrap z=z%18446744073709551616:=rfl
theorem Z9(N:Nat)(v:Int64):DN N v=some ((v.toInt.natAbs:Nat):Int):=by
 unfold DN;have h1:v.toInt<2^63:=Int64.toInt_lt v;have h2: -2^63<=v.toInt:=Int64.le_toInt v;by_cases h:v.toInt<0
 ·rw[agD h];simp only[cond_true,I2]
  congr 1
  omega
 ·rw[agE h];simp only[cond_false,I2]
  congr 1
  omega
theorem W4(N:Nat)(hN:2147483648<N)(t:bz)(v:j5)(ht:gp t=true):EN N t v=some (tJ t v):=by
 unfold EN;rw[DZ,ht,afU];unfold tJ;cases h2:t.bO==2 with
 |true=>
  simp only[cond_true];show Option.bind (DF N t v) _=_;unfold gp at ht;have hk:t.bO=2:=by simpa using h2
  rw[hk]at ht;have nv:(decide (2<=t.bZ)&&(decide (t.bZ<=31)&&(decide (0<=t.cu)&&(decide (t.cu<=30)&&(decide (1<=t.ct)&&(decide (t.ct<=4)&&(t.cv==1||t.cv==2)))))))=true:=ht;unfold DF;rw[Ri N t h2,nv,afU];simp only[afX,decide_eq_true_eq]at nv;obtain⟨b1,b2,_⟩:=nv;obtain⟨f1,f2,f3,f4,f5,f6⟩:=QS b1 b2;unfold Jo LZ CC;rw[gY,afU,afU,om,agD b1,agD b2];simp only[Bool.and_self,cond_true];rw[f1];simp only[cond_true,afU];rw[f3,f4];rw[om,gY,mq (p:=v.xN.toInt<=2^(t.bZ-1).toNat-1) (q:=v.xN.toInt<2^(t.bZ-1).toNat) (by omega)];cases (v.xD.toInt==1)<;>rfl
 |false=>
  simp only[cond_false];show(bif t.bO==3 then _ else _)=_;cases h3:t.bO==3 with
  |true=>
   simp only[cond_true];unfold Je;rw[om,gY,afU,afU];by_cases hd:v.xD.toInt=1
   ·rw[hd];simp only[agF,cond_true,afU,show decide ((1:Int)<=1)=true from rfl,show decide ((1:Int)<=2147483647)=true from rfl,Bool.and_true];rw[Bool.and_comm]
   ·rw[beq_false_of_ne hd];simp only[cond_false,afU,Bool.and_false]
  |false=>
   simp only[cond_false];unfold Jx Kf;rw[om,om,gY,afU,afU,Z9,afU];cases yF:decide (1<=v.xD.toInt)with
   |false=>cases decide (v.xN.toInt<=2147483647)<;>cases decide (-2147483647<=v.xN.toInt)<;>rfl
   |true=>
    cases kA:decide (v.xD.toInt<=2147483647)with
    |false=>cases decide (v.xN.toInt<=2147483647)<;>cases decide (-2147483647<=v.xN.toInt)<;>rfl
    |true=>
     have e1:=of_decide_eq_true yF;have e2:=of_decide_eq_true kA;have hw:IntKind.u64.wrap v.xD.toInt=((v.xD.toInt.toNat:Nat):Int):=by rw[I2];omega
     simp only[cond_true,Bool.true_and];rw[hw];unfold Kc;rw[TE N N v.xN.toInt.natAbs v.xD.toInt.toNat (by omega),afU,show((((Nat.gcd v.xN.toInt.natAbs v.xD.toInt.toNat:Nat):Int))==1)=(Nat.gcd v.xN.toInt.natAbs v.xD.toInt.toNat==1)from sN _ 1,gY,afU];cases decide (v.xN.toInt<=2147483647)<;>cases decide (-2147483647<=v.xN.toInt)<;>rfl
theorem Wn(N:Nat)(hN:2147483648<N)(t:bz)(v:j5)(ht:gp t=true):FK N t v=some (tJ t v):=by
 unfold FK tJ;cases h2:t.bO==2 with
 |true=>
  simp only[cond_true];unfold gp at ht;have hk:t.bO=2:=by simpa using h2
  rw[hk]at ht;have nv:(decide (2<=t.bZ)&&(decide (t.bZ<=31)&&(decide (0<=t.cu)&&(decide (t.cu<=30)&&(decide (1<=t.ct)&&(decide (t.ct<=4)&&(t.cv==1||t.cv==2)))))))=true:=ht;simp only[afX,decide_eq_true_eq]at nv;obtain⟨b1,b2,_⟩:=nv;obtain⟨f1,f2,f3,f4,f5,f6⟩:=QS b1 b2;rw[f2];simp only[cond_true];rw[f5,f6,om,gY,gY,afU]
 |false=>
  simp only[cond_false,Cs,lD,afU];cases zT:decide (v.xN.toInt<=2147483647)with
  |false=>rfl
  |true=>
   cases jH:decide (-2147483647<=v.xN.toInt)with
   |false=>rfl
   |true=>
    cases yF:decide (1<=v.xD.toInt)with
    |false=>rfl
    |true=>
     cases kA:decide (v.xD.toInt<=2147483647)with
     |false=>rfl
     |true=>
      have n1:=of_decide_eq_true zT;have n2:=of_decide_eq_true jH;have e1:=of_decide_eq_true yF;have e2:=of_decide_eq_true kA;simp only[Bool.not_true,Bool.or_false,cond_false,Bool.true_and];cases h3:t.bO==3 with
      |true=>rfl
      |false=>
       simp only[cond_false];have Vi:(-v.xN).toInt= -v.xN.toInt:=by
        rw[Int64.toInt_neg];rw[Int.bmod_eq_of_le]<;>omega
       have td:(uD v.xN (-v.xN)).toInt=((v.xN.toInt.natAbs:Nat):Int):=by
        rw[<-M9,Vi];split<;>omega
       unfold Ke;obtain⟨g,g1,g2⟩:=PH N N (uD v.xN (-v.xN)) v.xD (by rw[td];omega) (by omega) (by omega);rw[g1,afU,g2,td,agn];rw[show((((Nat.gcd v.xN.toInt.natAbs v.xD.toInt.toNat:Nat):Int))==1)=(Nat.gcd v.xN.toInt.natAbs v.xD.toInt.toNat==1)from sN _ 1]
set_option linter.unusedSimpArgs false
def iG(l:aI):Prop:=l.xL.length<=maxLen
structure Tn(x:bl):Prop where
 fE:iG x.aP
 at_:∀l∈x.bK,iG l
structure uK(e:ao):Prop where
 fE:iG e.aP
 idx:∀x∈e.xIdx,Tn x
 args:e.ba.length<=maxLen
def mZ(e:ao):Prop:=∀x∈c9 e,uK x
def mN(l:aI):Bool:=l.xK.toInt==0&&l.xL.length==0
def kQ(x:bl):Bool:=bif bL x.b7==[]then x.bK.length==0 else mN x.aP
def Fz(v:j5):Bool:=v.xN.toInt==0&&v.xD.toInt==0
def BE(t:bz):Bool:=t.bO==0&&(t.bZ==0&&(t.cu==0&&(t.ct==0&&t.cv==0)))
def jd(e:ao):Bool:=decide (1<=e.aM)&&(decide (e.aM<=18)&&((e.aM==1||Fz e.dL)&&((e.aM==1||(e.aM==12||BE e.aH))&&((e.aM==2||mN e.aP)&&((e.aM==3||(bL e.ak==[]&&e.xIdx.length==0))&&e.xIdx.all kQ)))))
def oF(e:ao):Bool:=(!(e.aM==3)||eu e.ak)&&e.xIdx.all λx=>bL x.b7==[]||eu x.b7
def nG(op:Int):Int:=bif op==1||(op==2||op==3)then 0 else bif op==8||(op==12||op==18)then 1 else bif op==11 then 3 else 2
def mf(e:ao):Bool:=(e.ba.length:Int)==nG e.aM&&(decide (e.xIdx.length<=6)&&e.xIdx.all λx=>decide (x.bK.length<=6))
def pF(e:ao):Bool:=decide (13<=e.aM)&&decide (e.aM<=18)
def uy(op:Int)(i:Nat):Bool:=(op==11&&i==0)||(op==16||(op==17||op==18))
def u3(op:Int):Nat->agK ao->Bool
 |_,[]=>true
 |i,a::l=>pF a==uy op i&&u3 op (i+1) l
def me(e:ao):Bool:=(!(e.aM==1||e.aM==12)||gp e.aH)&&u3 e.aM 0 e.ba
def pa(e:ao):Bool:=(!(e.aM==1)||tJ e.aH e.dL)&&(lh e).all fZ
def lS(e:ao):Int:=bif jd e then bif oF e then bif mf e then bif me e then bif pa e then 0 else 1 else 10 else 11 else 7 else 5
theorem qb(n:Nat):((n:Int)==0)=(n==0):=sN n 0
theorem CU(n:Nat):decide ((n:Int)>0)= !(n==0):=by
 by_cases h:n=0
 ·subst h;rfl
 ·rw[agD (show(n:Int)>0 by omega),beq_false_of_ne h];rfl
theorem NG(N:Nat)(l:aI):zu N l=some (mN l):=by
 unfold zu mN;rw[gY,afU,qb]
theorem adB(N:Nat)(x:bl):Ec N x=some (kQ x):=by
 unfold Ec kQ;rw[NG,afU,qb,po];cases bL x.b7==[]<;>rfl
theorem JY{α:Type}(f:α->Bool)(l:agK α):(l.any λx=> !f x)= !l.all f:=by
 induction l with
 |nil=>rfl
 |cons x l ih=>rw[agH,agG,ih];cases f x<;>rfl
theorem Oi(N:Nat):∀(l:agK bl)(k:Nat),∃z:Int,Ej N l k=some z/\decide (z>=0)=l.any λx=> !kQ x
 |[],k=>⟨-1,rfl,rfl⟩
 |x::l,k=>by
  rw[Ej,agH];unfold Kw;rw[adB,afU,afU];cases h: !kQ x with
  |true=>exact⟨k,rfl,agD (by omega)⟩
  |false=>exact Oi N l (k+1)
theorem acO(N:Nat)(l:agK bl):Cb N l=some (!l.all kQ):=by
 unfold Cb JS;obtain⟨z,h1,h2⟩:=Oi N l 0;rw[h1,afU,h2,JY]
theorem Ra(v:j5):((v.xN.toInt==(0:Int64).toInt)&&((v.xD.toInt==(0:Int64).toInt)&&true))=Fz v:=by rw[Bool.and_true];rfl
theorem O3(t:bz):((t.bO==0)&&((t.bZ==0)&&((t.cu==0)&&((t.ct==0)&&((t.cv==0)&&true)))))=BE t:=by rw[Bool.and_true];rfl
theorem o6(a b:Bool):(bif a then some false else some b)=some (!a&&b):=by cases a<;>rfl
theorem RI(a b:Bool):(bif a then some b else some true)=some (!a||b):=by cases a<;>rfl
theorem Yg(N:Nat)(e:ao):BR N e=some (jd e):=by
 unfold BR jd;simp only[CU];simp only[lD,gY,o6,RI,afU,Cs,IF,NG,acO,Ra,O3,po];cases decide (1<=e.aM)<;>cases decide (e.aM<=18)<;>cases e.aM==1<;>cases Fz e.dL<;>cases e.aM==12<;>cases BE e.aH<;>cases e.aM==2<;>cases mN e.aP<;>cases e.aM==3<;>cases bL e.ak==[]<;>cases e.xIdx.length==0<;>cases e.xIdx.all kQ<;>rfl
theorem TC(N:Nat):∀(l:agK bl)(k:Nat),Gf N l k=some (l.all kQ)
 |[],_=>rfl
 |x::l,k=>by
  rw[Gf,agG,TC N l (k+1)];unfold kQ mN;simp only[lD,aeE,gY,afU,CU,yJ,po];cases bL x.b7==[]<;>cases x.bK.length==0<;>cases x.aP.xK.toInt==0<;>cases x.aP.xL.length==0<;>rfl
theorem adR(N:Nat)(e:ao):CP N e=some (jd e):=by
 unfold CP jd;simp only[CU];simp only[lD,gY,o6,RI,afU,Cs,IF,yJ,TC,Ra,O3,po];unfold mN;cases decide (1<=e.aM)<;>cases decide (e.aM<=18)<;>cases e.aM==1<;>cases Fz e.dL<;>cases e.aM==12<;>cases BE e.aH<;>cases e.aM==2<;>cases e.aP.xK.toInt==0<;>cases e.aP.xL.length==0<;>cases e.aM==3<;>cases bL e.ak==[]<;>cases e.xIdx.length==0<;>cases e.xIdx.all kQ<;>rfl
theorem aco(N:Nat)(hN:16<N)(x:bl):EY N x=some (!(bL x.b7==[]||eu x.b7)):=by
 unfold EY;rw[Cy N _ hN,afU,o6,afU,po];cases bL x.b7==[]<;>rfl
theorem Qq(N:Nat)(hN:16<N):∀(l:agK bl)(k:Nat),∃z:Int,Ef N l k=some z/\decide (z>=0)=l.any λx=> !(bL x.b7==[]||eu x.b7)
 |[],k=>⟨-1,rfl,rfl⟩
 |x::l,k=>by
  rw[Ef,agH,aco N hN,afU];cases h: !(bL x.b7==[]||eu x.b7)with
  |true=>exact⟨k,rfl,agD (by omega)⟩
  |false=>exact Qq N hN l (k+1)
theorem aa8(N:Nat)(hN:16<N)(e:ao):B6 N e=some (oF e):=by
 unfold B6 oF JC Ki;obtain⟨z,h1,h2⟩:=Qq N hN e.xIdx 0;rw[Cy N _ hN,afU,h1];simp only[afU,h2,JY,gY,o6];cases e.aM==3<;>cases eu e.ak<;>cases (e.xIdx.all λx=>bL x.b7==[]||eu x.b7)<;>rfl
theorem Pa(N:Nat)(hN:16<N):∀(l:agK bl)(k:Nat),CX N l k=some (l.all λx=>bL x.b7==[]||eu x.b7)
 |[],_=>rfl
 |x::l,k=>by
  rw[CX,agG,Pa N hN l (k+1),El N _ hN,afU,o6,afU,o6,po];cases bL x.b7==[]<;>cases eu x.b7<;>rfl
theorem Xf(N:Nat)(hN:16<N)(e:ao):Cq N e=some (oF e):=by
 unfold Cq oF;rw[El N _ hN,afU,Pa N hN];simp only[afU,gY,o6];cases e.aM==3<;>cases eu e.ak<;>rfl
theorem Td(N:Nat):∀(l:agK bl)(k:Nat),∃z:Int,Fv N l k=some z/\decide (z>=0)=l.any λx=> !decide (x.bK.length<=6)
 |[],k=>⟨-1,rfl,rfl⟩
 |x::l,k=>by
  rw[Fv,agH];unfold Kk;rw[afU,show decide ((x.bK.length:Int)>6)= !decide (x.bK.length<=6)from iI _ 6];cases h: !decide (x.bK.length<=6)with
  |true=>exact⟨k,rfl,agD (by omega)⟩
  |false=>exact Td N l (k+1)
theorem adr(N:Nat)(op:Int):FI N op=some (nG op):=by
 unfold FI A5 As nG;cases op==1<;>cases op==2<;>cases op==3<;>cases op==8<;>cases op==12<;>cases op==18<;>cases op==11<;>rfl
theorem abh(N:Nat)(op:Int):Fj N op=some (nG op):=by
 unfold Fj x8 Bb nG;cases op==1<;>cases op==2<;>cases op==3<;>cases op==8<;>cases op==12<;>cases op==18<;>cases op==11<;>rfl
theorem T2(N:Nat)(e:ao):C3 N e=some (mf e):=by
 unfold C3 mf JI JH;obtain⟨z,h1,h2⟩:=Td N e.xIdx 0;rw[adr,afU,h1,show decide ((e.xIdx.length:Int)>6)= !decide (e.xIdx.length<=6)from iI _ 6];simp only[afU,h2,JY,lD,o6,yJ];cases (e.ba.length:Int)==nG e.aM<;>cases decide (e.xIdx.length<=6)<;>cases (e.xIdx.all λx=>decide (x.bK.length<=6))<;>rfl
theorem R6(N:Nat):∀(l:agK bl)(k:Nat),E9 N l k=some (l.all λx=>decide (x.bK.length<=6))
 |[],_=>rfl
 |x::l,k=>by
  rw[E9,agG,R6 N l (k+1),show decide ((x.bK.length:Int)>6)= !decide (x.bK.length<=6)from iI _ 6];cases decide (x.bK.length<=6)<;>rfl
theorem Y2(N:Nat)(e:ao):DU N e=some (mf e):=by
 unfold DU mf;rw[abh,afU,R6,show decide ((e.xIdx.length:Int)>6)= !decide (e.xIdx.length<=6)from iI _ 6];simp only[afU,lD,o6,yJ];cases (e.ba.length:Int)==nG e.aM<;>cases decide (e.xIdx.length<=6)<;>rfl
theorem Ml(N:Nat)(e:ao):yd N e=some (pF e):=by
 unfold yd pF;rw[gY,afU]
theorem Kj(N:Nat)(e:ao):xu N e=some (pF e):=by
 unfold xu pF;rw[om,gY,afU]
theorem Uo(N:Nat)(op:Int)(i:Nat):EZ N op (i:Int)=some (uy op i):=by
 unfold EZ yS uy;rw[qb];cases op==16<;>cases op==17<;>cases op==18<;>cases op==11<;>cases i==0<;>rfl
theorem Xa(N:Nat)(op:Int)(i:Nat):Cc N op (i:Int)=some (uy op i):=by
 unfold Cc uy;rw[qb];cases op==16<;>cases op==17<;>cases op==18<;>cases op==11<;>cases i==0<;>rfl
theorem M1(N:Nat)(e:ao):∀(l:agK ao)(i:Nat),ER N e l i=some (u3 e.aM i l)
 |[],_=>rfl
 |a::l,i=>by
  rw[ER,u3,Ml,afU,Uo,afU,M1 N e l (i+1)];cases pF a==uy e.aM i<;>rfl
theorem Nc(N:Nat)(e:ao):∀(l:agK ao)(i:Nat),Fq N e l i=some (u3 e.aM i l)
 |[],_=>rfl
 |a::l,i=>by
  rw[Fq,u3,Kj,afU,Xa,afU,Nc N e l (i+1)];cases pF a==uy e.aM i<;>rfl
theorem VV(b:Bool):((bif b then(0:Int)else 10) !=0)= !b:=by cases b<;>rfl
theorem WV(N:Nat)(e:ao):DH N e=some (me e):=by
 unfold DH me;rw[DZ,afU,M1];simp only[VV];cases e.aM==1<;>cases e.aM==12<;>cases gp e.aH<;>rfl
theorem typed_ref(N:Nat)(e:ao):Dg N e=some (me e):=by
 unfold Dg me;rw[I7,afU,Nc];cases e.aM==1<;>cases e.aM==12<;>cases gp e.aH<;>rfl
theorem XA(b:Bool):((bif b then(0:Int)else 1) !=0)= !b:=by cases b<;>rfl
theorem SZ(N:Nat)(hN:16<N):∀l:agK aI,(∀x∈l,iG x)->rz N l=some (bif l.all fZ then 0 else 1)
 |[],_=>rfl
 |x::l,h=>by
  rw[rz,KS N hN x (h x af1),afU,XA,SZ N hN l (λy hy=>h y (af4 _ hy)),agG];cases fZ x<;>rfl
theorem Mp(N:Nat)(hN:16<N)(c:Bool):∀(l:agK aI)(k:Nat),(∀x∈l,iG x)->Dm N (some c) l k=some (l.all fZ&&c)
 |[],_,_=>rfl
 |x::l,k,h=>by
  rw[Dm,BK N hN x (h x af1),afU,Mp N hN c l (k+1) (λy hy=>h y (af4 _ hy)),agG];cases fZ x<;>rfl
theorem Pn(N:Nat)(hN:16<N):∀(l:agK bl)(k:Nat),(∀x∈l,Tn x)->CQ N l k=some ((l.flatMap qg).all fZ)
 |[],_,_=>rfl
 |x::l,k,h=>by
  have hx:=h x af1;rw[CQ,BK N hN _ hx.fE,afU,Pn N hN l (k+1) (λy hy=>h y (af4 _ hy)),Mp N hN _ _ _ hx.at_,List.flatMap_cons,qg,List.cons_append,agG,List.all_append];cases fZ x.aP<;>rfl
theorem ZO{e:ao}(h:uK e):∀x∈lh e,iG x:=by
 intro x hx;unfold lh at hx;rcases agq.1 hx with rfl|hx
 ·exact h.fE
 ·obtain⟨y,hy,hx⟩:=List.mem_flatMap.1 hx;unfold qg at hx;rcases agq.1 hx with rfl|hx
  ·exact(h.idx y hy).fE
  ·exact(h.idx y hy).at_ x hx
theorem ae5(N:Nat)(hN:2147483648<N)(e:ao)(h:uK e)(ht:me e=true):Ea N e=some (pa e):=by
 unfold Ea pa lh;rw[agG,BK N (by omega) _ h.fE,afU,Pn N (by omega) _ _ h.idx];cases h1:e.aM==1 with
 |true=>
  have Ay:gp e.aH=true:=by
   unfold me at ht;rw[h1]at ht;simp only[Bool.true_or,Bool.not_true,Bool.false_or,afX]at ht;exact ht.1
  rw[Wn N hN _ _ Ay,afU];cases tJ e.aH e.dL<;>cases fZ e.aP<;>rfl
 |false=>cases fZ e.aP<;>rfl
theorem WW(N:Nat)(hN:2147483648<N)(e:ao)(h:uK e):xw N e=some (lS e):=by
 unfold xw lS;rw[Yg,afU];cases jd e with
 |false=>rfl
 |true=>
  simp only[cond_true];rw[aa8 N (by omega),afU];cases oF e with
  |false=>rfl
  |true=>
   simp only[cond_true];rw[T2,afU];cases mf e with
   |false=>rfl
   |true=>
    simp only[cond_true];rw[WV,afU];cases ht:me e with
    |false=>rfl
    |true=>
     simp only[cond_true];have hf:rz N (lh e)=_:=SZ N (by omega) (lh e) (ZO h);unfold pa JO;rw[afU,hf];cases h1:e.aM==1 with
     |true=>
      have Ay:gp e.aH=true:=by
       unfold me at ht;rw[h1]at ht;simp only[Bool.true_or,Bool.not_true,Bool.false_or,afX]at ht;exact ht.1
      rw[W4 N hN _ _ Ay,afU];cases tJ e.aH e.dL<;>cases (lh e).all fZ<;>rfl
     |false=>cases (lh e).all fZ<;>rfl
theorem ub{e x:ao}(h:x∈e.ba):SizeOf.sizeOf x<SizeOf.sizeOf e:=by
 have h1:=List.sizeOf_lt_of_mem h;cases e
 simp only[ao.mk.sizeOf_spec]at*;omega
theorem C9{e x y:ao}(h:x∈e.ba)(hy:y∈c9 x):y∈c9 e:=by
 have gen:∀l:agK ao,x∈l->y∈jF l:=by
  intro l
  induction l with
  |nil=>intro h;cases h
  |cons z l ih=>
   intro h;rw[ym];rcases agq.1 h with rfl|h
   ·exact List.mem_append_left _ hy
   ·exact List.mem_append_right _ (ih h)
 exact af4 _ (gen _ h)
theorem mZ.node{e:ao}(h:mZ e):uK e:=h e af1
theorem mZ.arg{e x:ao}(h:mZ e)(hx:x∈e.ba):mZ x:=λy hy=>h y (C9 hx hy)
def iU:agK ao->Int
 |[]=>0
 |x::l=>bif lS x !=0 then lS x else iU l
theorem Te:∀a b:agK ao,iU (a++b)=bif iU a !=0 then iU a else iU b
 |[],_=>rfl
 |x::a,b=>by
  rw[List.cons_append,iU,iU,Te a b];cases h:lS x !=0 with
  |true=>simp only[cond_true,h]
  |false=>rfl
theorem S9(N:Nat)(hN:2147483648<N):∀l:agK ao,(∀x∈l,uK x)->sD N l=some (iU l)
 |[],_=>rfl
 |x::l,h=>by
  rw[sD,WW N hN x (h x af1),afU,S9 N hN l (λy hy=>h y (af4 _ hy)),iU];cases lS x !=0<;>rfl
theorem SP(N:Nat)(rec:ao->agM Int):∀(l:agK ao)(k:Nat),(∀x∈l,rec x=some (iU (c9 x)))->D6 N rec l k=some (iU (jF l))
 |[],_,_=>by rw[jF];rfl
 |x::l,k,h=>by
  rw[D6,h x af1,afU,SP N rec l (k+1) (λy hy=>h y (af4 _ hy)),ym,Te];cases iU (c9 x) !=0<;>rfl
theorem Mq(N:Nat)(hN:2147483648<N):∀(d:Nat)(e:ao),SizeOf.sizeOf e<d->mZ e->rE N d e=some (iU (c9 e))
 |0,_,h,_=>absurd h (ago _)
 |d+1,e,h,hk=>by
  rw[rE];have hl:=SP N (rE N d) e.ba 0 λx hx=>Mq N hN d x (by have:=ub hx;omega) (hk.arg hx);unfold c9;rw[iU];unfold lS;rw[adR,afU];cases jd e with
  |false=>rfl
  |true=>
   simp only[cond_true];rw[Xf N (by omega),afU];cases oF e with
   |false=>rfl
   |true=>
    simp only[cond_true];rw[Y2,afU];cases mf e with
    |false=>rfl
    |true=>
     simp only[cond_true];rw[typed_ref,afU];cases ht:me e with
     |false=>rfl
     |true=>
      simp only[cond_true];rw[ae5 N hN e hk.node ht,afU,hl];cases pa e<;>rfl
def gK:Nat->ao->Nat
 |0,_=>1
 |L+1,e=>e.ba.foldl (λm a=>max m (1+gK L a)) 1
theorem Ti{α:Type}(f:α->Nat)(b:Nat):∀(l:agK α)(m:Nat),m<=b->(∀x∈l,f x<=b)->l.foldl (λm a=>max m (f a)) m<=b
 |[],_,h,_=>h
 |x::l,_,h,hl=>Ti f b l _ (Nat.max_le.2 ⟨h,hl x af1⟩) λy hy=>hl y (af4 _ hy)
theorem KV:∀(L:Nat)(e:ao),gK L e<=L+1
 |0,_=>af6 _
 |L+1,e=>Ti (λa=>1+gK L a) (L+2) e.ba 1 (by omega) λx _=>by have:=KV L x;show 1+gK L x<=L+2;omega
theorem rI{z:Int}(h1: -9223372036854775808<=z)(h2:z<9223372036854775808):aN z=z:=by
 unfold aN;rw[IntKind.wrap_i64];omega
theorem Df(a b:Nat):(if((a:Nat):Int)>((b:Nat):Int)then((a:Nat):Int)else(b:Int))=((max b a:Nat):Int):=by
 split<;>omega
theorem Tz(N:Nat)(rec:ao->Int->agM Int)(L:Nat)(hL:L<=100):∀(l:agK ao)(k m:Nat),(∀x∈l,rec x ((L:Int)+1)=some ((gK L x:Nat):Int))->Ey N rec ((L:Int)+1+1) l k (m:Int)=some ((l.foldl (λm a=>max m (1+gK L a)) m:Nat):Int)
 |[],_,_,_=>rfl
 |x::l,k,m,h=>by
  have h1:=KV L x;rw[Ey,rI (by omega) (by omega),show(L:Int)+1+1-1=(L:Int)+1 by omega,h x af1,afU];rw[rI (by omega) (by omega),show(1:Int)+((gK L x:Nat):Int)=((1+gK L x:Nat):Int) by omega,Df];exact Tz N rec L hL l (k+1) _ λy hy=>h y (af4 _ hy)
theorem R2(N:Nat):∀(L d:Nat)(e:ao),L<d->L<=100->nt N d e ((L:Int)+1)=some ((gK L e:Nat):Int)
 |L,0,_,h,_=>absurd h (ago _)
 |0,d+1,e,_,_=>by rw[nt];rfl
 |L+1,d+1,e,h,hL=>by
  rw[nt,agE (by omega)];simp only[cond_false];exact Tz N (nt N d) L (by omega) e.ba 0 1 λx _=>R2 N L d x (by omega) (by omega)
theorem Tm(N:Nat)(rec:ao->Int->agM Int)(L:Nat)(hL:L<=100):∀(l:agK ao)(k m:Nat),(∀x∈l,rec x ((L:Int)+1)=some ((gK L x:Nat):Int))->vr N ((L:Int)+1+1) rec l k (m:Int)=some ((l.foldl (λm a=>max m (1+gK L a)) m:Nat):Int)
 |[],_,_,_=>rfl
 |x::l,k,m,h=>by
  have h1:=KV L x;rw[vr,agD (show(L:Int)+1+1>1 by omega)];simp only[cond_true];rw[rI (by omega) (by omega),show(L:Int)+1+1-1=(L:Int)+1 by omega,h x af1,afU];rw[rI (by omega) (by omega),show(1:Int)+((gK L x:Nat):Int)=((1+gK L x:Nat):Int) by omega,Df];exact Tm N rec L hL l (k+1) _ λy hy=>h y (af4 _ hy)
theorem acn(N:Nat)(rec:ao->Int->agM Int):∀l:agK ao,vr N 1 rec l 0 1=some 1
 |[]=>rfl
 |x::l=>by rw[vr];rfl
theorem R9(N:Nat):∀(L d:Nat)(e:ao),L<d->L<=100->nJ N d e ((L:Int)+1)=some ((gK L e:Nat):Int)
 |L,0,_,h,_=>absurd h (ago _)
 |0,d+1,e,_,_=>by rw[nJ];exact acn N _ _
 |L+1,d+1,e,h,hL=>by
  rw[nJ];exact Tm N (nJ N d) L (by omega) e.ba 0 1 λx _=>R9 N L d x (by omega) (by omega)
theorem Sg(N:Nat):∀(l:agK ao)(v:Nat),v<=2000->q8 N l (v:Int)=some ((min (v+l.length) 2001:Nat):Int)
 |[],v,h=>by rw[q8];congr 2;simp only[af7];omega
 |x::l,v,h=>by
  rw[q8,rI (by omega) (by omega)];by_cases h2:v+1>2000
  ·rw[agD (by omega)];simp only[cond_true]
   congr 1
   simp only[afY];omega
  ·rw[agE (by omega)];simp only[cond_false];rw[show(v:Int)+1=((v+1:Nat):Int) by omega,Sg N l (v+1) (by omega)]
   congr 3
   simp only[afY];omega
theorem XS(N:Nat)(e:ao):xV N e=some ((min (c9 e).length 2001:Nat):Int):=by
 unfold xV Du;have:=Sg N (c9 e) 0 (by omega);rw[agf]at this;exact this
theorem Qf(N:Nat)(rec:ao->Int->agM Int)(m:Nat)(hm:m<=4000):∀(l:agK ao)(k n:Nat),n<=m+1->(∀x∈l,∀q:Nat,q<=m->rec x (q:Int)=some ((min (c9 x).length (q+1):Nat):Int))->zk N (m:Int) rec l k (n:Int)=some ((min (n+(jF l).length) (m+1):Nat):Int)
 |[],k,n,hn,_=>by rw[zk,jF];congr 2;simp only[af7];omega
 |x::l,k,n,hn,h=>by
  rw[zk];by_cases h2:n<=m
  ·rw[agD (by omega)];simp only[cond_true];rw[rI (by omega) (by omega),show(m:Int)-(n:Int)=((m-n:Nat):Int) by omega,h x af1 (m-n) (by omega),afU];rw[rI (by omega) (by omega),show(n:Int)+((min (c9 x).length (m-n+1):Nat):Int)=((n+min (c9 x).length (m-n+1):Nat):Int) by omega];rw[Qf N rec m hm l (k+1) _ (by omega) λy hy=>h y (af4 _ hy),ym,afW]
   congr 2
   omega
  ·rw[agE (by omega)];simp only[cond_false]
   congr 1
   omega
theorem P1(N:Nat):∀(d:Nat)(e:ao)(m:Nat),SizeOf.sizeOf e<d->m<=4000->o9 N d e (m:Int)=some ((min (c9 e).length (m+1):Nat):Int)
 |0,_,_,h,_=>absurd h (ago _)
 |d+1,e,m,h,hm=>by
  rw[o9];have:=Qf N (o9 N d) m hm e.ba 0 1 (by omega) λx hx q hq=>P1 N d x q (by have:=ub hx;omega) (by omega);rw[show((1:Nat):Int)=1 from rfl]at this;rw[this]
  congr 2
  unfold c9;simp only[afY];omega
def nW(e:ao):Int:=bif decide (40<gK 40 e)then 13 else bif decide (2000<(c9 e).length)then 2 else iU (c9 e)
theorem Z7(N:Nat)(hN:2147483648<N)(e:ao)(h:mZ e):zF N e=some (nW e):=by
 unfold zF KJ Kq nW;have hd:nt N N e 41=_:=R2 N 40 N e (by omega) (by omega);rw[hd,afU,afU,XS,afU];rw[mq (p:=((gK 40 e:Nat):Int)>40) (q:=40<gK 40 e) (by omega),mq (p:=((min (c9 e).length 2001:Nat):Int)>2000) (q:=2000<(c9 e).length) (by omega)];cases decide (40<gK 40 e)<;>cases decide (2000<(c9 e).length)<;>try rfl
 simp only[cond_false];exact S9 N hN (c9 e) h
theorem aeX(N:Nat)(hN:2147483648<N)(e:ao)(hs:SizeOf.sizeOf e<N)(h:mZ e):AW N e=some (nW e):=by
 unfold AW HJ J2 HE Hk Lo nW;have hd:nJ N N e 41=_:=R9 N 40 N e (by omega) (by omega);have hz:o9 N N e 2000=_:=P1 N N e 2000 hs (by omega);rw[hd,afU,afU,hz,afU,afU,Mq N hN N e hs h,afU];rw[mq (p:=((gK 40 e:Nat):Int)>40) (q:=40<gK 40 e) (by omega)];rw[show(if(2001:Int)<((min (c9 e).length 2001:Nat):Int)then(2001:Int)else((min (c9 e).length 2001:Nat):Int))=((min (c9 e).length 2001:Nat):Int) by split<;>omega];rw[mq (p:=((min (c9 e).length 2001:Nat):Int)>2000) (q:=2000<(c9 e).length) (by omega)];cases decide (40<gK 40 e)<;>cases decide (2000<(c9 e).length)<;>rfl
set_option linter.unusedVariables false
def b8(l:agK agL)(s:agL):Bool:=l.any λw=>bL w==bL s
theorem xU(N:Nat)(l:agK agL)(s:agL):qj N l s=some (b8 l s):=L1 N s l 0
theorem jm(a b:agK agL)(s:agL):b8 (a++b) s=(b8 a s||b8 b s):=List.any_append
theorem Oc{s x:agL}(h:(bL s==bL x)=true)(l:agK agL):b8 l x=b8 l s:=by
 unfold b8;rw[beq_iff_eq.1 h]
theorem y0(s x:agL):b8 [s] x=(bL s==bL x):=by unfold b8;rw[agH,List.any_nil,Bool.or_false]
theorem aa4(N:Nat)(l:agK agL)(s:agL):vQ N l s=some (b8 l s):=by
 unfold vQ Ff;obtain⟨z,h1,h2⟩:=KQ N s l 0;rw[h1,afU,h2];rfl
def fe(t:agK agL)(s:agL):Int:=bif eu s then bif b8 t s then 8 else 0 else 7
theorem xB(N:Nat)(hN:16<N)(s:agL)(t:agK agL):te N s t=some (fe t s):=by
 unfold te fe;rw[El N s hN,afU,xU,afU];cases eu s<;>cases b8 t s<;>rfl
theorem yc{t:agK agL}{s:agL}(h:fe t s=0):eu s=true/\b8 t s=false:=by
 unfold fe at h;cases h1:eu s<;>cases h2:b8 t s<;>rw[h1,h2]at h<;>first|exact⟨rfl,rfl⟩|(exact absurd h (by decide))
structure KN(m:List (ByteArray×Int))(S T:List ByteArray):Prop where
 val:∀s,dv m s 0=bif b8 S s then 1 else bif b8 T s then 2 else 0
 len:m.length<=S.length+T.length
 Nk:∀s,b8 T s=true->b8 S s=false
section
variable {m:agK (agL×Int)} {S T:agK agL}
theorem KN.Vx(h:KN m S T)(s:agL):(dv m s 0 !=0)=b8 (S++T) s:=by
 rw[h.val,jm];cases b8 S s<;>cases b8 T s<;>rfl
theorem KN.ne1(h:KN m S T)(s:agL):(dv m s 0 !=1)= !b8 S s:=by
 rw[h.val];cases b8 S s<;>cases b8 T s<;>rfl
theorem KN.AR(h:KN m S T)(s:agL):(dv m s 0==1)=b8 S s:=by
 rw[h.val];cases b8 S s<;>cases b8 T s<;>rfl
theorem KN.ne2(h:KN m S T)(s:agL):(dv m s 0 !=2)= !b8 T s:=by
 have:=h.Nk s;rw[h.val];cases e1:b8 S s<;>cases e2:b8 T s<;>first|rfl|(rw[e1]at this;exact absurd (this e2) (by decide))
theorem Fg{V:Type}(k:agL)(v:V)(m:agK (agL×V))(s:agL)(d:V):dv ((k,v)::m) s d=bif bL k==bL s then v else dv m s d:=rfl
theorem KN.S1(h:KN m S T){s:agL}(hs:b8 (S++T) s=false):KN ((s,2)::m) S (T++[s]):=by
 rw[jm,agJ]at hs;refine⟨λx=> ?_,by have:=h.len;simp only[afY,afW,af7];omega,λx hx=> ?_⟩
 rotate_left
 ·rw[jm,y0]at hx;cases e:bL s==bL x with
  |true=>rw[Oc e];exact hs.1
  |false=>rw[e,Bool.or_false]at hx;exact h.Nk x hx
 rw[Fg,h.val,jm,y0];cases e:bL s==bL x with
 |true=>rw[Oc e,hs.1];cases b8 T x<;>rfl
 |false=>cases b8 S x<;>cases b8 T x<;>rfl
theorem KN.qE(h:KN m S [])(s:agL):KN ((s,1)::m) (S++[s]) []:=by
 refine⟨λx=> ?_,by have:=h.len;simp only[afY,afW,af7]at*;omega,λx hx=>by cases hx⟩;rw[Fg,h.val,jm,y0];cases e:bL s==bL x<;>cases b8 S x<;>rfl
theorem KN.nil:KN [] [] []:=⟨λ_=>rfl,af6 _,λ_ h=>by cases h⟩
theorem JG(N:Nat)(hN:16<N)(s:agL)(k:Int)(p:aB)(h:KN m S T)(hl:S.length+T.length<9223372036854775807):
 vH N s k p m=some (fe (S++T) s,bif fe (S++T) s==0 then(s,k)::m else m):=by
 unfold vH fe;rw[Cy N s hN,afU,h.Vx,show Nat.blt m.length 9223372036854775807=true from Nat.ble_eq_true_of_le (by have:=h.len;omega)];cases eu s<;>cases b8 (S++T) s<;>rfl
def j0(V:agK agL)(l:aI):Bool:=l.xL.all λm=>b8 V m.ak
def eG(S:agK agL)(l:aI):Int:=bif fZ l then bif j0 S l then 0 else 9 else 1
theorem Sb(N:Nat)(h:KN m S T):∀(l:agK aR)(k:Nat),DD N m l k=some (bif l.all (λm=>b8 S m.ak)then 0 else 9)
 |[],_=>rfl
 |x::l,k=>by
  rw[DD,h.ne1,agG,Sb N h l];cases b8 S x.ak<;>rfl
theorem Hz(N:Nat)(hN:16<N)(l:aI)(p:aB)(hl:iG l)(h:KN m S T):uJ N l p m=some (eG S l):=by
 unfold uJ eG;rw[KS N hN l hl,afU,Sb N h];cases fZ l<;>rfl
theorem Ot(N:Nat)(V W:agK agL):∀(l:agK aR)(k:Nat),B7 N V W l k=some (l.all λm=>b8 (V++W) m.ak)
 |[],_=>rfl
 |x::l,k=>by
  rw[B7,xU,xU,agG,Ot N V W l,jm];cases b8 V x.ak<;>cases b8 W x.ak<;>rfl
theorem HW(N:Nat)(V W:agK agL)(l:aI):xT N l V W=some (j0 (V++W) l):=Ot N V W l.xL 0
theorem Ik(N:Nat)(hN:16<N)(l:aI)(hl:iG l)(S:agK agL):wW N l S=some (eG S l):=by
 unfold wW eG;rw[BK N hN l hl,afU,HW,afU];rw[List.nil_append];cases fZ l<;>cases j0 S l<;>rfl
theorem Ac(n:Nat):decide ((n:Int)>6)= !decide (n<=6):=iI n 6
theorem abq(N:Nat)(t:bz)(n:Nat):tX N t [(n:Int)]=some (bif gp t then bif decide (n<=6)then 0 else 11 else 10):=by
 unfold tX;rw[DZ,afU,show An N [(n:Int)]=some (n:Int)from rfl,afU,Ac];cases gp t<;>cases decide (n<=6)<;>rfl
theorem W2(N:Nat)(t:bz)(n k:Nat):tX N t [(n:Int),(k:Int)]=some (bif gp t then bif decide (n<=6)&&decide (k<=6)then 0 else 11 else 10):=by
 unfold tX;rw[DZ,afU,show An N [(n:Int),(k:Int)]=some (if(k:Int)>(n:Int)then(k:Int)else(n:Int))from rfl,afU,Df,Ac];have:decide (max n k<=6)=(decide (n<=6)&&decide (k<=6)):=by
  rw[Bool.eq_iff_iff,afX,decide_eq_true_iff,decide_eq_true_iff,decide_eq_true_iff];omega
 rw[this];cases gp t<;>cases (decide (n<=6)&&decide (k<=6))<;>rfl
def eB{α:Type}(f:α->Int):agK α->Int
 |[]=>0
 |x::l=>bif f x !=0 then f x else eB f l
def oc(S T:agK agL)(x:ck):Int:=bif fe (S++T) x.ak !=0 then fe (S++T) x.ak else bif gp x.aH then bif decide (x.aK.length<=6)then eB (eG S) x.aK else 11 else 10
theorem NY(N:Nat)(hN:16<N)(p:aB)(q:Int×agK (agL×Int))(h:KN q.2 S T):∀(l:agK aI)(k:Nat),(∀x∈l,iG x)->BW N q p l k=some (eB (eG S) l,q.2)
 |[],_,_=>rfl
 |x::l,k,hx=>by
  rw[BW,Hz N hN x p (hx x af1) h,afU,eB];cases eG S x !=0 with
  |true=>rfl
  |false=>exact NY N hN p q h l (k+1) λy hy=>hx y (af4 _ hy)
theorem fz{a:Int}(h:(a !=0)=false):a=0:=by
 rw[bne_eq_false_iff_eq]at h;exact h
theorem Ws(N:Nat)(hN:16<N)(x:ck)(p:aB)(hx:∀y∈x.aK,iG y)(h:KN m S T)(hl:S.length+T.length<9223372036854775807):
 ∃m',EO N x p m=some (oc S T x,m')/\(oc S T x=0->KN m' S (T++[x.ak])):=by
 unfold EO oc;rw[JG N hN x.ak 2 p h hl,afU,abq];simp only[];cases e:fe (S++T) x.ak !=0 with
 |true=>exact⟨_,rfl,λh0=>by rw[cond_true]at h0;rw[h0]at e;cases e⟩
 |false=>
  have e0:=fz e;have k:=h.S1 (yc e0).2;rw[e0];simp only[agF,cond_true,cond_false];cases gp x.aH with
  |false=>exact⟨_,rfl,λh0=>by cases h0⟩
  |true=>
   cases decide (x.aK.length<=6)with
   |false=>exact⟨_,rfl,λh0=>by cases h0⟩
   |true=>exact⟨_,NY N hN p (0,(x.ak,2)::m) k x.aK 0 hx,λ_=>k⟩
theorem Nb(N:Nat)(hN:16<N)(S:agK agL):∀(l:agK aI)(k:Nat),(∀x∈l,iG x)->Et N S l k=some (eB (eG S) l)
 |[],_,_=>rfl
 |x::l,k,hx=>by
  rw[Et,Ik N hN x (hx x af1),afU,eB];cases eG S x !=0 with
  |true=>rfl
  |false=>exact Nb N hN S l (k+1) λy hy=>hx y (af4 _ hy)
theorem QF(N:Nat)(hN:16<N)(x:ck)(S T:agK agL)(hx:∀y∈x.aK,iG y):Ek N x S (S++T)=some (oc S T x):=by
 unfold Ek oc;rw[xB N hN,afU,I7,afU,Ac,Nb N hN S _ _ hx];cases fe (S++T) x.ak !=0<;>cases gp x.aH<;>cases decide (x.aK.length<=6)<;>rfl
def mg(S:agK agL):agK agL->agK bH->Int
 |_,[]=>0
 |O,a::l=>bif fe (S++O) a.ak !=0 then fe (S++O) a.ak else bif eG S a.cU !=0 then eG S a.cU else mg S (O++[a.ak]) l
structure ON(w:List (ByteArray×Bool))(O:List ByteArray):Prop where
 val:∀s,dv w s false=b8 O s
 len:w.length<=O.length
theorem ON.add{w:agK (agL×Bool)}{O:agK agL}(h:ON w O)(s:agL):ON ((s,true)::w) (O++[s]):=by
 refine⟨λx=> ?_,by have:=h.len;simp only[afY,afW,af7];omega⟩;rw[Fg,h.val,jm,y0];cases bL s==bL x<;>cases b8 O x<;>rfl
theorem NT(N:Nat)(hN:16<N)(p:aB)(h:KN m S T):∀(l:agK bH)(k:Nat)(w:agK (agL×Bool))(O:agK agL),ON w O->(∀x∈l,iG x.cU)->O.length+l.length<9223372036854775807->
 Fy N m p l k w=some (mg S O l)
 |[],_,_,_,_,_,_=>rfl
 |a::l,k,w,O,hw,hx,hl=>by
  have mE:O.length+l.length+1<9223372036854775807:=by simp only[afY]at hl;omega
  rw[Fy,Cy N _ hN,afU,hw.val,h.AR,Hz N hN _ p (hx a af1) h,afU,mg,
    show Nat.blt w.length 9223372036854775807=true from Nat.ble_eq_true_of_le (by have:=hw.len;omega)]
  have ih:=NT N hN p h l (k+1) _ _ (hw.add a.ak) (λy hy=>hx y (af4 _ hy)) (by simp only[afW,afY,af7];omega);unfold fe;dsimp only;rw[jm,ih];cases eu a.ak<;>cases b8 S a.ak<;>cases b8 O a.ak<;>first|rfl|(cases eG S a.cU !=0<;>rfl)
theorem Sy(N:Nat)(hN:16<N)(S:agK agL):∀(l:agK bH)(k:Nat)(O:agK agL),(∀x∈l,iG x.cU)->S.length+O.length+l.length<1000000000->
 EM N S l k (S++O)=some (mg S O l)
 |[],_,_,_,_=>rfl
 |a::l,k,O,hx,hl=>by
  have mE:S.length+O.length+l.length+1<1000000000:=by simp only[afY]at hl;omega
  rw[EM,xB N hN,afU,Ik N hN _ (hx a af1),afU,mg,
    show Nat.ble (((S++O).length+1)*16) 140737488355328=true from Nat.ble_eq_true_of_le (by rw[afW];omega)]
  have ih:=Sy N hN S l (k+1) (O++[a.ak]) (λy hy=>hx y (af4 _ hy)) (by simp only[afW,afY,af7];omega);rw[<-agc]at ih;dsimp only;rw[ih];cases fe (S++O) a.ak !=0<;>cases eG S a.cU !=0<;>rfl
theorem Vt(N:Nat)(hN:16<N)(S:agK agL)(l:agK bH)(hx:∀x∈l,iG x.cU)(hl:S.length+l.length<1000000000):FF N l S=some (mg S [] l):=by
 unfold FF;have:=Sy N hN S l 0 [] hx (by simp only[af7];omega);rw[agh]at this;rw[this,show Nat.ble ((0+S.length)*16) 140737488355328=true from Nat.ble_eq_true_of_le (by omega)];rfl
theorem xW{n:Nat}(h:n<=9223372036854775807):aN (n:Int)=(n:Int):=rI (by omega) (by omega)
theorem Qh(N:Nat)(a b:agK bH)(h:a.length+b.length<1000000000):wy N [a,b]=some (a++b):=by
 unfold wy;rw[rL,show aN ((0:Int)+(a.length:Int))=((a.length:Nat):Int) by rw[Int.zero_add,xW (by omega)],show decide ((a.length:Int)<0)=false from agE (by omega)];simp only[cond_false];rw[rL,show aN ((a.length:Int)+(b.length:Int))=((a.length+b.length:Nat):Int) by rw[<-Int.natCast_add,xW (by omega)],show decide (((a.length+b.length:Nat):Int)<0)=false from agE (by omega)];simp only[cond_false];rw[rL];unfold KC;rw[show decide ((0:Int)<=((a.length+b.length:Nat):Int))=true from agD (by omega),agn,show Nat.ble ((a.length+b.length)*48) 140737488355328=true from Nat.ble_eq_true_of_le (by omega)];simp only[Bool.and_self,cond_true,afU];rw[sy];rw[show Nat.ble ((([]:agK bH).length+a.length)*48) 140737488355328=true from Nat.ble_eq_true_of_le (by simp only[af7];omega)];simp only[cond_true,List.nil_append];rw[sy];rw[show Nat.ble ((a.length+b.length)*48) 140737488355328=true from Nat.ble_eq_true_of_le (by omega)];rfl
theorem ab8(N:Nat)(hN:16<N)(d:aT)(p:aB)(h:KN m S T)(hx:∀x∈d.aK++d.bx,iG x.cU)(hl:d.aK.length+d.bx.length<1000000000):
 E7 N d p m=some (mg S [] (d.aK++d.bx)):=by
 unfold E7;rw[Qh N _ _ hl,afU];exact NT N hN p h _ 0 [] [] ⟨λ_=>rfl,af6 _⟩ hx (by simp only[afW,af7];omega)
end
def zQ(d:aT):Int:=bif d.dd==0 then bif d.bx.length==0 then 0 else 11 else bif decide (1<=d.dd)&&decide (d.dd<=4)then bif d.bx.length==0 then 11 else 0 else bif d.dd==5 then bif d.bx.length==0&& !(d.aK.length==0)then 0 else 11 else 1
theorem MU(f:Int):f=0\/f=1\/f=2\/f=3\/f=4\/f=5\/(f<0\/5<f):=by omega
theorem ZN(N:Nat)(d:aT):FT N d=some (zQ d):=by
 unfold FT zQ vC;rw[CU,qb,qb];rcases MU d.dd with h|h|h|h|h|h|h
 ·rw[h];cases d.bx.length==0<;>rfl
 ·rw[h];cases d.bx.length==0<;>rfl
 ·rw[h];cases d.bx.length==0<;>rfl
 ·rw[h];cases d.bx.length==0<;>rfl
 ·rw[h];cases d.bx.length==0<;>rfl
 ·rw[h];cases d.bx.length==0<;>cases d.aK.length==0<;>rfl
 ·have e:∀k:Int,0<=k->k<=5->(d.dd==k)=false:=λk h1 h2=>beq_eq_false_iff_ne.2 (by omega);have e2:(decide (1<=d.dd)&&decide (d.dd<=4))=false:=by
   rw[Bool.and_eq_false_iff,decide_eq_false_iff_not,decide_eq_false_iff_not];omega
  rw[e 0 (by decide) (by decide),e 1 (by decide) (by decide),e 2 (by decide) (by decide),e 3 (by decide) (by decide),e 4 (by decide) (by decide),e 5 (by decide) (by decide),e2];rfl
theorem Uu(N:Nat)(d:aT):CJ N d=some (zQ d):=by
 unfold CJ zQ;rw[qb,qb];rcases MU d.dd with h|h|h|h|h|h|h
 ·rw[h];cases d.bx.length==0<;>rfl
 ·rw[h];cases d.bx.length==0<;>rfl
 ·rw[h];cases d.bx.length==0<;>rfl
 ·rw[h];cases d.bx.length==0<;>rfl
 ·rw[h];cases d.bx.length==0<;>rfl
 ·rw[h];cases d.bx.length==0<;>cases d.aK.length==0<;>rfl
 ·have e:∀k:Int,0<=k->k<=5->(d.dd==k)=false:=λk h1 h2=>beq_eq_false_iff_ne.2 (by omega);have e2:(decide (1<=d.dd)&&decide (d.dd<=4))=false:=by
   rw[Bool.and_eq_false_iff,decide_eq_false_iff_not,decide_eq_false_iff_not];omega
  have e3:(bif decide (d.dd<0)then some true else some (decide (d.dd>5)))=some true:=by
   rcases h with h|h
   ·rw[agD h];rfl
   ·rw[show decide (d.dd>5)=true from agD h];cases decide (d.dd<0)<;>rfl
  rw[e3,e 0 (by decide) (by decide),e 5 (by decide) (by decide),e2];rfl
def jq(B:Nat)(l:aI):Prop:=l.xL.length<=B
theorem jq.ok{l:aI}(h:jq 1000000000 l):iG l:=agd h (by decide)
theorem jP{n k:Nat}(h:n<=k):Nat.ble n k=true:=Nat.ble_eq_true_of_le h
theorem TA(N:Nat):∀(l:agK bH)(k:Nat)(acc:agK agL),acc.length+l.length<=1000000000->w8 N l k acc=some (acc++l.map (·.ak))
 |[],_,acc,_=>by rw[w8,List.map_nil,agh]
 |a::l,k,acc,h=>by
  simp only[afY]at h;rw[w8,jP (by omega),cond_true];dsimp only;rw[TA N l (k+1) _ (by simp only[afW,afY,af7];omega)];rw[agl,agc];rfl
theorem P9(N:Nat)(d:aT)(h:d.aK.length+d.bx.length<1000000000):AA N d=some ((d.aK++d.bx).map (·.ak)):=by
 unfold AA;rw[Qh N _ _ h,afU,TA N _ _ _ (by simp only[afW,af7];omega),List.nil_append]
theorem OE(N:Nat):∀(l:agK bH)(k:Nat)(acc:agK agL),acc.length+l.length<=1000000000->y4 N l k acc=some (acc++l.map (·.ak))
 |[],_,acc,_=>by rw[y4,List.map_nil,agh]
 |a::l,k,acc,h=>by
  simp only[afY]at h;rw[y4,jP (by omega),cond_true];dsimp only;rw[OE N l (k+1) _ (by simp only[afW,afY,af7];omega)];rw[agl,agc];rfl
theorem RD(N:Nat)(d:aT):∀(l:agK bH)(k:Nat)(acc:agK agL),acc.length+l.length+d.bx.length<=1000000000->xZ N d l k acc=some (acc++(l++d.bx).map (·.ak))
 |[],_,acc,h=>by rw[xZ,OE N _ _ _ (by simp only[af7]at h;omega),List.nil_append]
 |a::l,k,acc,h=>by
  simp only[afY]at h;rw[xZ,jP (by omega),cond_true];dsimp only;rw[RD N d l (k+1) _ (by simp only[afW,afY,af7];omega)];rw[List.cons_append,agl,agc];rfl
theorem NC(N:Nat)(d:aT)(h:d.aK.length+d.bx.length<1000000000):A2 N d=some ((d.aK++d.bx).map (·.ak)):=by
 unfold A2;rw[RD N d _ _ _ (by simp only[af7];omega),List.nil_append]
theorem Q9(N:Nat)(l:aI)(h:jq 1000000000 l):zP N l=some l:=by
 unfold zP J7;rw[jP (by have:=h;unfold jq at this;omega)];rfl
theorem Oh(N:Nat):∀(l:agK aI)(k:Nat)(acc:agK aI),acc.length+l.length<=1000000000->(∀x∈l,jq 1000000000 x)->zR N l k acc=some (acc++l)
 |[],_,acc,_,_=>by rw[zR,agh]
 |a::l,k,acc,h,hx=>by
  simp only[afY]at h;rw[zR,Q9 N a (hx a af1),afU,jP (by omega),cond_true];dsimp only;rw[Oh N l (k+1) _ (by simp only[afW,afY,af7];omega) λy hy=>hx y (af4 _ hy)];rw[agc];rfl
theorem aew(N:Nat)(l:agK aI)(h:l.length<=1000000000)(hx:∀x∈l,jq 1000000000 x):CV N l=some l:=by
 unfold CV;rw[Oh N l 0 [] (by simp only[af7];omega) hx,List.nil_append]
def ng(s:agL)(d:aT):Bool:=bL d.ak==bL s
def vX(D:agK aT)(s:agL)(k:Nat):Int:=match D.findIdx? (ng s)with|some i=>((k+i:Nat):Int)|none=> -1
theorem VT(d:aT)(D:agK aT)(s:agL)(k:Nat):vX (d::D) s k=bif ng s d then(k:Int)else vX D s (k+1):=by
 unfold vX;rw[List.findIdx?_cons];cases ng s d with
 |true=>rfl
 |false=>
  cases D.findIdx? (ng s)with
  |none=>rfl
  |some i=>simp only[cond_false,Bool.false_eq_true,if_false,Option.map_some];rw[Nat.add_assoc,Nat.add_comm 1 i]
theorem Rg(N:Nat)(s:agL):∀(l:agK aT)(k:Nat),BZ N s l k=some (vX l s k)
 |[],_=>rfl
 |d::l,k=>by
  rw[BZ,VT,show Hv N d s=some (ng s d)from rfl,afU,Rg N s l];cases ng s d<;>rfl
theorem aaw(N:Nat)(p:aB)(s:agL):Ck N p s=some (vX p.aw s 0):=by
 unfold Ck GM;rw[Rg];rfl
theorem Om{α:Type}(f:α->Bool):∀l:agK α,(l.findIdx? f=none/\l.find? f=none)\/∃i d,l.findIdx? f=some i/\l[i]?=some d/\l.find? f=some d/\f d=true
 |[]=> .inl ⟨rfl,rfl⟩
 |x::l=>by
  rw[List.findIdx?_cons,List.find?_cons];cases e:f x with
  |true=>exact .inr ⟨0,x,rfl,rfl,rfl,e⟩
  |false=>
   simp only[Bool.false_eq_true,if_false];rcases Om f l with⟨h1,h2⟩|⟨i,d,h1,h2,h3,h4⟩
   ·exact .inl ⟨by rw[h1];rfl,h2⟩
   ·exact .inr ⟨i+1,d,by rw[h1];rfl,by rw[agx];exact h2,h3,h4⟩
def dM(P:agK ck)(D:agK aT)(s:agL):bz×agK aI×Bool:=
 match P.find? (λx=>bL x.ak==bL s)with
 |some x=>(x.aH,x.aK,true)
 |none=>match D.find? (ng s)with
  |some d=>(d.aH,d.aK.map (·.cU),true)
  |none=>(eR,[],false)
theorem Me(N:Nat)(d:aT):∀(l:agK bH)(k:Nat)(acc:agK aI),acc.length+l.length<=1000000000->(∀x∈l,jq 1000000000 x.cU)->Aj N d l k acc=some (d.aH,acc++l.map (·.cU),true)
 |[],_,acc,_,_=>by rw[Aj,List.map_nil,agh]
 |a::l,k,acc,h,hx=>by
  simp only[afY]at h;rw[Aj,Q9 N _ (hx a af1),afU,jP (by omega),cond_true];dsimp only;rw[Me N d l (k+1) _ (by simp only[afW,afY,af7];omega) λy hy=>hx y (af4 _ hy)];rw[agl,agc];rfl
theorem Sr(N:Nat)(d:aT):∀(l:agK bH)(k:Nat)(acc:agK aI),acc.length+l.length<=1000000000->zc N d l k acc=some (d.aH,acc++l.map (·.cU),true)
 |[],_,acc,_=>by rw[zc,List.map_nil,agh]
 |a::l,k,acc,h=>by
  simp only[afY]at h;rw[zc,jP (by omega),cond_true];dsimp only;rw[Sr N d l (k+1) _ (by simp only[afW,afY,af7];omega)];rw[agl,agc];rfl
structure mM(P:List ck):Prop where
 len:∀x∈P,x.aK.length<=1000000000
 lY:∀x∈P,∀y∈x.aK,jq 1000000000 y
structure gx(D:List aT):Prop where
 len:∀d∈D,d.aK.length+d.bx.length<900000000
 lY:∀d∈D,∀y∈d.aK++d.bx,jq 1000000000 y.cU
theorem gx.tP{D:agK aT}(h:gx D){d:aT}(hd:d∈D):∀y∈d.aK,jq 1000000000 y.cU:=λy hy=>h.lY d hd y (List.mem_append_left _ hy)
theorem AB{α:Type}{l:agK α}{i:Nat}{d:α}(h:l[i]?=some d):d∈l:=af8 h
theorem Qp(N:Nat)(p:aB)(s:agL)(hD:gx p.aw):∀(l:agK ck)(k:Nat),mM l->AE N p s l k=some (dM l p.aw s)
 |[],k,_=>by
  rw[AE,aaw,afU];unfold dM vX;rw[List.find?_nil];rcases Om (ng s) p.aw with⟨h1,h2⟩|⟨i,d,h1,h2,h3,_⟩
  ·rw[h1,h2];rfl
  ·rw[h1,h3];simp only[agf];rw[show decide ((i:Int)>=0)=true from agD (by omega),agn,h2];simp only[cond_true,afU];rw[Me N d _ _ _ (by have:=hD.len d (AB h2);simp only[af7];omega) (hD.tP (AB h2)),List.nil_append]
 |x::l,k,hP=>by
  rw[AE,Qp N p s hD l (k+1) ⟨λy hy=>hP.len y (af4 _ hy),λy hy=>hP.lY y (af4 _ hy)⟩];unfold dM;rw[List.find?_cons];cases bL x.ak==bL s with
  |true=>simp only[cond_true];rw[aew N _ (hP.len x af1) (hP.lY x af1)];rfl
  |false=>rfl
theorem Mr(N:Nat)(p:aB)(s:agL)(hP:mM p.aC)(hD:gx p.aw):Ev N p s=some (dM p.aC p.aw s):=Qp N p s hD p.aC 0 hP
theorem PL(N:Nat)(s:agL):∀(D:agK aT)(k:Nat),gx D->Gn N s D k=some (dM [] D s)
 |[],_,_=>rfl
 |d::D,k,h=>by
  rw[Gn,PL N s D (k+1) ⟨λy hy=>h.len y (af4 _ hy),λy hy=>h.lY y (af4 _ hy)⟩];unfold dM;rw[List.find?_nil,List.find?_cons];unfold ng;cases bL d.ak==bL s with
  |true=>
   simp only[cond_true];rw[Sr N d _ _ _ (by have:=h.len d af1;simp only[af7];omega),List.nil_append]
  |false=>rfl
theorem OJ(N:Nat)(s:agL)(p:aB)(hD:gx p.aw):∀(l:agK ck)(k:Nat),xH N s p l k=some (dM l p.aw s)
 |[],k=>by rw[xH,PL N s _ _ hD]
 |x::l,k=>by
  rw[xH,OJ N s p hD l];unfold dM;rw[List.find?_cons];cases bL x.ak==bL s<;>rfl
theorem By(N:Nat)(p:aB)(s:agL)(hD:gx p.aw):w9 N p s=some (dM p.aC p.aw s):=OJ N s p hD p.aC 0
structure VN(m:List (ByteArray×Int))(V:List ByteArray):Prop where
 val:∀s,(dv m s 0==0)= !b8 V s
 len:m.length<=V.length
theorem VN.add{m:agK (agL×Int)}{V:agK agL}(h:VN m V)(s:agL)(k:Int)(hk:(k==0)=false):VN ((s,k)::m) (V++[s]):=by
 refine⟨λx=> ?_,by have:=h.len;simp only[afY,afW,af7];omega⟩;rw[Fg,jm,y0];cases e:bL s==bL x with
 |true=>rw[cond_true,hk,Bool.or_true];rfl
 |false=>rw[cond_false,h.val,Bool.or_false]
def kD(V:agK agL)(l:aI):Int:=bif j0 V l then 0 else 9
theorem Nt(N:Nat){m:agK (agL×Int)}{V:agK agL}(h:VN m V):∀(l:agK aR)(k:Nat),Dd N m l k=some (bif l.all (λm=>b8 V m.ak)then 0 else 9)
 |[],_=>rfl
 |x::l,k=>by
  rw[Dd,h.val,agG,Nt N h l];cases b8 V x.ak<;>rfl
theorem Ld(N:Nat){m:agK (agL×Int)}{V:agK agL}(h:VN m V)(l:aI)(p:aB):AL N l p m=some (kD V l):=Nt N h l.xL 0
def nR(V:agK agL)(P:agK ck)(D:agK aT)(x:bl):Int:=
 bif bL x.b7==[]then kD V x.aP else bif (dM P D x.b7).2.2 then bif (dM P D x.b7).1.bO !=3 then 10 else bif x.bK.length==(dM P D x.b7).2.1.length then eB (kD V) x.bK else 11 else 9
theorem yC(a b:Nat):((a:Int) !=(b:Int))= !(a==b):=Tb a b
theorem QL(N:Nat){m:agK (agL×Int)}{V:agK agL}(h:VN m V)(p:aB):∀(l:agK aI)(k:Nat),Bz N p m l k=some (eB (kD V) l)
 |[],_=>rfl
 |x::l,k=>by
  rw[Bz,Ld N h,afU,eB,QL N h p l];cases kD V x !=0<;>rfl
theorem Yi(N:Nat){m:agK (agL×Int)}{V:agK agL}(h:VN m V)(p:aB)(hP:mM p.aC)(hD:gx p.aw)(x:bl):ET N x p m=some (nR V p.aC p.aw x):=by
 unfold ET nR;rw[po,Ld N h,Mr N p _ hP hD,afU,afU,yC,QL N h p];cases bL x.b7==[]<;>cases (dM p.aC p.aw x.b7).2.2<;>cases (dM p.aC p.aw x.b7).1.bO !=3<;>cases x.bK.length==(dM p.aC p.aw x.b7).2.1.length<;>rfl
def oJ(V:agK agL)(P:agK ck)(D:agK aT)(e:ao):Int:=
 bif (dM P D e.ak).2.2 then bif e.xIdx.length==(dM P D e.ak).2.1.length then eB (nR V P D) e.xIdx else 11 else 9
def sK(t:bz)(x:Int):bz×Int:=(bif x !=0 then eR else t,x)
theorem Pt(N:Nat){m:agK (agL×Int)}{V:agK agL}(h:VN m V)(p:aB)(hP:mM p.aC)(hD:gx p.aw)(q:bz×agK aI×Bool):∀(l:agK bl)(k:Nat),EF N q p m l k=some (sK q.1 (eB (nR V p.aC p.aw) l))
 |[],_=>rfl
 |x::l,k=>by
  rw[EF,Yi N h p hP hD,afU,eB,Pt N h p hP hD q l];unfold sK;cases e:nR V p.aC p.aw x !=0 with
  |true=>simp only[cond_true];rw[e];rfl
  |false=>rfl
theorem TQ(N:Nat){m:agK (agL×Int)}{V:agK agL}(h:VN m V)(p:aB)(hP:mM p.aC)(hD:gx p.aw)(e:ao):Fw N e p m=some (sK (dM p.aC p.aw e.ak).1 (oJ V p.aC p.aw e)):=by
 unfold Fw oJ;rw[Mr N p _ hP hD,afU,yC,Pt N h p hP hD];cases (dM p.aC p.aw e.ak).2.2<;>cases e.xIdx.length==(dM p.aC p.aw e.ak).2.1.length<;>rfl
theorem SA(N:Nat)(V:agK agL)(p:aB):∀(l:agK aI)(k:Nat),FH N V p l k=some (eB (kD (V++p.aD)) l)
 |[],_=>rfl
 |x::l,k=>by
  rw[FH,HW,afU,eB,SA N V p l];unfold kD;cases j0 (V++p.aD) x<;>rfl
theorem GJ(N:Nat)(V:agK agL)(p:aB)(l:agK aI):Dr N p V l=some (eB (kD (V++p.aD)) l):=SA N V p l 0
theorem L3(N:Nat)(V:agK agL)(p:aB)(hD:gx p.aw)(q:bz×agK aI×Bool):∀(l:agK bl)(k:Nat),zV N q V p l k=some (sK q.1 (eB (nR (V++p.aD) p.aC p.aw) l))
 |[],_=>rfl
 |x::l,k=>by
  rw[zV,po,HW,By N p _ hD,afU,afU,yC,GJ,afU,eB,L3 N V p hD q l];unfold sK nR kD;rw[show(x.bK.length==(dM p.aC p.aw x.b7).2.1.length)=((dM p.aC p.aw x.b7).2.1.length==x.bK.length)from Bool.eq_iff_iff.2 (by rw[beq_iff_eq,beq_iff_eq];exact eq_comm)];cases bL x.b7==[]with
  |true=>cases j0 (V++p.aD) x.aP<;>rfl
  |false=>
   cases (dM p.aC p.aw x.b7).2.2 with
   |false=>rfl
   |true=>
    cases (dM p.aC p.aw x.b7).1.bO !=3 with
    |true=>rfl
    |false=>
     cases (dM p.aC p.aw x.b7).2.1.length==x.bK.length with
     |false=>rfl
     |true=>
      simp only[cond_true,cond_false,Bool.not_true];cases e:eB (λl=>bif j0 (V++p.aD) l then 0 else 9) x.bK !=0 with
      |true=>simp only[cond_true];first|rw[e];rfl|simp [e]
      |false=>rfl
theorem Pm(N:Nat)(V:agK agL)(p:aB)(hD:gx p.aw)(e:ao):Dl N p V e=some (sK (dM p.aC p.aw e.ak).1 (oJ (V++p.aD) p.aC p.aw e)):=by
 unfold Dl oJ;rw[By N p _ hD,afU,yC,L3 N V p hD];rw[show((dM p.aC p.aw e.ak).2.1.length==e.xIdx.length)=(e.xIdx.length==(dM p.aC p.aw e.ak).2.1.length)from Bool.eq_iff_iff.2 (by rw[beq_iff_eq,beq_iff_eq];exact eq_comm)];cases (dM p.aC p.aw e.ak).2.2<;>cases e.xIdx.length==(dM p.aC p.aw e.ak).2.1.length<;>rfl
def py(e:ao):Prop:=∀x∈c9 e,mf x=true/\jd x=true
theorem py.arg{e x:ao}(h:py e)(hx:x∈e.ba):py x:=λy hy=>h y (C9 hx hy)
theorem py.len{e:ao}(h:py e):(e.ba.length:Int)=nG e.aM:=by
 have:=(h e af1).1;unfold mf at this;rw[afX,beq_iff_eq]at this;exact this.1
theorem py.op{e:ao}(h:py e):1<=e.aM/\e.aM<=18:=by
 have:=(h e af1).2;unfold jd at this;simp only[afX,decide_eq_true_eq]at this;exact⟨this.1,this.2.1⟩
theorem Rx:∀l:agK ao,iU l=0->∀x∈l,lS x=0
 |[],_,x,hx=>by cases hx
 |y::l,h,x,hx=>by
  rw[iU]at h;cases e:lS y !=0 with
  |true=>rw[e,cond_true]at h;rw[h]at e;cases e
  |false=>
   rw[e,cond_false]at h;rcases agq.1 hx with rfl|hx
   ·exact fz e
   ·exact Rx l h x hx
theorem Kb{e:ao}(h:nW e=0):∀x∈c9 e,lS x=0:=λx hx=>by
 unfold nW at h;cases h1:decide (40<gK 40 e)with
 |true=>rw[h1]at h;cases h
 |false=>
  cases h2:decide (2000<(c9 e).length)with
  |true=>rw[h1,h2]at h;cases h
  |false=>rw[h1,h2]at h;exact Rx (c9 e) h x hx
theorem Hw{x:ao}(h:lS x=0):jd x=true/\oF x=true/\mf x=true/\me x=true/\pa x=true:=by
 unfold lS at h;cases p:jd x<;>cases q:oF x<;>cases r:mf x<;>cases s:me x<;>cases t:pa x<;>rw[p,q,r,s,t]at h<;>first|exact⟨rfl,rfl,rfl,rfl,rfl⟩|(exact absurd h (by decide))
theorem adn{e:ao}(h:nW e=0):py e:=λx hx=>⟨(Hw (Kb h x hx)).2.2.1,(Hw (Kb h x hx)).1⟩
section
variable {α:Type}
theorem aey{l:agK α}(h:(l.length:Int)=1):∃a,l=[a]:=by
 match l,h with
 |[a],_=>exact⟨a,rfl⟩
 |[],h=>simp at h
 |a::b::l,h=>simp at h;omega
theorem abS{l:agK α}(h:(l.length:Int)=2):∃a b,l=[a,b]:=by
 match l,h with
 |[a,b],_=>exact⟨a,b,rfl⟩
 |[],h=>simp at h
 |[a],h=>simp at h
 |a::b::c::l,h=>simp at h;omega
theorem abc{l:agK α}(h:(l.length:Int)=3):∃a b c,l=[a,b,c]:=by
 match l,h with
 |[a,b,c],_=>exact⟨a,b,c,rfl⟩
 |[],h=>simp at h
 |[a],h=>simp at h
 |[a,b],h=>simp at h
 |a::b::c::d::l,h=>simp at h;omega
end
def sR(a b:agM (bz×Int)):Prop:=∃t t' x,a=some (t,x)/\b=some (t',x)/\(x=0->t=t')
theorem Ro{α:Type}(f:α->Int)(x:α):eB f [x]=f x:=by
 rw[eB,eB];cases e:f x !=0 with
 |true=>rfl
 |false=>exact(fz e).symm
theorem YN{op:Int}(h1:1<=op)(h2:op<=18):(op=1\/op=2\/op=3\/op=8\/op=11\/op=12)\/(op=4\/op=5\/op=6\/op=7\/op=9\/op=10)\/(op=13\/op=14\/op=15)\/(op=16\/op=17\/op=18):=by omega
section
variable {N:Nat} {m:agK (agL×Int)} {vars:agK agL} {p p':aB}
theorem ae9(hV:VN m (vars++p'.aD))(hP:p.aC=p'.aC)(ud:p.aw=p'.aw)(pI:mM p.aC)(lU:gx p.aw)(e:ao)(h1:1<=e.aM)(h2:e.aM<=18)(acc:agK bz)(hl:(acc.length:Int)=nG e.aM)
 (r1:ao->aB->agK (agL×Int)->agM (bz×Int)) (r2:aB->agK agL->ao->agM (bz×Int)) (k:Nat):
 sR (sJ N e p m r1 [] k acc) (lF N e p' vars r2 [] k acc):=by
 rw[sJ,lF];unfold BQ zd yw Az;rcases YN h1 h2 with(h|h|h|h|h|h)|(h|h|h|h|h|h)|(h|h|h)|(h|h|h)
 ·rw[h];exact⟨_,_,_,rfl,rfl,λ_=>rfl⟩
 ·rw[h,Ld N hV,GJ,Ro];exact⟨_,_,_,rfl,rfl,λ_=>rfl⟩
 ·rw[h,TQ N hV p pI lU,Pm N vars p' (ud▸lU),hP,ud];exact⟨_,_,_,rfl,rfl,λ_=>rfl⟩
 ·rw[h]at hl;obtain⟨a,rfl⟩:=aey hl;rw[h];exact⟨_,_,_,rfl,rfl,λ_=>rfl⟩
 ·rw[h]at hl;obtain⟨a,b,c,rfl⟩:=abc hl;rw[h];show sR (Option.bind (bif _ then _ else _) _) (bif _ then _ else _);cases ((b.bO==c.bO)&&((b.bZ==c.bZ)&&((b.cu==c.cu)&&((b.ct==c.ct)&&((b.cv==c.cv)&&true)))))with
  |true=>exact⟨_,_,_,rfl,rfl,λ_=>rfl⟩
  |false=>exact⟨_,_,_,rfl,rfl,λh=>by cases h⟩
 ·rw[h];exact⟨_,_,_,rfl,rfl,λ_=>rfl⟩
 all_goals first
  |(rw[h];exact⟨_,_,_,rfl,rfl,λ_=>rfl⟩)
  |(rw[h]at hl
    obtain⟨a,b,rfl⟩:=abS hl;rw[h];show sR (Option.bind (bif _ then _ else _) _) (bif _ then _ else _);cases ((a.bO==b.bO)&&((a.bZ==b.bZ)&&((a.cu==b.cu)&&((a.ct==b.ct)&&((a.cv==b.cv)&&true)))))with
    |true=>exact⟨_,_,_,rfl,rfl,λ_=>rfl⟩
    |false=>exact⟨_,_,_,rfl,rfl,λh=>by cases h⟩)
theorem Mb(e:ao)(r1:ao->aB->agK (agL×Int)->agM (bz×Int))(r2:aB->agK agL->ao->agM (bz×Int)):
 ∀(l:agK ao)(k:Nat)(acc:agK bz),acc.length+l.length<=1000000000->(∀x∈l,sR (r1 x p m) (r2 p' vars x))->
  (∀(nX:agK bz)(k':Nat),nX.length=acc.length+l.length->sR (sJ N e p m r1 [] k' nX) (lF N e p' vars r2 [] k' nX))->
  sR (sJ N e p m r1 l k acc) (lF N e p' vars r2 l k acc)
 |[],k,acc,_,_,he=>he acc k rfl
 |x::l,k,acc,hb,hx,he=>by
  rw[sJ,lF];obtain⟨t,t',z,e1,e2,e3⟩:=hx x af1;rw[e1,e2,afU,afU];dsimp only;cases hz:z !=0 with
  |true=>exact⟨_,_,_,rfl,rfl,λ_=>rfl⟩
  |false=>
   obtain rfl:=e3 (fz hz);simp only[afY]at hb;rw[jP (by omega)];exact Mb e r1 r2 l (k+1) (acc++[t]) (by simp only[afW,afY,af7];omega) (λy hy=>hx y (af4 _ hy)) λnX k' h'=>he nX k' (by simp only[afW,afY,af7]at*;omega)
theorem NS(hV:VN m (vars++p'.aD))(hP:p.aC=p'.aC)(ud:p.aw=p'.aw)(pI:mM p.aC)(lU:gx p.aw):
 ∀(d:Nat)(e:ao),SizeOf.sizeOf e<d->py e->sR (tw N d e p m) (oh N d p' vars e)
 |0,_,h,_=>absurd h (ago _)
 |d+1,e,h,hr=>by
  rw[tw,oh];have hlen:=hr.len;have h3:(e.ba.length:Int)<=3:=by
    rw[hlen];unfold nG;cases (e.aM==1||(e.aM==2||e.aM==3))<;>cases (e.aM==8||(e.aM==12||e.aM==18))<;>cases e.aM==11<;>decide
  refine Mb e _ _ e.ba 0 [] (by simp only[af7];omega) (λx hx=>NS hV hP ud pI lU d x (by have:=ub hx;omega) (hr.arg hx)) λnX k' h'=> ?_;exact ae9 hV hP ud pI lU e hr.op.1 hr.op.2 nX (by rw[h',<-hlen];simp only[af7,agf]) _ _ k'
end
theorem YU{m:agK (agL×Int)}{V W:agK agL}(h:VN m V)(e:∀s,b8 W s=b8 V s)(hl:V.length<=W.length):VN m W:=⟨λs=>by rw[h.val,e],agd h.len hl⟩
theorem R4(N:Nat)(e:ao)(p:aB):∀(l:agK agL)(k:Nat)(m:agK (agL×Int))(V:agK agL),VN m V->V.length+l.length<1000000000->∃m' k',VN m' (V++l)/\tQ N e p l k m=tQ N e p [] k' m'
 |[],k,m,V,h,_=>⟨m,k,by rw[agh];exact h,rfl⟩
 |s::l,k,m,V,h,hb=>by
  simp only[afY]at hb;rw[tQ,show Nat.blt m.length 9223372036854775807=true from Nat.ble_eq_true_of_le (by have:=h.len;omega),cond_true];obtain⟨m',k',h1,h2⟩:=R4 N e p l (k+1) _ _ (h.add s 3 rfl) (by simp only[afW,afY,af7];omega);exact⟨m',k',by rw[agc]at h1;exact h1,h2⟩
theorem Tu(N:Nat)(e:ao)(p:aB)(vars:agK agL):∀(l:agK agL)(k:Nat)(m:agK (agL×Int))(V:agK agL),VN m V->V.length+l.length<1000000000->∃m',VN m' (V++l)/\Ch N e p vars l k m=tQ N e p vars 0 m'
 |[],k,m,V,h,_=>⟨m,by rw[agh];exact h,rfl⟩
 |s::l,k,m,V,h,hb=>by
  simp only[afY]at hb;rw[Ch,show Nat.blt m.length 9223372036854775807=true from Nat.ble_eq_true_of_le (by have:=h.len;omega),cond_true];obtain⟨m',h1,h2⟩:=Tu N e p vars l (k+1) _ _ (h.add s 1 rfl) (by simp only[afW,afY,af7];omega);exact⟨m',by rw[agc]at h1;exact h1,h2⟩
theorem Zu(N:Nat)(hN:2147483648<N)(p p':aB)(vars:agK agL)(e:ao)(hs:SizeOf.sizeOf e<N)(h:mZ e)(hS:p.aD=p'.aD)(hP:p.aC=p'.aC)(ud:p.aw=p'.aw)(pI:mM p.aC)(lU:gx p.aw)
 (hl:p.aD.length+vars.length<1000000000):∃t x,CI N p vars e=some (t,x)/\ve N p' vars e=some (t,x)/\(x=0->nW e=0):=by
 unfold CI ve;rw[Z7 N hN e h,aeX N hN e hs h,afU,afU];cases hv:nW e !=0 with
 |true=>exact⟨_,_,rfl,rfl,λh0=>h0⟩
 |false=>
  have hv:=fz hv;simp only[cond_false];rw[Ml,Kj,afU,afU];cases pF e with
  |true=>exact⟨_,_,rfl,rfl,λh0=>by cases h0⟩
  |false=>
   simp only[cond_false];obtain⟨m1,h1,e1⟩:=Tu N e p vars p.aD 0 [] [] ⟨λ_=>rfl,af6 _⟩ (by simp only[af7];omega);obtain⟨m2,k2,h2,e2⟩:=R4 N e p vars 0 m1 _ h1 (by simp only[af7,List.nil_append];omega);rw[e1,e2,tQ];have hV:VN m2 (vars++p'.aD):=YU h2 (λs=>by rw[List.nil_append,jm,jm,hS,Bool.or_comm]) (by rw[hS];simp only[afW,List.nil_append];omega);unfold LX AV;obtain⟨t,t',x,a1,a2,a3⟩:=NS (N:=N) hV hP ud pI lU N e hs (adn hv);rw[a1,a2,afU,afU];dsimp only;cases hx:x !=0 with
   |true=>exact⟨_,_,rfl,rfl,λ_=>hv⟩
   |false=>obtain rfl:=a3 (fz hx);exact⟨_,_,rfl,rfl,λ_=>hv⟩
theorem FO{y:ao}:∀{l:agK ao},y∈jF l->∃x∈l,y∈c9 x
 |[],h=>by rw[jF]at h;cases h
 |x::l,h=>by
  rw[ym]at h;rcases agy.1 h with h|h
  ·exact⟨x,af1,h⟩
  ·obtain⟨z,h1,h2⟩:=FO h;exact⟨z,af4 _ h1,h2⟩
theorem adq{t t':bz}{x:Int}(h:sK t x=(t',0)):x=0:=congrArg Prod.snd h
theorem Tt(N:Nat)(e:ao)(p:aB)(vars:agK agL)(rec:aB->agK agL->ao->agM (bz×Int)):
 ∀(l:agK ao)(k:Nat)(acc:agK bz)(t:bz),lF N e p vars rec l k acc=some (t,0)->
  (∀x∈l,∃t',rec p vars x=some (t',0))/\∃k' nX,lF N e p vars rec [] k' nX=some (t,0)
 |[],k,acc,t,h=>⟨λ_ hx=>(by cases hx),k,acc,h⟩
 |x::l,k,acc,t,h=>by
  rw[lF]at h;cases hr:rec p vars x with
  |none=>rw[hr]at h;cases h
  |some q=>
   rw[hr,afU]at h;cases hz:q.2 !=0 with
   |true=>rw[hz,cond_true]at h;rw[(Prod.mk.inj (age h)).2]at hz;cases hz
   |false=>
    rw[hz,cond_false]at h;cases hb:Nat.ble ((acc.length+1)*40) 140737488355328 with
    |false=>rw[hb]at h;cases h
    |true=>
     rw[hb,cond_true]at h;obtain⟨h1,h2⟩:=Tt N e p vars rec l (k+1) (acc++[q.1]) t h;refine⟨λy hy=> ?_,h2⟩;rcases agq.1 hy with rfl|hy
     ·exact⟨q.1,by rw[hr,<-fz hz]⟩
     ·exact h1 y hy
theorem N6(N:Nat)(p:aB)(vars:agK agL)(lU:gx p.aw):∀(d:Nat)(e:ao)(t:bz),oh N d p vars e=some (t,0)->∀y∈c9 e,(y.aM=3->oJ (vars++p.aD) p.aC p.aw y=0)/\(y.aM=2->kD (vars++p.aD) y.aP=0)
 |0,e,t,h=>by cases h
 |d+1,e,t,h=>by
  rw[oh]at h;obtain⟨h1,k',nX,h2⟩:=Tt N e p vars _ _ _ _ _ h;intro y hy;rcases agq.1 hy with rfl|hy
  ·refine⟨λfm=> ?_,λfm=> ?_⟩
   ·rw[lF,fm,Pm N vars p lU]at h2;exact adq (age h2)
   ·rw[lF,fm,GJ,Ro]at h2;have h3:=congrArg Prod.snd (age h2);exact h3
  ·obtain⟨x,hx,hy⟩:=FO hy;obtain⟨t',h3⟩:=h1 x hx;exact N6 N p vars lU d x t' h3 y hy
theorem acI(N:Nat)(p:aB)(vars:agK agL)(lU:gx p.aw)(e:ao)(t:bz)(h:ve N p vars e=some (t,0)):∀y∈c9 e,(y.aM=3->oJ (vars++p.aD) p.aC p.aw y=0)/\(y.aM=2->kD (vars++p.aD) y.aP=0):=by
 unfold ve at h;cases e1:AW N e with
 |none=>rw[e1]at h;cases h
 |some a=>
  rw[e1,afU]at h;cases h1:a !=0 with
  |true=>rw[h1,cond_true]at h;rw[(Prod.mk.inj (age h)).2]at h1;cases h1
  |false=>
   rw[h1,cond_false,Kj,afU]at h;cases h2:pF e with
   |true=>rw[h2]at h;cases h
   |false=>
    rw[h2,cond_false]at h;cases e3:AV N p vars e with
    |none=>rw[e3]at h;cases h
    |some q=>
     rw[e3,afU]at h;cases h4:q.2 !=0 with
     |true=>rw[h4,cond_true]at h;rw[(Prod.mk.inj (age h)).2]at h4;cases h4
     |false=>exact N6 N p vars lU N e q.1 (by unfold AV at e3;rw[e3,<-fz h4])
structure Bd(N:Nat)(p:aB):Prop where
 s:p.aD.length<=1000
 w:p.bX.length<=1000
 q:p.aC.length<=1000
 d:p.aw.length<=1000
 o:p.cd.length<=1000
 P:mM p.aC
 D:gx p.aw
 W:∀c∈p.bX,jq 1000000000 c.aP
 E:∀d∈p.aw,mZ d.bY/\SizeOf.sizeOf d.bY<N
def dY(d:aT):agK agL:=(d.aK++d.bx).map (·.ak)
structure u7(p:aB)(k:Nat)(d:aT):Prop where
 par:b8 (p.aC.map (·.ak)) d.ak=false
 body:nW d.bY=0
 NB:mg p.aD [] (d.aK++d.bx)=0
 reads:∀y∈c9 d.bY,y.aM=3->oJ (dY d++p.aD) p.aC (p.aw.take k) y=0
 qF:∀y∈c9 d.bY,y.aM=2->kD (dY d++p.aD) y.aP=0
 len:d.aK.length<=6/\d.bx.length<=6
 afM:b8 ((p.aw.take k).map (·.ak)) d.ak=false
theorem Mz{D:agK aT}(h:gx D)(k:Nat):gx (D.take k):=⟨λd hd=>h.len d (List.mem_of_mem_take hd),λd hd=>h.lY d (List.mem_of_mem_take hd)⟩
section
variable {N:Nat} {p:aB}
theorem aek(hN:2147483648<N)(B:Bd N p){m:agK (agL×Int)}{T:agK agL}{k:Nat}{d:aT}(h:KN m p.aD T)(hd:p.aw[k]?=some d)(hT:T.length<=1000000)(hq:∀s,b8 (p.aC.map (·.ak)++(p.aw.take k).map (·.ak)) s=true->b8 T s=true):
 ∃x m',DQ N (k:Int) p m=some (x,m')/\uV N p (k:Int) (p.aD++T)=some x/\(x=0->KN m' p.aD (T++[d.ak])/\u7 p k d):=by
 have iF:=AB hd;have afy:=B.D.len d iF;have hlen:d.aK.length+d.bx.length<1000000000:=by omega
 have QE:∀x∈d.aK++d.bx,iG x.cU:=λx hx=>(B.D.lY d iF x hx).ok;have hs:=B.s;unfold DQ uV;rw[show decide ((0:Int)<=(k:Int))=true from agD (by omega),agn,hd,cond_true,cond_true,afU,afU,
  JG N (by omega) _ 2 p h (by omega),xB N (by omega),afU,afU,W2,I7,afU,afU,Ac,Ac]
 dsimp only;cases e:fe (p.aD++T) d.ak !=0 with
 |true=>exact⟨_,_,rfl,rfl,λh0=>by rw[h0]at e;cases e⟩
 |false=>
  have e0:=fz e;have k1:=h.S1 (yc e0).2;rw[e0];simp only[cond_false,agF,cond_true];cases gp d.aH with
  |false=>exact⟨_,_,rfl,rfl,λh0=>by cases h0⟩
  |true=>
   simp only[cond_true];rw[show(bif !decide (d.aK.length<=6)then some true else some !decide (d.bx.length<=6))=some (!(decide (d.aK.length<=6)&&decide (d.bx.length<=6))) by cases decide (d.aK.length<=6)<;>cases decide (d.bx.length<=6)<;>rfl,afU];cases e6:decide (d.aK.length<=6)&&decide (d.bx.length<=6)with
   |false=>exact⟨_,_,rfl,rfl,λh0=>by cases h0⟩
   |true=>
    rw[afX,decide_eq_true_eq,decide_eq_true_eq]at e6;simp only[cond_true,Bool.not_true,cond_false];rw[jP (by omega),jP (by omega),ab8 N (by omega) d p k1 QE hlen,Vt N (by omega) _ _ QE (by simp only[afW];omega)];simp only[afU,cond_true,bne_self_eq_false,cond_false];cases ea:mg p.aD [] (d.aK++d.bx) !=0 with
    |true=>exact⟨_,_,rfl,rfl,λh0=>by rw[h0]at ea;cases ea⟩
    |false=>
     simp only[cond_false];rw[ZN,Uu,afU,afU];cases ef:zQ d !=0 with
     |true=>exact⟨_,_,rfl,rfl,λh0=>by rw[h0]at ef;cases ef⟩
     |false=>
      simp only[cond_false];have hk:k<p.aw.length:=by
       by_cases hk:k<p.aw.length
       ·exact hk
       ·rw[ags (by omega)]at hd;cases hd
      rw[show decide (k<=p.aw.length)=true from agD (by omega),cond_true,cond_true,P9 N d hlen,NC N d hlen,afU,afU,agv];obtain⟨t,x,a1,a2,a3⟩:=Zu N hN ⟨p.aD,p.bX,p.aC,p.aw.take k,p.cd⟩ ⟨p.aD,[],p.aC,p.aw.take k,[]⟩ ((d.aK++d.bx).map (·.ak)) d.bY (B.E d iF).2 (B.E d iF).1 rfl rfl rfl B.P (Mz B.D k)
        (by simp only[af0,afW];omega)
      rw[a1,a2,afU,afU];dsimp only;cases ex:x !=0 with
      |true=>exact⟨_,_,rfl,rfl,λh0=>by rw[h0]at ex;cases ex⟩
      |false=>
       have x0:=fz ex;simp only[cond_false];cases ((t.bO==d.aH.bO)&&((t.bZ==d.aH.bZ)&&((t.cu==d.aH.cu)&&((t.ct==d.aH.ct)&&((t.cv==d.aH.cv)&&true)))))with
       |false=>exact⟨_,_,rfl,rfl,λh0=>by cases h0⟩
       |true=>
        have eo:b8 (p.aC.map (·.ak)++(p.aw.take k).map (·.ak)) d.ak=false:=by
         cases eq:b8 (p.aC.map (·.ak)++(p.aw.take k).map (·.ak)) d.ak with
         |false=>rfl
         |true=>
          have:=(yc e0).2;rw[jm,hq _ eq,Bool.or_true]at this;cases this
        rw[jm,agJ]at eo;rw[x0]at a2;have tr:=acI N _ _ (Mz B.D k) d.bY t a2;exact⟨_,_,rfl,rfl,λ_=>⟨k1,eo.1,a3 x0,fz ea,λy hy=>(tr y hy).1,λy hy=>(tr y hy).2,e6,eo.2⟩⟩
def u6(p:aB):Bool:=decide (p.aD.length<=64)&&(decide (p.aC.length<=64)&&(decide (p.aw.length<=64)&&(decide (p.cd.length<=64)&&decide (p.bX.length<=256))))
theorem abD:DV N p=some (u6 p):=by
 unfold DV u6;simp only[Df];rw[show decide (((max (max (max p.aD.length p.aC.length) p.aw.length) p.cd.length:Nat):Int)<=64)=decide (max (max (max p.aD.length p.aC.length) p.aw.length) p.cd.length<=64)from sk _ 64,show decide ((p.bX.length:Int)<=256)=decide (p.bX.length<=256)from sk _ 256];rw[show decide (max (max (max p.aD.length p.aC.length) p.aw.length) p.cd.length<=64)=(decide (p.aD.length<=64)&&(decide (p.aC.length<=64)&&(decide (p.aw.length<=64)&&decide (p.cd.length<=64)))) by
  rw[Bool.eq_iff_iff];simp only[afX,decide_eq_true_iff];omega]
 cases decide (p.aD.length<=64)<;>cases decide (p.aC.length<=64)<;>cases decide (p.aw.length<=64)<;>cases decide (p.cd.length<=64)<;>rfl
theorem N3:(bif (decide ((p.aD.length:Int)>64))then some true else(bif (decide ((p.aC.length:Int)>64))then some true else(bif (decide ((p.aw.length:Int)>64))then some true else(bif (decide ((p.cd.length:Int)>64))then some true else some (decide ((p.bX.length:Int)>256))))))=some (!u6 p):=by
 unfold u6;rw[show ∀n:Nat,decide ((n:Int)>64)= !decide (n<=64)from λn=>iI n 64];rw[show decide ((p.aC.length:Int)>64)= !decide (p.aC.length<=64)from iI _ 64,show decide ((p.aw.length:Int)>64)= !decide (p.aw.length<=64)from iI _ 64,show decide ((p.cd.length:Int)>64)= !decide (p.cd.length<=64)from iI _ 64,show decide ((p.bX.length:Int)>256)= !decide (p.bX.length<=256)from iI _ 256];cases decide (p.aD.length<=64)<;>cases decide (p.aC.length<=64)<;>cases decide (p.aw.length<=64)<;>cases decide (p.cd.length<=64)<;>rfl
def mo:agK agL->agK agL->Int
 |_,[]=>0
 |S,s::l=>bif fe S s !=0 then fe S s else mo (S++[s]) l
theorem KD(hN:16<N):∀(l:agK agL)(k:Nat)(m:agK (agL×Int))(S:agK agL),KN m S []->S.length+l.length<=1000->
 ∃m',KN m' (S++l) []/\CD N p l k m=bif mo S l !=0 then some (0,mo S l)else A9 N p m' p.bX 0
 |[],k,m,S,h,_=>⟨m,by rw[agh];exact h,rfl⟩
 |s::l,k,m,S,h,hb=>by
  simp only[afY]at hb;rw[CD,JG N hN s 1 p h (by simp only[af7];omega),afU,agh,mo];dsimp only;cases e:fe S s !=0 with
  |true=>
   obtain⟨m',h1,_⟩:=KD hN l k _ _ (h.qE s) (by simp only[afW,afY,af7];omega);refine⟨m',by rw[agc]at h1;exact h1,?_⟩;simp only[cond_true];rw[e];rfl
  |false=>
   rw[fz e];obtain⟨m',h1,h2⟩:=KD hN l (k+1) _ _ (h.qE s) (by simp only[afW,afY,af7];omega);exact⟨m',by rw[agc]at h1;exact h1,h2⟩
theorem TG{α:Type}{L l:agK α}{x:α}{k:Nat}(h:L.drop k=x::l):L.take (k+1)=L.take k++[x]:=by
 have:=aL h;rw[List.take_add_one,this];rfl
theorem kR{α:Type}{L l:agK α}{x:α}{k:Nat}(h:L.drop k=x::l):L.drop (k+1)=l:=by
 rw[<-List.drop_drop,h];rfl
theorem PG{α:Type}{L l:agK α}{x:α}{k:Nat}(h:L.drop k=x::l):k<L.length:=by
 by_cases hk:k<L.length
 ·exact hk
 ·rw[List.drop_eq_nil_of_le (by omega)]at h;cases h
theorem JA(hN:16<N):∀(l:agK agL)(k:Nat),p.aD.drop k=l->DP N p l k=some (mo (p.aD.take k) l)
 |[],_,_=>rfl
 |s::l,k,h=>by
  rw[DP,agn,show decide (k<=p.aD.length)=true from agD (by have:=PG h;omega),cond_true,agv,xB N hN,afU,mo,JA hN l (k+1) (kR h),TG h];cases fe (p.aD.take k) s !=0<;>rfl
theorem Mu(hN:16<N){m:agK (agL×Int)}(h:KN m p.aD []):∀(l:agK cC)(k:Nat),(∀c∈l,jq 1000000000 c.aP)->
 A9 N p m l k=bif eB (λc=>eG p.aD c.aP) l !=0 then some (1,eB (λc=>eG p.aD c.aP) l)else wH N p p.aC 0 2 m
 |[],_,_=>rfl
 |c::l,k,hc=>by
  have ok:iG c.aP:=(hc c af1).ok;have e1:Dp N c p m=some (eG p.aD c.aP):=by
   unfold Dp Kx;rw[KS N hN _ ok,afU,afU,Hz N hN _ p ok h];unfold eG;cases fZ c.aP<;>rfl
  rw[A9,e1,afU,eB,Mu hN h l (k+1) λy hy=>hc y (af4 _ hy)];cases e:eG p.aD c.aP !=0 with
  |true=>simp only[cond_true];rw[e];rfl
  |false=>rfl
theorem IZ(hN:16<N)(hs:p.aD.length<=1000):∀(l:agK cC)(k:Nat),(∀c∈l,jq 1000000000 c.aP)->
 yg N p l k=bif eB (λc=>eG p.aD c.aP) l !=0 then some (1,eB (λc=>eG p.aD c.aP) l)else qI N p p.aC 0 p.aD 2
 |[],_,_=>by
  rw[yg,jP (by omega)];rfl
 |c::l,k,hc=>by
  rw[yg,Ik N hN _ (hc c af1).ok,afU,eB,IZ hN hs l (k+1) λy hy=>hc y (af4 _ hy)];cases e:eG p.aD c.aP !=0 with
  |true=>simp only[cond_true];rw[e];rfl
  |false=>rfl
theorem Rn(hN:16<N)(hs:p.aD.length<=1000):∀(l:agK ck)(k:Nat)(at_:Int)(m:agK (agL×Int))(T:agK agL),KN m p.aD T->mM l->T.length+l.length<=1000->
 (∃a x,x≠0/\wH N p l k at_ m=some (a,x)/\qI N p l k (p.aD++T) at_=some (a,x))\/
 ∃at' m',KN m' p.aD (T++l.map (·.ak))/\wH N p l k at_ m=vJ N p p.aw 0 at' m'/\qI N p l k (p.aD++T) at_=oU N p p.aw 0 (p.aD++(T++l.map (·.ak))) at'
 |[],k,at_,m,T,h,_,_=> .inr ⟨at_,m,by rw[List.map_nil,agh];exact h,rfl,by rw[List.map_nil,agh];rfl⟩
 |x::l,k,at_,m,T,h,hl,hb=>by
  simp only[afY]at hb;obtain⟨m1,e1,e2⟩:=Ws N hN x p (λy hy=>(hl.lY x af1 y hy).ok) h (by omega);rw[wH,qI,e1,QF N hN x p.aD T (λy hy=>(hl.lY x af1 y hy).ok),afU,afU];dsimp only;cases e:oc p.aD T x !=0 with
  |true=>exact .inl ⟨_,_,λh0=>(by rw[h0]at e;cases e),rfl,rfl⟩
  |false=>
   simp only[cond_false];rw[jP (by simp only[afW];omega),cond_true,agc];have:=Rn hN hs l (k+1) (aN (at_+1)) m1 (T++[x.ak]) (e2 (fz e)) ⟨λy hy=>hl.len y (af4 _ hy),λy hy=>hl.lY y (af4 _ hy)⟩ (by simp only[afW,afY,af7];omega);rw[agc]at this;exact this
theorem RU(hN:2147483648<N)(B:Bd N p):∀(l:agK aT)(k:Nat)(at_:Int)(m:agK (agL×Int))(T:agK agL),p.aw.drop k=l->KN m p.aD T->(∀s,b8 (p.aC.map (·.ak)++(p.aw.take k).map (·.ak)) s=true->b8 T s=true)->T.length+l.length<=10000->
 (∃a x,x≠0/\vJ N p l k at_ m=some (a,x)/\oU N p l k (p.aD++T) at_=some (a,x))\/
 ((∀i d,k<=i->p.aw[i]?=some d->u7 p i d)/\∃at' m',KN m' p.aD (T++l.map (·.ak))/\vJ N p l k at_ m=xY N m' p p.cd 0 at'/\oU N p l k (p.aD++T) at_=rl N p p.cd 0 at')
 |[],k,at_,m,T,hd,h,_,_=>by
  refine .inr ⟨λi d hi hx=> ?_,at_,m,by rw[List.map_nil,agh];exact h,rfl,rfl⟩
  ·have:p.aw.length<=k:=by
    by_cases hk:p.aw.length<=k
    ·exact hk
    ·have:=congrArg List.length hd;simp at this;omega
   rw[ags (by omega)]at hx;cases hx
 |d::l,k,at_,m,T,hd,h,hq,hb=>by
  simp only[afY]at hb;have hs:=B.s;obtain⟨x,m1,e1,e2,e3⟩:=aek hN B h (aL hd) (by omega) hq;rw[vJ,oU,e1,e2,afU,afU];dsimp only;cases e:x !=0 with
  |true=>exact .inl ⟨_,_,λh0=>(by rw[h0]at e;cases e),rfl,rfl⟩
  |false=>
   obtain⟨k1,g1⟩:=e3 (fz e);simp only[cond_false];rw[jP (by simp only[afW];omega),cond_true,agc];have:=RU hN B l (k+1) (aN (at_+1)) m1 (T++[d.ak]) (kR hd) k1 (λs hs=>by
    rw[TG hd,List.map_append,<-agc,jm]at hs;rw[jm];rcases Bool.or_eq_true _ _▸hs with hs|hs
    ·rw[hq s hs];rfl
    ·rw[show b8 [d.ak] s=true from hs,Bool.or_true]) (by simp only[afW,afY,af7];omega)
   rw[agc]at this;rcases this with this|⟨g,this⟩
   ·exact .inl this
   ·refine .inr ⟨λi d' hi hx=> ?_,this⟩;by_cases lB:i=k
    ·subst lB;rw[aL hd]at hx;cases hx;exact g1
    ·exact g i d' (by omega) hx
theorem GD{α:Type}(f:α->agL)(s:agL):∀l:agK α,b8 (l.map f) s=(l.find? λx=>bL (f x)==bL s).isSome
 |[]=>rfl
 |x::l=>by
  rw[agl,List.find?_cons,show b8 (f x::l.map f) s=(bL (f x)==bL s||b8 (l.map f) s)from agH,GD f s l];cases bL (f x)==bL s<;>rfl
theorem Nf(P:agK ck)(D:agK aT)(s:agL):(dM P D s).2.2=b8 (P.map (·.ak)++D.map (·.ak)) s:=by
 unfold dM;rw[jm,GD,GD];show _=(_||(D.find? (ng s)).isSome);cases P.find? λx=>bL x.ak==bL s with
 |some x=>rfl
 |none=>cases D.find? (ng s)<;>rfl
theorem RE(hD:gx p.aw){m:agK (agL×Int)}(h:KN m p.aD (p.aC.map (·.ak)++p.aw.map (·.ak))):∀(l:agK agL)(k:Nat)(at_:Int),p.cd.drop k=l->
 ∃a x,xY N m p l k at_=some (a,x)/\rl N p l k at_=some (a,x)
 |[],_,_,_=>⟨_,_,rfl,rfl⟩
 |s::l,k,at_,hd=>by
  rw[xY,rl,h.ne2,By N p s hD,afU,Nf,agn,show decide (k<=p.cd.length)=true from agD (by have:=PG hd;omega),agv,aa4,xU,afU,afU];cases b8 (p.aC.map (·.ak)++p.aw.map (·.ak)) s with
  |false=>exact⟨_,_,rfl,rfl⟩
  |true=>
   cases b8 (p.cd.take k) s with
   |true=>exact⟨_,_,rfl,rfl⟩
   |false=>exact RE hD h l (k+1) (aN (at_+1)) (kR hd)
theorem Uk(hN:2147483648<N)(B:Bd N p):∃a x,DI N p=some (a,x)/\wv N p=some (a,x)/\(x=0->∀i d,p.aw[i]?=some d->u7 p i d):=by
 have hs:=B.s;have hq:=B.q;have hd:=B.d;unfold DI wv Bq;rw[abD,N3,afU,afU];cases u6 p with
 |false=>exact⟨_,_,rfl,rfl,λh=>by cases h⟩
 |true=>
  simp only[cond_true,Bool.not_true,cond_false];obtain⟨m1,k1,e1⟩:=KD (N:=N) (p:=p) (by omega) p.aD 0 [] [] KN.nil (by simp only[af7];omega);rw[List.nil_append]at k1;rw[e1,JA (by omega) p.aD 0 rfl,afU,List.take_zero];cases ez:mo [] p.aD !=0 with
  |true=>exact⟨_,_,rfl,rfl,λh0=>by rw[h0]at ez;cases ez⟩
  |false=>
   simp only[cond_false];rw[Mu (by omega) k1 _ _ B.W,IZ (by omega) hs _ _ B.W];cases ew:eB (λc=>eG p.aD c.aP) p.bX !=0 with
   |true=>exact⟨_,_,rfl,rfl,λh0=>by rw[h0]at ew;cases ew⟩
   |false=>
    simp only[cond_false];have pb:=Rn (N:=N) (p:=p) (by omega) hs p.aC 0 2 m1 [] k1 B.P (by simp only[af7];omega);rw[agh,List.nil_append]at pb;rcases pb with⟨a,x,hx,e1,e2⟩|⟨at',m2,k2,e1,e2⟩
    ·exact⟨a,x,e1,e2,λh0=>absurd h0 hx⟩
    ·rw[e1,e2];rcases RU hN B p.aw 0 at' m2 _ rfl k2 (λs h=>by rw[List.take_zero,List.map_nil,agh]at h;exact h) (by simp only[af0];omega)with⟨a,x,hx,e1,e2⟩|⟨g,H7,m3,k3,e1,e2⟩
     ·exact⟨a,x,e1,e2,λh0=>absurd h0 hx⟩
     ·rw[e1,e2];obtain⟨a,x,e1,e2⟩:=RE (N:=N) B.D k3 p.cd 0 H7 rfl;exact⟨a,x,e1,e2,λ_ i d h=>g i d (Nat.zero_le _) h⟩
end
theorem KX{l:agK agL}{s:agL}:b8 l s=true↔s∈l:=by
 unfold b8;rw[List.any_eq_true];constructor
 ·rintro⟨w,hw,e⟩;rw[beq_iff_eq]at e;rw[<-nN e];exact hw
 ·intro h;exact⟨s,h,by simp⟩
theorem Vf{l:agK agL}{s:agL}(h:b8 l s=false):s ∉ l:=λhm=>by rw[KX.2 hm]at h;cases h
theorem FU{T:agK agL}{s:agL}(h:fe T s=0):eu s=true/\s ∉ T:=⟨(yc h).1,Vf (yc h).2⟩
theorem Hf:∀(l S:agK agL),mo S l=0->(∀s∈l,eu s=true/\s ∉ S)/\l.Nodup
 |[],_,_=>⟨λs hs=>(by cases hs),List.nodup_nil⟩
 |s::l,S,h=>by
  rw[mo]at h;cases e:fe S s !=0 with
  |true=>rw[e]at h;simp only[cond_true]at h;rw[h]at e;cases e
  |false=>
   rw[e]at h;simp only[cond_false]at h;obtain⟨h1,h2⟩:=FU (fz e);obtain⟨k1,k2⟩:=Hf l (S++[s]) h;refine⟨λx hx=> ?_,List.nodup_cons.2 ⟨λhs=>(k1 s hs).2 (by simp),k2⟩⟩;rcases agq.1 hx with rfl|hx
   ·exact⟨h1,h2⟩
   ·exact⟨(k1 x hx).1,λhm=>(k1 x hx).2 (List.mem_append_left _ hm)⟩
theorem xm{α:Type}{f:α->Int}:∀{l:agK α},eB f l=0->∀x∈l,f x=0
 |x::l,h,y,hy=>by
  rw[eB]at h;cases e:f x !=0 with
  |true=>rw[e]at h;simp only[cond_true]at h;rw[h]at e;cases e
  |false=>
   rw[e]at h;simp only[cond_false]at h;rcases agq.1 hy with rfl|hy
   ·exact fz e
   ·exact xm h y hy
def EH(S:agK agL):agK agL->agK ck->Prop
 |_,[]=>True
 |T,x::l=>oc S T x=0/\EH S (T++[x.ak]) l
def DO:agK agL->agK aT->Prop
 |_,[]=>True
 |T,d::l=>fe T d.ak=0/\DO (T++[d.ak]) l
theorem Gi{S:agK agL}:∀(l:agK ck)(T:agK agL),EH S T l->(∀x∈l,eu x.ak=true/\x.ak ∉ S++T/\eB (eG S) x.aK=0)/\(l.map (·.ak)).Nodup
 |[],_,_=>⟨λs hs=>(by cases hs),List.nodup_nil⟩
 |x::l,T,⟨h,hl⟩=>by
  unfold oc at h;cases e:fe (S++T) x.ak !=0 with
  |true=>rw[e]at h;simp only[cond_true]at h;rw[h]at e;cases e
  |false=>
   rw[e]at h;simp only[cond_false]at h;obtain⟨h1,h2⟩:=FU (fz e);obtain⟨k1,k2⟩:=Gi l (T++[x.ak]) hl;have hd:eB (eG S) x.aK=0:=by
     cases e1:gp x.aH with
     |false=>rw[e1]at h;cases h
     |true=>
      rw[e1]at h;simp only[cond_true]at h;cases e2:decide (x.aK.length<=6)with
      |false=>rw[e2]at h;cases h
      |true=>rw[e2]at h;exact h
   refine⟨λy hy=> ?_,List.nodup_cons.2 ⟨λhs=> ?_,k2⟩⟩
   ·rcases agq.1 hy with rfl|hy
    ·exact⟨h1,h2,hd⟩
    ·obtain⟨a,b,c⟩:=k1 y hy;exact⟨a,λhm=>b (by rcases agy.1 hm with hm|hm<;>simp [hm]),c⟩
   ·obtain⟨y,hy,ey⟩:=List.mem_map.1 hs;exact(k1 y hy).2.1 (by rw[show y.ak=x.ak from ey];simp)
theorem JU:∀(l:agK aT)(T:agK agL),DO T l->(∀x∈l,eu x.ak=true/\x.ak ∉ T)/\(l.map (·.ak)).Nodup
 |[],_,_=>⟨λs hs=>(by cases hs),List.nodup_nil⟩
 |x::l,T,⟨h,hl⟩=>by
  obtain⟨h1,h2⟩:=FU h;obtain⟨k1,k2⟩:=JU l (T++[x.ak]) hl;refine⟨λy hy=> ?_,List.nodup_cons.2 ⟨λhs=> ?_,k2⟩⟩
  ·rcases agq.1 hy with rfl|hy
   ·exact⟨h1,h2⟩
   ·obtain⟨a,b⟩:=k1 y hy;exact⟨a,λhm=>b (List.mem_append_left _ hm)⟩
  ·obtain⟨y,hy,ey⟩:=List.mem_map.1 hs;exact(k1 y hy).2 (by rw[show y.ak=x.ak from ey];simp)
structure VP(p:aB):Prop where
 names:mo [] p.aD=0
 wh:∀c∈p.bX,eG p.aD c.aP=0
 GX:EH p.aD [] p.aC
 defs:DO (p.aD++p.aC.map (·.ak)) p.aw
 outs:∀s∈p.cd,s∈p.aC.map (·.ak)++p.aw.map (·.ak)
section
variable {N:Nat} {p:aB}
theorem MH(hD:gx p.aw):∀(l:agK agL)(k:Nat)(at_:Int){a:Int},rl N p l k at_=some (a,0)->∀s∈l,s∈p.aC.map (·.ak)++p.aw.map (·.ak)
 |s::l,k,at_,a,h,y,hy=>by
  rw[rl,By N p s hD,afU,Nf]at h;cases e:b8 (p.aC.map (·.ak)++p.aw.map (·.ak)) s with
  |false=>rw[e]at h;cases h
  |true=>
   rw[e]at h;simp only[cond_true]at h;obtain⟨_,h⟩:=wC h;rw[xU,afU]at h;cases e2:b8 ((p.cd.take ((k:Int)).toNat).drop 0) s with
   |true=>rw[e2]at h;cases h
   |false=>
    rw[e2]at h;rcases agq.1 hy with rfl|hy
    ·exact KX.1 e
    ·exact MH hD l (k+1) (aN (at_+1)) h y hy
theorem adV(hN:16<N){k:Nat}{d:aT}{T:agK agL}(hd:p.aw[k]?=some d)(h:uV N p (k:Int) T=some 0):fe T d.ak=0:=by
 unfold uV at h;obtain⟨_,h⟩:=wC h;rw[agn,hd,afU,xB N hN,afU]at h;cases e:fe T d.ak !=0 with
 |false=>exact fz e
 |true=>rw[e]at h;simp only[cond_true]at h;rw[age h]at e;cases e
theorem Nv(hN:16<N):∀(l:agK aT)(k:Nat)(at_:Int)(T:agK agL){a:Int},p.aw.drop k=l->oU N p l k T at_=some (a,0)->DO T l/\∃at' a',rl N p p.cd 0 at'=some (a',0)
 |[],k,at_,T,a,_,h=>⟨trivial,at_,a,h⟩
 |d::l,k,at_,T,a,hk,h=>by
  rw[oU]at h;obtain⟨x,e,h⟩:=gL h;cases e2:x !=0 with
  |true=>rw[e2]at h;simp only[cond_true]at h;rw[(Prod.mk.inj (age h)).2]at e2;cases e2
  |false=>
   rw[e2]at h;obtain⟨_,h⟩:=wC h;have hx:=fz e2;rw[hx]at e;obtain⟨k1,k2⟩:=Nv hN l (k+1) _ _ (kR hk) h;exact⟨⟨adV hN (aL hk) e,k1⟩,k2⟩
theorem P7(hN:16<N):∀(l:agK ck)(k:Nat)(at_:Int)(T:agK agL){a:Int},mM l->qI N p l k (p.aD++T) at_=some (a,0)->EH p.aD T l/\∃at' a',oU N p p.aw 0 (p.aD++(T++l.map (·.ak))) at'=some (a',0)
 |[],k,at_,T,a,_,h=>⟨trivial,at_,a,by rw[List.map_nil,agh];exact h⟩
 |x::l,k,at_,T,a,hl,h=>by
  rw[qI,QF N hN x p.aD T (λy hy=>(hl.lY x af1 y hy).ok),afU]at h;cases e2:oc p.aD T x !=0 with
  |true=>rw[e2]at h;simp only[cond_true]at h;rw[(Prod.mk.inj (age h)).2]at e2;cases e2
  |false=>
   rw[e2]at h;obtain⟨_,h⟩:=wC h;dsimp only at h;rw[agc]at h;obtain⟨k1,k2⟩:=P7 hN l (k+1) _ (T++[x.ak]) ⟨λy hy=>hl.len y (af4 _ hy),λy hy=>hl.lY y (af4 _ hy)⟩ h;rw[agc]at k2;exact⟨⟨fz e2,k1⟩,k2⟩
theorem Uf(hN:16<N)(B:Bd N p){a:Int}(h:wv N p=some (a,0)):VP p:=by
 have hs:=B.s;unfold wv Bq at h;rw[N3,afU]at h;cases e:u6 p with
 |false=>rw[e]at h;cases h
 |true=>
  rw[e]at h;simp only[Bool.not_true,cond_false]at h;rw[JA hN p.aD 0 rfl,afU,List.take_zero]at h;cases ez:mo [] p.aD !=0 with
  |true=>rw[ez]at h;simp only[cond_true]at h;rw[(Prod.mk.inj (age h)).2]at ez;cases ez
  |false=>
   rw[ez]at h;simp only[cond_false]at h;rw[IZ hN hs p.bX 0 B.W]at h;cases ew:eB (λc:cC=>eG p.aD c.aP) p.bX !=0 with
   |true=>rw[ew]at h;simp only[cond_true]at h;rw[(Prod.mk.inj (age h)).2]at ew;cases ew
   |false=>
    rw[ew]at h;simp only[cond_false]at h;obtain⟨k1,UX,a1,h1⟩:=P7 hN p.aC 0 2 [] B.P (by rw[agh];exact h);rw[List.nil_append]at h1;obtain⟨k2,H7,a2,h2⟩:=Nv hN p.aw 0 UX _ rfl h1;exact⟨fz ez,xm (fz ew),k1,k2,MH B.D p.cd 0 H7 h2⟩
end
def aW:agK (agL×agL)->agL->agL
 |[],s=>s
 |(k,v)::l,s=>bif bL k==bL s then v else aW l s
theorem uI(N:Nat)(s:agL):∀m:agK (agL×agL),qX N s m=some (aW m s)
 |[]=>rfl
 |(k,v)::l=>by
  have ih:=uI N s l;unfold qX at ih ⊢;rw[l9,dv,aW];cases bL k==bL s with
  |true=>rfl
  |false=>exact ih
theorem SG(N:Nat)(s:agL)(F T:agK agL):∀(l:agK agL)(k:Nat),T.length=k+l.length->y6 N s ⟨F,T⟩ l k=some (aW (l.zip (T.drop k)) s)
 |[],k,_=>by rw[y6];rfl
 |x::l,k,h=>by
  rw[afY]at h;have hk:k<T.length:=by omega
  rw[y6,List.drop_eq_getElem_cons hk,List.zip_cons_cons,aW];cases bL x==bL s with
  |true=>
   simp only[cond_true,agn];rw[afZ hk];rfl
  |false=>exact SG N s F T l (k+1) (by omega)
theorem qU(N:Nat)(s:agL)(F T:agK agL)(h:T.length=F.length):lQ N ⟨F,T⟩ s=some (aW (F.zip T) s):=by
 unfold lQ;rw[SG N s F T F 0 (by omega),agv]
theorem C4:∀(m:agK (agL×agL))(s:agL),s ∉ m.map (·.1)->aW m s=s
 |[],_,_=>rfl
 |(k,v)::l,s,h=>by
  rw[agl,agq]at h;rw[aW,show(bL k==bL s)=false from by
    rw[beq_eq_false_iff_ne];exact λe=>h (.inl (nN e).symm)]
  exact C4 l s λhm=>h (.inr hm)
theorem Jp:∀(m:agK (agL×agL)),(m.map (·.1)).Nodup->∀p∈m,aW m p.1=p.2
 |(k,v)::l,h,p,hp=>by
  rw[agl,List.nodup_cons]at h;rw[aW];rcases agq.1 hp with rfl|hp
  ·rw[BEq.rfl];rfl
  ·rw[show(bL k==bL p.1)=false from by
     rw[beq_eq_false_iff_ne];exact λe=>h.1 (List.mem_map.2 ⟨p,hp,(nN e).symm⟩)]
   exact Jp l h.2 p hp
theorem LC{m m':agK (agL×agL)}(hp:m.Perm m')(hn:(m.map (·.1)).Nodup)(s:agL):aW m s=aW m' s:=by
 have hk:=hp.map (·.1);have dA:(m'.map (·.1)).Nodup:=hk.nodup_iff.1 hn;by_cases h:s∈m.map (·.1)
 ·obtain⟨p,hm,rfl⟩:=List.mem_map.1 h;rw[Jp m hn p hm,Jp m' dA p (hp.mem_iff.1 hm)]
 ·rw[C4 m s h,C4 m' s λh'=>h (hk.mem_iff.2 h')]
theorem PN(x:aR):∀l:agK aR,(l.Pairwise λa b=>bL a.ak<bL b.ak)->(∀y∈l,bL y.ak≠bL x.ak)->(s8 x l).Pairwise λa b=>bL a.ak<bL b.ak
 |[],_,_=>by simp [s8]
 |y::l,h,hx=>by
  obtain⟨h1,h2⟩:=List.pairwise_cons.1 h;unfold s8;rw[FA];by_cases c:bL x.ak<bL y.ak
  ·rw[agD c];refine .cons (λz hz=> ?_) h;rcases agq.1 hz with rfl|hz
   ·exact c
   ·exact List.lt_trans c (h1 z hz)
  ·rw[agE c];refine .cons (λz hz=> ?_) (PN x l h2 λz hz=>hx z (af4 _ hz));rcases agq.1 ((IY x l).subset hz)with rfl|hz
   ·exact Classical.byContradiction λh3=>hx y af1 (List.le_antisymm (List.not_lt.1 c) (List.not_lt.1 h3))
   ·exact h1 z hz
theorem LW:∀l:agK aR,(l.Pairwise λa b=>bL a.ak≠bL b.ak)->(gW l).Pairwise λa b=>bL a.ak<bL b.ak
 |[],_=> .nil
 |x::l,h=>by
  obtain⟨h1,h2⟩:=List.pairwise_cons.1 h;unfold gW;exact PN x _ (LW l h2) λy hy=>λe=>h1 y ((tR l).subset hy) e.symm
theorem PZ:∀l:agK aR,(l.Pairwise λa b=>bL a.ak<bL b.ak)->o0 l=true
 |[],_=>rfl
 |[_],_=>rfl
 |x::y::l,h=>by
  obtain⟨h1,h2⟩:=List.pairwise_cons.1 h;unfold o0;rw[FA,agD (h1 y af1),Bool.true_and];exact PZ (y::l) h2
def jv(x:aR):agK aR->agK aR
 |[]=>[x]
 |y::l=>bif qk y x then y::jv x l else x::y::l
theorem FD{α:Type}{v:agK α}{k:Nat}(h:k<=v.length):((v.take k).drop 0).length=k:=by rw[agv,List.length_take];omega
theorem dN{a b:Nat}(h:a<=b):Nat.ble a b=true:=by rw[Nat.ble_eq];exact h
theorem Oe(N:Nat)(v7:agK aR)(s:agL)(x:aR)(c:agK aR->agM aI)(hb:(v7.length+1)*24<=140737488355328):∀(l:agK aR)(k:Nat),v7.drop k=l->k<=v7.length->uZ N v7 s x c l k=c (v7.take k++jv ⟨s,x.cO⟩ l)
 |[],k,hd,hk=>by
  have hl:(v7.drop k).length=0:=by rw[hd];rfl
  have e1:((0:Int)<=(k:Int)):=Int.natCast_nonneg _;rw[uZ,agD e1,agn,agD hk,FD hk,afW,FD hk,hl,dN (by omega),dN (by omega),dN (by simp only[afY,af7];omega)];simp only[cond_true];rw[agv,hd,agh];rfl
 |y::l,k,hd,hk=>by
  have hl:(v7.drop k).length=l.length+1:=by rw[hd];rfl
  rw[List.length_drop]at hl;rw[uZ,jv,qk];cases Op.bytesLess (bL y.ak) (bL s)with
  |true=>
   simp only[cond_true];have gz:v7.drop (k+1)=l:=by rw[<-List.drop_drop,hd];rfl
   rw[Oe N v7 s x c hb l (k+1) gz (by omega)];have ht:v7.take (k+1)=v7.take k++[y]:=by
     have hg:v7[k]?=some y:=by have:=congrArg (λl:agK aR=>l[0]?) hd;simpa using this
     rw[List.take_add_one,hg];rfl
   rw[ht,agc];rfl
  |false=>
   simp only[cond_false];rw[agn,agD hk,FD hk,afW,FD hk,List.length_drop,dN (by omega),dN (by omega),dN (by simp only[afY,af7];omega)];simp only[cond_true];rw[agv,hd,agc];rfl
def rF(m:agK (agL×agL)):agK aR->agK aR->agK aR
 |[],a=>a
 |x::l,a=>rF m l (jv ⟨aW m x.ak,x.cO⟩ a)
theorem AS(x:aR):∀l,(jv x l).Perm (x::l)
 |[]=> .refl _
 |y::l=>by
  unfold jv;cases qk y x
  ·exact .refl _
  ·exact((AS x l).cons y).trans (.swap x y l)
theorem OV(m:agK (agL×agL)):∀(l a:agK aR),(rF m l a).Perm (l.map (λx=>(⟨aW m x.ak,x.cO⟩:aR))++a)
 |[],a=> .refl _
 |x::l,a=>by
  rw[rF,agl,List.cons_append];refine(OV m l _).trans ?_;refine(List.Perm.append_left _ (AS _ a)).trans ?_;exact List.perm_middle
theorem abX(N:Nat)(v2:aI)(F T:agK agL)(hT:T.length=F.length)(l:agK aR):∀(k:Nat)(a:agK aR),(l.length+a.length+1)*24<=140737488355328->qA N v2 ⟨F,T⟩ l k a=some ⟨v2.xK,rF (F.zip T) l a⟩:=by
 induction l with
 |nil=>intro k a _;rw[qA];rfl
 |cons x l ih=>
  intro k a hb;rw[afY]at hb;rw[rF];have vA:(a.length+1)*24<=140737488355328:=agd (Nat.mul_le_mul_right 24 (Nat.succ_le_succ (Nat.le_add_left a.length (l.length+1)))) hb;have h2:(jv ⟨aW (F.zip T) x.ak,x.cO⟩ a).length=a.length+1:=(AS _ a).length_eq;have jh:(l.length+(jv ⟨aW (F.zip T) x.ak,x.cO⟩ a).length+1)*24<=140737488355328:=by
   generalize (jv ⟨aW (F.zip T) x.ak,x.cO⟩ a).length=q at h2 ⊢;subst h2;exact agd (Nat.le_of_eq (congrArg (·*24) (by rw[Nat.add_right_comm l.length 1 a.length,Nat.add_assoc l.length a.length 1]))) hb
  have h3:=ih (k+1) (jv ⟨aW (F.zip T) x.ak,x.cO⟩ a) jh;have h4:=Oe N a (aW (F.zip T) x.ak) x (λb=>qA N v2 ⟨F,T⟩ l (k+1) b) vA a 0 agv (Nat.zero_le _);rw[List.take_zero,List.nil_append]at h4;have h5:=qU N x.ak F T hT;generalize aW (F.zip T) x.ak=s at h3 h4 h5;generalize hc:(λb=>qA N v2 ⟨F,T⟩ l (k+1) b)=c at h4;have h6:c (jv ⟨s,x.cO⟩ a)=some ⟨v2.xK,rF (F.zip T) l (jv ⟨s,x.cO⟩ a)⟩:=by rw[<-hc];exact h3
  have h7:qA N v2 ⟨F,T⟩ (x::l) k a=Option.bind (lQ N ⟨F,T⟩ x.ak) λv8=>uZ N a v8 x c a 0:=by rw[<-hc];exact qA.eq_2 ..
  simp only[h7,h5,afU];exact h4.trans h3
theorem Sw(x:aR):∀l:agK aR,(l.Pairwise λa b=>bL a.ak<bL b.ak)->(∀y∈l,bL y.ak≠bL x.ak)->(jv x l).Pairwise λa b=>bL a.ak<bL b.ak
 |[],_,_=>by simp [jv]
 |y::l,h,hx=>by
  obtain⟨h1,h2⟩:=List.pairwise_cons.1 h;unfold jv;rw[FA];by_cases c:bL y.ak<bL x.ak
  ·rw[agD c];refine .cons (λz hz=> ?_) (Sw x l h2 λz hz=>hx z (af4 _ hz));rcases agq.1 ((AS x l).subset hz)with rfl|hz
   ·exact c
   ·exact h1 z hz
  ·rw[agE c];have c2:bL x.ak<bL y.ak:=Classical.byContradiction λh3=>hx y af1 (List.le_antisymm (List.not_lt.1 h3) (List.not_lt.1 c));refine .cons (λz hz=> ?_) h;rcases agq.1 hz with rfl|hz
   ·exact c2
   ·exact List.lt_trans c2 (h1 z hz)
theorem QH(m:agK (agL×agL)):∀(l a:agK aR),(a.Pairwise λa b=>bL a.ak<bL b.ak)->((l.map (λx=>(⟨aW m x.ak,x.cO⟩:aR))++a).Pairwise λa b=>bL a.ak≠bL b.ak)->(rF m l a).Pairwise λa b=>bL a.ak<bL b.ak
 |[],a,h,_=>h
 |x::l,a,h,hn=>by
  rw[agl,List.cons_append]at hn;obtain⟨h1,h2⟩:=List.pairwise_cons.1 hn;rw[rF];refine QH m l _ (Sw _ a h λy hy e=>h1 y (List.mem_append_right _ hy) e.symm) ?_;have hp:(l.map (λx=>(⟨aW m x.ak,x.cO⟩:aR))++jv ⟨aW m x.ak,x.cO⟩ a).Perm (⟨aW m x.ak,x.cO⟩::(l.map (λx=>(⟨aW m x.ak,x.cO⟩:aR))++a)):=
    (List.Perm.append_left _ (AS _ a)).trans List.perm_middle
  exact(hp.pairwise_iff λh e=>h e.symm).2 hn
def cZ(m:agK (agL×agL))(l:aI):aI:=⟨l.xK,gW (l.xL.map λx=>⟨aW m x.ak,x.cO⟩)⟩
def qD(m:agK (agL×agL))(l:aI):Prop:=(l.xL.map (λx=>(⟨aW m x.ak,x.cO⟩:aR))).Pairwise λa b=>bL a.ak≠bL b.ak
theorem yA(N:Nat)(F T:agK agL)(hT:T.length=F.length)(l:aI)(hd:qD (F.zip T) l)(hb:(l.xL.length+1)*24<=140737488355328):qt N ⟨F,T⟩ l=some (cZ (F.zip T) l):=by
 unfold qt;rw[abX N l F T hT l.xL 0 [] (by simpa using hb)];unfold cZ;have hp:=OV (F.zip T) l.xL [];rw[agh]at hp;have ha:=QH (F.zip T) l.xL [] .nil (by rw[agh];exact hd);rw[LH (λa b h1 h2=>List.lt_irrefl _ (List.lt_trans h1 h2)) _ _ (hp.trans (tR _).symm) ha (LW _ hd)]
theorem M7(N:Nat)(v1:aI)(m:agK (agL×agL)):∀(l:agK aR)(k:Nat)(a:agK aR),(l.length+a.length)*24<=140737488355328->((a++l.map (λx=>(⟨aW m x.ak,x.cO⟩:aR))).Pairwise λa b=>bL a.ak≠bL b.ak)->ru N v1 m l k a.length a=some ⟨v1.xK,gW (a++l.map (λx=>(⟨aW m x.ak,x.cO⟩:aR)))⟩
 |[],_,a,hb,hn=>by
  rw[List.map_nil,agh]at hn ⊢;rw[ru];unfold JT;rw[show Nat.beq a.length a.length=true from Nat.beq_refl _,show Nat.blt a.length 4611686018427387904=true from by rw[Nat.blt_eq];simp at hb;omega,PZ _ (LW a hn)];simp only[Bool.and_true,cond_true,afU];rw[(tR a).length_eq,show Nat.beq a.length a.length=true from Nat.beq_refl _];rfl
 |x::l,k,a,hb,hn=>by
  rw[afY]at hb;rw[ru,uI,afU,show Nat.beq a.length a.length=true from Nat.beq_refl _,dN (by omega)];simp only[cond_true];have:=M7 N v1 m l (k+1) (a++[⟨aW m x.ak,x.cO⟩]) (by rw[afW,afY,af7];omega) (by rw[agc];exact hn);rw[afW,afY,af7,agc]at this;exact this
theorem Ag(N:Nat)(m v3:agK (agL×agL))(l:aI)(hd:qD m l)(hb:(l.xL.length+1)*24<=140737488355328):ou N l m v3=some (cZ m l):=by
 unfold ou;exact M7 N l m l.xL 0 [] (by simp;omega) hd
def fY(m:agK (agL×agL))(l:aI):Prop:=qD m l/\(l.xL.length+1)*24<=140737488355328
def jt(m:agK (agL×agL))(a:bH):bH:=⟨aW m a.ak,cZ m a.cU⟩
theorem aae(N:Nat)(m v3:agK (agL×agL))(l:agK aI):∀(k:Nat)(a:agK aI),(∀x∈l,fY m x)->(a.length+l.length)*32<=140737488355328->Bf N m v3 l k a=some (a++l.map (cZ m)):=by
 induction l with
 |nil=>intro k a _ _;rw[Bf,List.map_nil,agh]
 |cons x l ih=>
  intro k a h hb;rw[afY]at hb;have h1:=h x af1;have hc:Nat.ble ((a.length+1)*32) 140737488355328=true:=dN (by omega);have h2:=ih (k+1) (a++[cZ m x]) (λy hy=>h y (af4 _ hy)) (by rw[afW,afY,af7];omega);rw[Bf,Ag N m v3 x h1.1 h1.2,afU,hc];rw[agc]at h2;exact h2
theorem acF(N:Nat)(F T:agK agL)(hT:T.length=F.length)(l:agK aI):∀(k:Nat)(a:agK aI),(∀x∈l,fY (F.zip T) x)->(a.length+l.length)*32<=140737488355328->yn N ⟨F,T⟩ l k a=some (a++l.map (cZ (F.zip T))):=by
 induction l with
 |nil=>intro k a _ _;rw[yn,List.map_nil,agh]
 |cons x l ih=>
  intro k a h hb;rw[afY]at hb;have h1:=h x af1;have hc:Nat.ble ((a.length+1)*32) 140737488355328=true:=dN (by omega);have h2:=ih (k+1) (a++[cZ (F.zip T) x]) (λy hy=>h y (af4 _ hy)) (by rw[afW,afY,af7];omega);rw[yn,yA N F T hT x h1.1 h1.2,afU,hc];rw[agc]at h2;exact h2
theorem Vu(N:Nat)(m v3:agK (agL×agL))(l:agK bH):∀(k:Nat)(a:agK bH),(∀x∈l,fY m x.cU)->(a.length+l.length)*48<=140737488355328->x9 N m v3 l k a=some (a++l.map (jt m)):=by
 induction l with
 |nil=>intro k a _ _;rw[x9,List.map_nil,agh]
 |cons x l ih=>
  intro k a h hb;rw[afY]at hb;have h1:=h x af1;have hc:Nat.ble ((a.length+1)*48) 140737488355328=true:=dN (by omega);have h2:=ih (k+1) (a++[jt m x]) (λy hy=>h y (af4 _ hy)) (by rw[afW,afY,af7];omega);rw[x9,uI,afU,Ag N m v3 x.cU h1.1 h1.2,afU,hc];rw[agc]at h2;exact h2
theorem aaV(N:Nat)(F T:agK agL)(hT:T.length=F.length)(l:agK bH):∀(k:Nat)(a:agK bH),(∀x∈l,fY (F.zip T) x.cU)->(a.length+l.length)*48<=140737488355328->yx N ⟨F,T⟩ l k a=some (a++l.map (jt (F.zip T))):=by
 induction l with
 |nil=>intro k a _ _;rw[yx,List.map_nil,agh]
 |cons x l ih=>
  intro k a h hb;rw[afY]at hb;have h1:=h x af1;have hc:Nat.ble ((a.length+1)*48) 140737488355328=true:=dN (by omega);have h2:=ih (k+1) (a++[jt (F.zip T) x]) (λy hy=>h y (af4 _ hy)) (by rw[afW,afY,af7];omega);rw[yx,qU N x.ak F T hT,afU,yA N F T hT x.cU h1.1 h1.2,afU,hc];rw[agc]at h2;exact h2
theorem Sj(N:Nat)(m v3:agK (agL×agL))(l:agK aI)(h:∀x∈l,fY m x)(hb:l.length*32<=140737488355328):zt N l m v3=some (l.map (cZ m)):=by
 unfold zt;rw[aae N m v3 l 0 [] h (by simpa using hb),List.nil_append]
theorem OP(N:Nat)(F T:agK agL)(hT:T.length=F.length)(l:agK aI)(h:∀x∈l,fY (F.zip T) x)(hb:l.length*32<=140737488355328):yN N ⟨F,T⟩ l=some (l.map (cZ (F.zip T))):=by
 unfold yN;rw[acF N F T hT l 0 [] h (by simpa using hb),List.nil_append]
theorem QB(N:Nat)(m v3:agK (agL×agL))(l:agK bH)(h:∀x∈l,fY m x.cU)(hb:l.length*48<=140737488355328):xe N l m v3=some (l.map (jt m)):=by
 unfold xe;rw[Vu N m v3 l 0 [] h (by simpa using hb),List.nil_append]
theorem OI(N:Nat)(F T:agK agL)(hT:T.length=F.length)(l:agK bH)(h:∀x∈l,fY (F.zip T) x.cU)(hb:l.length*48<=140737488355328):zy N ⟨F,T⟩ l=some (l.map (jt (F.zip T))):=by
 unfold zy;rw[aaV N F T hT l 0 [] h (by simpa using hb),List.nil_append]
def zY(m:agK (agL×agL))(i:bl):Prop:=fY m i.aP/\(∀x∈i.bK,fY m x)/\i.bK.length*32<=140737488355328
def qe(m t:agK (agL×agL))(i:bl):bl:=⟨cZ m i.aP,aW t i.b7,i.bK.map (cZ m)⟩
theorem ada(N:Nat)(m t:agK (agL×agL))(hE:aW t (bs [])=bs [])(l:agK bl):∀(k:Nat)(a:agK bl),(∀x∈l,zY m x)->(a.length+l.length)*72<=140737488355328->tW N m t l k a=some (a++l.map (qe m t)):=by
 induction l with
 |nil=>intro k a _ _;rw[tW,List.map_nil,agh]
 |cons x l ih=>
  intro k a h hb;rw[afY]at hb;have h1:=h x af1;have hc:Nat.ble ((a.length+1)*72) 140737488355328=true:=dN (by omega);have h2:=ih (k+1) (a++[qe m t x]) (λy hy=>h y (af4 _ hy)) (by rw[afW,afY,af7];omega);rw[agc]at h2;rw[tW,Ag N m t x.aP h1.1.1 h1.1.2,afU,Sj N m t x.bK h1.2.1 h1.2.2,afU];cases e:bL x.b7==bL (bs [])with
  |true=>
   have e1:x.b7=bs []:=nN (by simpa using e);simp only[cond_true];unfold yu;rw[hc];have h3:qe m t x=⟨cZ m x.aP,bs [],x.bK.map (cZ m)⟩:=by unfold qe;rw[e1,hE]
   rw[h3]at h2;rw[agl,h3];exact h2
  |false=>
   simp only[cond_false];rw[uI,afU];unfold yu;rw[hc];exact h2
theorem acM(N:Nat)(F T A B:agK agL)(hT:T.length=F.length)(hB:B.length=A.length)(l:agK bl):∀(k:Nat)(a:agK bl),(∀x∈l,zY (F.zip T) x)->(a.length+l.length)*72<=140737488355328->xq N ⟨F,T⟩ ⟨A,B⟩ l k a=some (a++l.map (qe (F.zip T) (A.zip B))):=by
 induction l with
 |nil=>intro k a _ _;rw[xq,List.map_nil,agh]
 |cons x l ih=>
  intro k a h hb;rw[afY]at hb;have h1:=h x af1;have hc:Nat.ble ((a.length+1)*72) 140737488355328=true:=dN (by omega);have h2:=ih (k+1) (a++[qe (F.zip T) (A.zip B) x]) (λy hy=>h y (af4 _ hy)) (by rw[afW,afY,af7];omega);rw[agc]at h2;rw[xq,yA N F T hT x.aP h1.1.1 h1.1.2,afU,qU N x.b7 A B hB,afU,OP N F T hT x.bK h1.2.1 h1.2.2,afU,hc];exact h2
def jT(f:agL->agL)(l:aI):aI:=⟨l.xK,gW (l.xL.map λx=>⟨f x.ak,x.cO⟩)⟩
def PS(f g:agL->agL)(i:bl):bl:=⟨jT f i.aP,g i.b7,i.bK.map (jT f)⟩
mutual
def l6(f g:agL->agL):ao->ao
 |⟨o,n,v,t,l,i,a⟩=>⟨o,g n,v,t,jT f l,i.map (PS f g),De f g a⟩
def De(f g:agL->agL):agK ao->agK ao
 |[]=>[]
 |e::l=>l6 f g e::De f g l
end
theorem Sx(f g:agL->agL):∀l:agK ao,De f g l=l.map (l6 f g)
 |[]=>rfl
 |e::l=>by rw[De,Sx f g l];rfl
theorem P2(f g:agL->agL)(e:ao):l6 f g e=⟨e.aM,g e.ak,e.dL,e.aH,jT f e.aP,e.xIdx.map (PS f g),e.ba.map (l6 f g)⟩:=by
 cases e
 rw[l6,Sx]
structure Y6(m t:List (ByteArray×ByteArray))(e:ao):Prop where
 fE:fY m e.aP
 idx:∀i∈e.xIdx,zY m i
 li:e.xIdx.length*72<=140737488355328
 la:e.ba.length*160<=140737488355328
 nm:e.aM≠3->aW t e.ak=e.ak
def pR(m t:agK (agL×agL))(e:ao):Prop:=∀y∈c9 e,Y6 m t y
theorem pR.arg{m t:agK (agL×agL)}{e x:ao}(h:pR m t e)(hx:x∈e.ba):pR m t x:=λy hy=>h y (C9 hx hy)
theorem VC(N:Nat)(v1:ao)(v6:agL)(v4:aI)(v5:agK bl)(rec:ao->agK (agL×agL)->agK (agL×agL)->agM ao)(m t:agK (agL×agL))(f:ao->ao)(l:agK ao):∀(k:Nat)(a:agK ao),(∀x∈l,rec x m t=some (f x))->(a.length+l.length)*160<=140737488355328->
 Ar N v1 v6 v4 v5 rec m t l k a=some ⟨v1.aM,v6,v1.dL,v1.aH,v4,v5,a++l.map f⟩:=by
 induction l with
 |nil=>intro k a _ _;rw[Ar,List.map_nil,agh]
 |cons x l ih=>
  intro k a h hb;rw[afY]at hb;have hc:Nat.ble ((a.length+1)*160) 140737488355328=true:=dN (by omega);have h2:=ih (k+1) (a++[f x]) (λy hy=>h y (af4 _ hy)) (by rw[afW,afY,af7];omega);rw[agc]at h2;rw[Ar,h x af1,afU,hc];exact h2
theorem acL(N:Nat)(v3:ao)(v5:agL)(v4:aI)(v6:agK bl)(rec:cW->cW->ao->agM ao)(m t:cW)(f:ao->ao)(l:agK ao):∀(k:Nat)(a:agK ao),(∀x∈l,rec m t x=some (f x))->(a.length+l.length)*160<=140737488355328->
 xo N v3 v5 v4 v6 rec m t l k a=some ⟨v3.aM,v5,v3.dL,v3.aH,v4,v6,a++l.map f⟩:=by
 induction l with
 |nil=>intro k a _ _;rw[xo,List.map_nil,agh]
 |cons x l ih=>
  intro k a h hb;rw[afY]at hb;have hc:Nat.ble ((a.length+1)*160) 140737488355328=true:=dN (by omega);have h2:=ih (k+1) (a++[f x]) (λy hy=>h y (af4 _ hy)) (by rw[afW,afY,af7];omega);rw[agc]at h2;rw[xo,h x af1,afU,hc];exact h2
theorem PU(N:Nat)(m t:agK (agL×agL))(hE:aW t (bs [])=bs []):∀(d:Nat)(e:ao),SizeOf.sizeOf e<d->pR m t e->mK N d e m t=some (l6 (aW m) (aW t) e)
 |0,_,h,_=>absurd h (ago _)
 |d+1,e,h,hk=>by
  have hn:=hk e af1;have mY:∀x∈e.ba,mK N d x m t=some (l6 (aW m) (aW t) x):=λx hx=>PU N m t hE d x (by have:=ub hx;omega) (hk.arg hx);have hL:=λv6=>VC N e v6 (cZ m e.aP) (e.xIdx.map (qe m t)) (mK N d) m t (l6 (aW m) (aW t)) e.ba 0 [] mY (by have:=hn.la;simpa using this);have hI:=ada N m t hE e.xIdx 0 [] hn.idx (by have:=hn.li;simpa using this);rw[List.nil_append]at hI;rw[mK,Ag N m t e.aP hn.fE.1 hn.fE.2,afU];unfold H9;rw[hI,afU,P2];cases h3:e.aM==3with
  |true=>
   simp only[cond_true];rw[uI,afU];unfold Aa;rw[hL];rfl
  |false=>
   simp only[cond_false];unfold Aa;rw[hL,hn.nm (by simpa using h3)];rfl
theorem Sf(N:Nat)(F T A B:agK agL)(hT:T.length=F.length)(hB:B.length=A.length):∀(d:Nat)(e:ao),SizeOf.sizeOf e<d->pR (F.zip T) (A.zip B) e->pj N d ⟨F,T⟩ ⟨A,B⟩ e=some (l6 (aW (F.zip T)) (aW (A.zip B)) e)
 |0,_,h,_=>absurd h (ago _)
 |d+1,e,h,hk=>by
  have hn:=hk e af1;have mY:∀x∈e.ba,pj N d ⟨F,T⟩ ⟨A,B⟩ x=some (l6 (aW (F.zip T)) (aW (A.zip B)) x):=λx hx=>Sf N F T A B hT hB d x (by have:=ub hx;omega) (hk.arg hx);have hL:=acL N e (aW (A.zip B) e.ak) (cZ (F.zip T) e.aP) (e.xIdx.map (qe (F.zip T) (A.zip B))) (pj N d) ⟨F,T⟩ ⟨A,B⟩ (l6 (aW (F.zip T)) (aW (A.zip B))) e.ba 0 [] mY (by have:=hn.la;simpa using this);have hI:=acM N F T A B hT hB e.xIdx 0 [] hn.idx (by have:=hn.li;simpa using this);rw[List.nil_append]at hI;rw[pj,yA N F T hT e.aP hn.fE.1 hn.fE.2,afU,qU N e.ak A B hB,afU];unfold KL;rw[hI,afU,P2,hL];rfl
def rm:Nat->agL
 |0=>bs [48]|1=>bs [49]|2=>bs [50]|3=>bs [51]|4=>bs [52]|5=>bs [53]|6=>bs [54]|7=>bs [55]|8=>bs [56]|9=>bs [57]|10=>bs [49,48]|11=>bs [49,49]|_=>bs []
def kp(b:agL)(k:Nat):agL:=b++rm k
theorem GQ{k:Nat}(h:k<12):k=0\/k=1\/k=2\/k=3\/k=4\/k=5\/k=6\/k=7\/k=8\/k=9\/k=10\/k=11:=by omega
theorem Wc(N:Nat){k:Nat}(h:k<12):J8 N (k:Int)=some (rm k):=by
 rcases GQ h with rfl|rfl|rfl|rfl|rfl|rfl|rfl|rfl|rfl|rfl|rfl|rfl<;>kernel_rfl
theorem ade(n:Nat){k:Nat}(h:k<12):JE (n+10) (Int64.ofInt (k:Int))=some (rm k):=by
 rcases GQ h with rfl|rfl|rfl|rfl|rfl|rfl|rfl|rfl|rfl|rfl|rfl|rfl<;>kernel_rfl
theorem Qu{k:Nat}(h:k<12):(rm k).size<=2:=by
 rcases GQ h with rfl|rfl|rfl|rfl|rfl|rfl|rfl|rfl|rfl|rfl|rfl|rfl<;>decide
theorem FX(N:Nat){b:agL}(hb:b.size<=100){k:Nat}(h:k<12):tO N b (k:Int)=some (kp b k):=by
 have:=Qu h;unfold tO;rw[Wc N h,afU,dN (by omega)];rfl
theorem Wg{N:Nat}(hN:10<N){b:agL}(hb:b.size<=100){k:Nat}(h:k<12):Ew N b (k:Int)=some (kp b k):=by
 have:=Qu h;obtain⟨n,rfl⟩:∃n,N=n+10:=⟨N-10,by omega⟩;unfold Ew;rw[xW (by omega),BEq.rfl,cond_true,ade n h,afU,dN (by omega)];rfl
def fS(b:agL):Nat->Nat->agK agL
 |_,0=>[]
 |k,n+1=>kp b k::fS b (k+1) n
theorem pW(b:agL):∀n k:Nat,(fS b k n).length=n
 |0,_=>rfl
 |n+1,k=>by rw[fS,afY,pW b n]
def dx(b:agL)(k:Nat)(l:agK agL):agK (agL×agL):=l.zip (fS b k l.length)
theorem Dv(b:agL)(k:Nat)(x:agL)(l:agK agL):dx b k (x::l)=(x,kp b k)::dx b (k+1) l:=rfl
theorem xC(b:agL)(k:Nat)(l:agK agL):(dx b k l).map (·.1)=l:=by
 unfold dx;rw[List.map_fst_zip];rw[pW];exact af6 _
theorem Lg(b:agL)(k:Nat)(l:agK agL):(dx b k l).map (·.2)=fS b k l.length:=by
 unfold dx;rw[List.map_snd_zip];rw[pW];exact af6 _
theorem Uq(b:agL)(k:Nat)(l:agK agL):(dx b k l).length=l.length:=by
 rw[<-af0 (·.1),xC]
theorem SY{N:Nat}(hN:10<N)(v:cW){b:agL}(hb:b.size<=100):∀(l:agK agL)(k:Nat)(a c:agK agL),k+l.length<=12->(a.length+l.length+v.b7.length)*16<=140737488355328->(c.length+l.length+v.s9.length)*16<=140737488355328->
 A4 N v b l k a c=some ⟨a++(l++v.b7),c++(fS b k l.length++v.s9)⟩
 |[],k,a,c,_,h1,h2=>by
  rw[af7]at h1 h2;rw[A4,dN (by omega),dN (by omega)];rfl
 |x::l,k,a,c,hk,h1,h2=>by
  rw[afY]at hk h1 h2;have ih:=SY hN v hb l (k+1) (a++[x]) (c++[kp b k]) (by omega) (by rw[afW,List.length_singleton];omega) (by rw[afW,List.length_singleton];omega);rw[agc,agc]at ih;rw[A4,dN (by omega),Wg hN hb (by omega),afU,dN (by omega)];exact ih
theorem EG{N:Nat}(hN:10<N)(F T:agK agL){b:agL}(hb:b.size<=100)(l:agK agL)(hl:l.length<=12)(h1:F.length<=100)(h2:T.length<=100):p7 N ⟨F,T⟩ l b=some ⟨l++F,fS b 0 l.length++T⟩:=by
 unfold p7;rw[SY hN ⟨F,T⟩ hb l 0 [] [] (by omega) (by simp only[af7];omega) (by simp only[af7];omega)];rfl
theorem QJ(b:agL)(l F T:agK agL):(l++F).zip (fS b 0 l.length++T)=dx b 0 l++F.zip T:=List.zip_append (pW b l.length 0).symm
theorem Sv(N:Nat)(p:aB)(v7:agK (agL×agL)):∀(l:agK aT)(k:Nat)(a:agK (agL×agL)),k+l.length<=12->a.length+l.length<=1000->
 Bj N p v7 l k a=pQ N ((dx (bs [100]) k (l.map (·.ak))).reverse++a) p v7 p.aD 0 []
 |[],k,a,_,_=>by rw[Bj];rfl
 |x::l,k,a,hk,h=>by
  rw[afY]at hk h;rw[Bj,FX N (by decide) (by omega),afU,show Nat.blt a.length 9223372036854775807=true from dN (by omega)];have ih:=Sv N p v7 l (k+1) ((x.ak,kp (bs [100]) k)::a) (by omega) (by rw[afY];omega);rw[agl,Dv,List.reverse_cons,agc];exact ih
theorem RX(N:Nat)(p:aB)(v7:agK (agL×agL))(hd:p.aw.length<=12):∀(l:agK ck)(k:Nat)(a:agK (agL×agL)),k+l.length<=12->a.length+l.length<=500->
 zq N p v7 l k a=pQ N ((dx (bs [100]) 0 (p.aw.map (·.ak))).reverse++((dx (bs [112]) k (l.map (·.ak))).reverse++a)) p v7 p.aD 0 []
 |[],k,a,_,h=>by rw[zq,Sv N p v7 p.aw 0 a (by omega) (by rw[af7]at h;omega)];rfl
 |x::l,k,a,hk,h=>by
  rw[afY]at hk h;rw[zq,FX N (by decide) (by omega),afU,show Nat.blt a.length 9223372036854775807=true from dN (by omega)];have ih:=RX N p v7 hd l (k+1) ((x.ak,kp (bs [112]) k)::a) (by omega) (by rw[afY];omega);rw[agl,Dv,List.reverse_cons,agc];exact ih
theorem P3(N:Nat)(p:aB)(hq:p.aC.length<=12)(hd:p.aw.length<=12):∀(l:agK agL)(k:Nat)(a:agK (agL×agL)),k+l.length<=12->a.length+l.length<=500->
 vD N p l k a=pQ N ((dx (bs [100]) 0 (p.aw.map (·.ak))).reverse++(dx (bs [112]) 0 (p.aC.map (·.ak))).reverse) p ((dx (bs [115]) k l).reverse++a) p.aD 0 []
 |[],k,a,_,h=>by rw[vD,RX N p a hd p.aC 0 [] (by omega) (by rw[af7];omega),agh];rfl
 |x::l,k,a,hk,h=>by
  rw[afY]at hk h;rw[vD,FX N (by decide) (by omega),afU,show Nat.blt a.length 9223372036854775807=true from dN (by omega)];have ih:=P3 N p hq hd l (k+1) ((x,kp (bs [115]) k)::a) (by omega) (by rw[afY];omega);rw[Dv,List.reverse_cons,agc];exact ih
theorem Qr(N:Nat)(d:aT)(t:agK (agL×agL)):∀(l:agK agL)(k:Nat)(a:agK (agL×agL)),k+l.length<=12->a.length+l.length<=500->
 rK N d t l k a=rK N d t [] 0 ((dx (bs [105]) k l).reverse++a)
 |[],k,a,_,_=>by rw[rK];rfl
 |x::l,k,a,hk,h=>by
  rw[afY]at hk h;rw[rK.eq_2,FX N (by decide) (by omega),afU,show Nat.blt a.length 9223372036854775807=true from dN (by omega)];have ih:=Qr N d t l (k+1) ((x,kp (bs [105]) k)::a) (by omega) (by rw[afY];omega);rw[Dv,List.reverse_cons,agc];exact ih
abbrev Nm:=agK (agL×agL)
def mS(a:agL)(p:aB):Nm:=dx a 0 p.aD
def mT(b c:agL)(p:aB):Nm:=dx b 0 (p.aC.map (·.ak))++dx c 0 (p.aw.map (·.ak))
def mV(a d:agL)(p:aB)(f:aT):Nm:=dx d 0 (dY f)++mS a p
def Pr(f:agL->agL)(a:bH):bH:=⟨f a.ak,jT f a.cU⟩
def oy(f g:agL->agL)(d:aT):aT:=⟨g d.ak,d.aH,d.aK.map (Pr f),d.bx.map (Pr f),d.dd,l6 f g d.bY⟩
def x6(f g:agL->agL)(v:aT->agL->agL)(p:aB):aB:=
 ⟨p.aD.map f,p.bX.map λc=>⟨jT f c.aP,c.jA⟩,p.aC.map λx=>⟨g x.ak,x.aH,x.aK.map (jT f)⟩,p.aw.map λd=>oy (v d) g d,p.cd.map g⟩
def qq(a b c d:agL)(p:aB):aB:=x6 (aW (mS a p)) (aW (mT b c p)) (λf=>aW (mV a d p f)) p
structure wU(N:Nat)(V T:Nm)(f:aT):Prop where
 tP:∀x∈f.aK,fY V x.cU
 red:∀x∈f.bx,fY V x.cU
 len:f.aK.length<=6/\f.bx.length<=6
 body:pR V T f.bY
 size:SizeOf.sizeOf f.bY<N
structure vS(N:Nat)(S T:Nm)(V:aT->Nm)(p:aB):Prop where
 s:p.aD.length<=12
 w:p.bX.length<=12
 q:p.aC.length<=12
 d:p.aw.length<=12
 o:p.cd.length<=12
 W:∀c∈p.bX,fY S c.aP
 P:∀x∈p.aC,(∀l∈x.aK,fY S l)/\x.aK.length<=12
 D:∀f∈p.aw,wU N (V f) T f
theorem tp{m m':Nm}(h:aW m=aW m'){l:aI}(k:fY m l):fY m' l:=by
 unfold fY qD at k ⊢;rw[<-h];exact k
theorem Uy{m m':Nm}(h:aW m=aW m'){i:bl}(k:zY m i):zY m' i:=⟨tp h k.1,λx hx=>tp h (k.2.1 x hx),k.2.2⟩
theorem abw{m m' t t':Nm}(h:aW m=aW m')(h':aW t=aW t'){e:ao}(k:pR m t e):pR m' t' e:=λy hy=>
 ⟨tp h (k y hy).fE,λi hi=>Uy h ((k y hy).idx i hi),(k y hy).li,(k y hy).la,by rw[<-h'];exact(k y hy).nm⟩
theorem aaI{N:Nat}{m m' t t':Nm}(h:aW m=aW m')(h':aW t=aW t'){f:aT}(k:wU N m t f):wU N m' t' f:=
 ⟨λx hx=>tp h (k.tP x hx),λx hx=>tp h (k.red x hx),k.len,abw h h' k.body,k.size⟩
theorem Y0{N:Nat}{S S' T T':Nm}{V V':aT->Nm}{p:aB}(h:aW S=aW S')(h':aW T=aW T')(hv:∀f∈p.aw,aW (V f)=aW (V' f))(k:vS N S T V p):vS N S' T' V' p:=
 ⟨k.s,k.w,k.q,k.d,k.o,λc hc=>tp h (k.W c hc),λx hx=>⟨λl hl=>tp h ((k.P x hx).1 l hl),(k.P x hx).2⟩,λf hf=>aaI (hv f hf) h' (k.D f hf)⟩
theorem Ft:∀(m:Nm)(s d:agL),s∈m.map (·.1)->dv m s d=aW m s
 |(k,v)::l,s,d,h=>by
  rw[dv,aW];rw[agl,agq]at h;cases e:bL k==bL s with
  |true=>rfl
  |false=>
   refine Ft l s d (h.resolve_left λh=> ?_);rw[h,BEq.rfl]at e;cases e
theorem adG(N:Nat)(f:aT)(S T:Nm)(hE:aW T (bs [])=bs [])(hS:S.length<=100)(h:wU N ((dx (bs [105]) 0 (dY f)).reverse++S) T f):CO N f S T=some (oy (aW ((dx (bs [105]) 0 (dY f)).reverse++S)) (aW T) f):=by
 have hl:=h.len;have hv:(dY f).length=f.aK.length+f.bx.length:=by unfold dY;rw[af0,afW]
 unfold CO;rw[P9 N f (by omega),afU];show rK N f T (dY f) 0 S=_;rw[Qr N f T (dY f) 0 S (by omega) (by omega)];generalize hV:(dx (bs [105]) 0 (dY f)).reverse++S=V at h;rw[rK,uI,afU,QB N V T f.aK h.tP (by omega),afU,QB N V T f.bx h.red (by omega),afU];unfold Ia;rw[PU N V T hE N f.bY h.size h.body];rfl
section
variable {N:Nat} {p:aB} {S T:Nm}
theorem Yx(q:aB)(l:agK agL):∀(k:Nat)(a:agK agL),(∀s∈l,s∈T.map (·.1))->a.length+l.length<=1000->
 uQ N q.aD q.bX q.aC q.aw T l k a=some (⟨q.aD,q.bX,q.aC,q.aw,a++l.map (aW T)⟩,0):=by
 induction l with
 |nil=>intro k a _ _;rw[uQ,List.map_nil,agh]
 |cons x l ih=>
  intro k a h hb;rw[afY]at hb;have h2:=ih (k+1) (a++[aW T x]) (λy hy=>h y (af4 _ hy)) (by rw[afW,afY,af7];omega);rw[agc]at h2;rw[uQ,Ft T x _ (h x af1),dN (by omega)];exact h2
theorem ZM(q:aB)(hE:aW T (bs [])=bs [])(hS:S.length<=100)(l:agK aT):∀(k:Nat)(a:agK aT),(∀f∈l,wU N ((dx (bs [105]) 0 (dY f)).reverse++S) T f)->a.length+l.length<=1000->
 wR N q.aD q.bX q.aC T p S l k a=uQ N q.aD q.bX q.aC (a++l.map λf=>oy (aW ((dx (bs [105]) 0 (dY f)).reverse++S)) (aW T) f) T p.cd 0 []:=by
 induction l with
 |nil=>intro k a _ _;rw[wR,List.map_nil,agh]
 |cons x l ih=>
  intro k a h hb;rw[afY]at hb;have h2:=ih (k+1) (a++[oy (aW ((dx (bs [105]) 0 (dY x)).reverse++S)) (aW T) x]) (λy hy=>h y (af4 _ hy)) (by rw[afW,afY,af7];omega);rw[agc]at h2;rw[wR,adG N x S T hE hS (h x af1),afU,dN (by omega)];exact h2
theorem V9(q:aB)(l:agK ck):∀(k:Nat)(a:agK ck),(∀x∈l,x.ak∈T.map (·.1))->(∀x∈l,(∀y∈x.aK,fY S y)/\x.aK.length<=12)->a.length+l.length<=1000->
 vz N q.aD q.bX T p S l k a=wR N q.aD q.bX (a++l.map λx=>(⟨aW T x.ak,x.aH,x.aK.map (jT (aW S))⟩:ck)) T p S p.aw 0 []:=by
 induction l with
 |nil=>intro k a _ _ _;rw[vz,List.map_nil,agh]
 |cons x l ih=>
  intro k a h h' hb;rw[afY]at hb;have hx:=h' x af1;have h2:=ih (k+1) (a++[⟨aW T x.ak,x.aH,x.aK.map (jT (aW S))⟩]) (λy hy=>h y (af4 _ hy)) (λy hy=>h' y (af4 _ hy)) (by rw[afW,afY,af7];omega);rw[agc]at h2;rw[vz,Sj N S T x.aK hx.1 (by omega),afU,Ft T x.ak _ (h x af1),dN (by omega)];exact h2
theorem VX(q:aB)(l:agK cC):∀(k:Nat)(a:agK cC),(∀c∈l,fY S c.aP)->a.length+l.length<=1000->
 wj N q.aD T p S l k a=vz N q.aD (a++l.map λc=>(⟨jT (aW S) c.aP,c.jA⟩:cC)) T p S p.aC 0 []:=by
 induction l with
 |nil=>intro k a _ _;rw[wj,List.map_nil,agh]
 |cons x l ih=>
  intro k a h hb;rw[afY]at hb;have hx:=h x af1;have h2:=ih (k+1) (a++[⟨jT (aW S) x.aP,x.jA⟩]) (λy hy=>h y (af4 _ hy)) (by rw[afW,afY,af7];omega);rw[agc]at h2;rw[wj,Ag N S T x.aP hx.1 hx.2,afU,dN (by omega)];exact h2
theorem aeQ(l:agK agL):∀(k:Nat)(a:agK agL),(∀s∈l,s∈S.map (·.1))->a.length+l.length<=1000->
 pQ N T p S l k a=wj N (a++l.map (aW S)) T p S p.bX 0 []:=by
 induction l with
 |nil=>intro k a _ _;rw[pQ,List.map_nil,agh]
 |cons x l ih=>
  intro k a h hb;rw[afY]at hb;have h2:=ih (k+1) (a++[aW S x]) (λy hy=>h y (af4 _ hy)) (by rw[afW,afY,af7];omega);rw[agc]at h2;rw[pQ,Ft S x _ (h x af1),dN (by omega)];exact h2
theorem acA(hE:aW T (bs [])=bs [])(hS:S.length<=100)(h:vS N S T (λf=>(dx (bs [105]) 0 (dY f)).reverse++S) p)(h1:∀s∈p.aD,s∈S.map (·.1))(h2:∀x∈p.aC,x.ak∈T.map (·.1))(h3:∀s∈p.cd,s∈T.map (·.1)):
 pQ N T p S p.aD 0 []=some (x6 (aW S) (aW T) (λf=>aW ((dx (bs [105]) 0 (dY f)).reverse++S)) p,0):=by
 have l1:=h.s;have l2:=h.w;have l3:=h.q;have l4:=h.d;have l5:=h.o;have k4:=aeQ (N:=N) (T:=T) (p:=p) p.aD 0 [] h1 (by rw[af7];omega)
 let q:aB:=x6 (aW S) (aW T) (λf=>aW ((dx (bs [105]) 0 (dY f)).reverse++S)) p
 have k5:=VX (N:=N) (T:=T) (p:=p) q p.bX 0 [] h.W (by rw[af7];omega);have k6:=V9 (N:=N) (T:=T) (p:=p) q p.aC 0 [] h2 h.P (by rw[af7];omega);have k7:=ZM (N:=N) (T:=T) (p:=p) q hE hS p.aw 0 [] h.D (by rw[af7];omega);have k8:=Yx (N:=N) (T:=T) q p.cd 0 [] h3 (by rw[af7];omega);exact k4.trans (k5.trans (k6.trans (k7.trans k8)))
end
section
variable {N:Nat} {p:aB} {F G A B:agK agL} {sc:lI}
theorem acC(q:aB)(hB:B.length=A.length)(l:agK agL):∀(k:Nat)(a:agK agL),a.length+l.length<=1000->
 vl N q.aD q.bX q.aC q.aw ⟨A,B⟩ l k a=some ⟨q.aD,q.bX,q.aC,q.aw,a++l.map (aW (A.zip B))⟩:=by
 induction l with
 |nil=>intro k a _;rw[vl,List.map_nil,agh]
 |cons x l ih=>
  intro k a hb;rw[afY]at hb;have h2:=ih (k+1) (a++[aW (A.zip B) x]) (by rw[afW,afY,af7];omega);rw[agc]at h2;rw[vl,qU N x A B hB,afU,dN (by omega)];exact h2
theorem VI(q:aB)(hN:10<N)(hi:sc.kV.size<=100)(hG:G.length=F.length)(hF:F.length<=100)(hB:B.length=A.length)(l:agK aT):∀(k:Nat)(a:agK aT),(∀f∈l,wU N (dx sc.kV 0 (dY f)++F.zip G) (A.zip B) f)->a.length+l.length<=1000->
 vu N q.aD q.bX q.aC ⟨A,B⟩ p ⟨F,G⟩ sc l k a=vl N q.aD q.bX q.aC (a++l.map λf=>oy (aW (dx sc.kV 0 (dY f)++F.zip G)) (aW (A.zip B)) f) ⟨A,B⟩ p.cd 0 []:=by
 induction l with
 |nil=>intro k a _ _;rw[vu,List.map_nil,agh]
 |cons x l ih=>
  intro k a h hb;rw[afY]at hb;have hx:=h x af1;have hl:=hx.len;have hv:(dY x).length=x.aK.length+x.bx.length:=by unfold dY;rw[af0,afW]
  have h2:=ih (k+1) (a++[oy (aW (dx sc.kV 0 (dY x)++F.zip G)) (aW (A.zip B)) x]) (λy hy=>h y (af4 _ hy)) (by rw[afW,afY,af7];omega);rw[agc]at h2;have hT:(fS sc.kV 0 (dY x).length++G).length=(dY x++F).length:=by rw[afW,afW,pW,hG]
  have hz:=QJ sc.kV (dY x) F G;rw[<-hz]at hx;rw[vu,NC N x (by omega),afU];show(Option.bind (p7 N ⟨F,G⟩ (dY x) sc.kV) _)=_;rw[EG hN F G hi (dY x) (by omega) hF (by omega),afU,qU N x.ak A B hB,afU,OI N _ _ hT x.aK hx.tP (by omega),afU,OI N _ _ hT x.bx hx.red (by omega),afU];unfold LI;rw[Sf N _ _ A B hT hB N x.bY hx.size hx.body,afU,dN (by omega),hz];exact h2
theorem Ub(q:aB)(hG:G.length=F.length)(hB:B.length=A.length)(l:agK ck):∀(k:Nat)(a:agK ck),(∀x∈l,(∀y∈x.aK,fY (F.zip G) y)/\x.aK.length<=12)->a.length+l.length<=1000->
 uY N q.aD q.bX ⟨A,B⟩ p ⟨F,G⟩ sc l k a=vu N q.aD q.bX (a++l.map λx=>(⟨aW (A.zip B) x.ak,x.aH,x.aK.map (jT (aW (F.zip G)))⟩:ck)) ⟨A,B⟩ p ⟨F,G⟩ sc p.aw 0 []:=by
 induction l with
 |nil=>intro k a _ _;rw[uY,List.map_nil,agh]
 |cons x l ih=>
  intro k a h' hb;rw[afY]at hb;have hx:=h' x af1;have h2:=ih (k+1) (a++[⟨aW (A.zip B) x.ak,x.aH,x.aK.map (jT (aW (F.zip G)))⟩]) (λy hy=>h' y (af4 _ hy)) (by rw[afW,afY,af7];omega);rw[agc]at h2;rw[uY,qU N x.ak A B hB,afU,OP N F G hG x.aK hx.1 (by omega),afU,dN (by omega)];exact h2
theorem aa2(q:aB)(hG:G.length=F.length)(l:agK cC):∀(k:Nat)(a:agK cC),(∀c∈l,fY (F.zip G) c.aP)->a.length+l.length<=1000->
 vZ N q.aD ⟨A,B⟩ p ⟨F,G⟩ sc l k a=uY N q.aD (a++l.map λc=>(⟨jT (aW (F.zip G)) c.aP,c.jA⟩:cC)) ⟨A,B⟩ p ⟨F,G⟩ sc p.aC 0 []:=by
 induction l with
 |nil=>intro k a _ _;rw[vZ,List.map_nil,agh]
 |cons x l ih=>
  intro k a h hb;rw[afY]at hb;have hx:=h x af1;have h2:=ih (k+1) (a++[⟨jT (aW (F.zip G)) x.aP,x.jA⟩]) (λy hy=>h y (af4 _ hy)) (by rw[afW,afY,af7];omega);rw[agc]at h2;rw[vZ,yA N F G hG x.aP hx.1 hx.2,afU,dN (by omega)];exact h2
theorem VM(hG:G.length=F.length)(l:agK agL):∀(k:Nat)(a:agK agL),a.length+l.length<=1000->
 Bm N ⟨A,B⟩ p ⟨F,G⟩ sc l k a=vZ N (a++l.map (aW (F.zip G))) ⟨A,B⟩ p ⟨F,G⟩ sc p.bX 0 []:=by
 induction l with
 |nil=>intro k a _;rw[Bm,List.map_nil,agh]
 |cons x l ih=>
  intro k a hb;rw[afY]at hb;have h2:=ih (k+1) (a++[aW (F.zip G) x]) (by rw[afW,afY,af7];omega);rw[agc]at h2;rw[Bm,qU N x F G hG,afU,dN (by omega)];exact h2
theorem XW(v8:agK agL)(v3:cW)(l:agK aT):∀(k:Nat)(a:agK agL),a.length+l.length<=1000->
 pK N sc v8 p v3 l k a=pK N sc v8 p v3 [] 0 (a++l.map (·.ak)):=by
 induction l with
 |nil=>intro k a _;rw[pK,pK,List.map_nil,agh]
 |cons x l ih=>
  intro k a hb;rw[afY]at hb;have h2:=ih (k+1) (a++[x.ak]) (by rw[afW,afY,af7];omega);rw[agc]at h2;rw[pK.eq_2,dN (by omega)];exact h2
theorem aeb(v3:cW)(l:agK ck):∀(k:Nat)(a:agK agL),a.length+l.length<=1000->
 yb N sc p v3 l k a=pK N sc (a++l.map (·.ak)) p v3 p.aw 0 []:=by
 induction l with
 |nil=>intro k a _;rw[yb,List.map_nil,agh]
 |cons x l ih=>
  intro k a hb;rw[afY]at hb;have h2:=ih (k+1) (a++[x.ak]) (by rw[afW,afY,af7];omega);rw[agc]at h2;rw[yb,dN (by omega)];exact h2
theorem aaa(hN:10<N)(ha:sc.aD.size<=100)(hb:sc.aC.size<=100)(hc:sc.aw.size<=100)(hd:sc.kV.size<=100)(h:vS N (mS sc.aD p) (mT sc.aC sc.aw p) (mV sc.aD sc.kV p) p):
 AK N p sc=some (qq sc.aD sc.aC sc.aw sc.kV p):=by
 have l1:=h.s;have l2:=h.w;have l3:=h.q;have l4:=h.d;have l5:=h.o;have hz:(⟨[],[]⟩:cW)=HR:=rfl;have m1:(p.aw.map (·.ak)).length=p.aw.length:=af0 ..;have m2:(p.aC.map (·.ak)).length=p.aC.length:=af0 ..;unfold AK;rw[<-hz,EG hN [] [] ha p.aD l1 (Nat.zero_le _) (Nat.zero_le _),afU,aeb _ p.aC 0 [] (by rw[af7];omega),XW _ _ p.aw 0 [] (by rw[af7];omega),List.nil_append,List.nil_append,agh,agh];rw[pK,<-hz,EG hN [] [] hc _ (by omega) (Nat.zero_le _) (Nat.zero_le _),afU,agh,agh,EG hN _ _ hb _ (by omega) (by omega) (by rw[pW];omega),afU];have hG:(fS sc.aD 0 p.aD.length).length=p.aD.length:=pW ..;have hB:(fS sc.aC 0 (p.aC.map (·.ak)).length++fS sc.aw 0 (p.aw.map (·.ak)).length).length=(p.aC.map (·.ak)++p.aw.map (·.ak)).length:=by rw[afW,afW,pW,pW]
 have hT:mT sc.aC sc.aw p=(p.aC.map (·.ak)++p.aw.map (·.ak)).zip (fS sc.aC 0 (p.aC.map (·.ak)).length++fS sc.aw 0 (p.aw.map (·.ak)).length):=(QJ _ _ _ _).symm;rw[hT]at h
 let q:aB:=qq sc.aD sc.aC sc.aw sc.kV p
 have k3:=VM (N:=N) (p:=p) (sc:=sc) (A:=p.aC.map (·.ak)++p.aw.map (·.ak)) (B:=fS sc.aC 0 (p.aC.map (·.ak)).length++fS sc.aw 0 (p.aw.map (·.ak)).length) hG p.aD 0 [] (by rw[af7];omega);have k4:=aa2 (N:=N) (p:=p) (sc:=sc) (A:=p.aC.map (·.ak)++p.aw.map (·.ak)) (B:=fS sc.aC 0 (p.aC.map (·.ak)).length++fS sc.aw 0 (p.aw.map (·.ak)).length) q hG p.bX 0 [] h.W (by rw[af7];omega);have k5:=Ub (N:=N) (p:=p) (sc:=sc) q hG hB p.aC 0 [] h.P (by rw[af7];omega);have k6:=VI (p:=p) (sc:=sc) q hN hd hG (by omega) hB p.aw 0 [] h.D (by rw[af7];omega);have k7:=acC (N:=N) q hB p.cd 0 [] (by rw[af7];omega);rw[<-hT]at k5 k6 k7;exact k3.trans (k4.trans (k5.trans (k6.trans k7)))
end
set_option maxRecDepth 100000
structure Vw(x:bl):Prop where
 fE:jq 1000000 x.aP
 at_:x.bK.length<=1000000
 qF:∀l∈x.bK,jq 1000000 l
structure TY(e:ao):Prop where
 fE:jq 1000000 e.aP
 idx:e.xIdx.length<=1000000
 each:∀x∈e.xIdx,Vw x
 args:e.ba.length<=1000000
def Hm(e:ao):Prop:=∀y∈c9 e,TY y
theorem Hm.ok{e:ao}(h:Hm e):mZ e:=λy hy=>
 ⟨agd (h y hy).fE (by decide),λx hx=>⟨agd ((h y hy).each x hx).fE (by decide),λl hl=>agd (((h y hy).each x hx).qF l hl) (by decide)⟩,agd (h y hy).args (by decide)⟩
theorem p5(n:Nat):((n:Int) !=(n:Int))=false:=by rw[yC,agF];rfl
theorem MN(N:Nat)(L:agK agL):A8 N L L=some true:=by
 have go:∀(l:agK agL)(k:Nat),L.drop k=l->F8 N L l k=some true:=by
  intro l
  induction l with
  |nil=>intro k _;rfl
  |cons x l ih=>intro k h;rw[F8,agn,aL h,afU,agF,cond_true];exact ih (k+1) (kR h)
 unfold A8;rw[p5,cond_false];exact go L 0 rfl
theorem zn(N:Nat)(x:aI):qS N x x=some true:=by
 have go:∀(l:agK aR)(k:Nat),x.xL.drop k=l->BN N x l k=some true:=by
  intro l
  induction l with
  |nil=>intro k _;rfl
  |cons y l ih=>intro k h;rw[BN,agn,aL h,afU,agF,agF];exact ih (k+1) (kR h)
 unfold qS;rw[p5,bne_self_eq_false];exact go x.xL 0 rfl
theorem PQ(N:Nat)(L:agK aI):yM N L L=some true:=by
 have go:∀(l:agK aI)(k:Nat),L.drop k=l->CW N L l k=some true:=by
  intro l
  induction l with
  |nil=>intro k _;rfl
  |cons x l ih=>intro k h;rw[CW,agn,aL h,afU,zn,afU,cond_true];exact ih (k+1) (kR h)
 unfold yM;rw[p5,cond_false];exact go L 0 rfl
theorem afe(N:Nat)(x:bl):FW N x x=some true:=by
 unfold FW;rw[agF,zn,PQ];rfl
theorem V6(N:Nat)(L:agK bl):Em N L L=some true:=by
 have go:∀(l:agK bl)(k:Nat),L.drop k=l->Dc N L l k=some true:=by
  intro l
  induction l with
  |nil=>intro k _;rfl
  |cons x l ih=>intro k h;rw[Dc,agn,aL h,afU,afe,afU,cond_true];exact ih (k+1) (kR h)
 unfold Em;rw[p5,cond_false];exact go L 0 rfl
theorem Nx(N:Nat)(L:agK ao)(rec:ao->ao->agM Bool)(hr:∀x∈L,rec x x=some true):∀(l:agK ao)(k:Nat),L.drop k=l->B3 N L rec l k=some true
 |[],k,_=>rfl
 |x::l,k,h=>by
  rw[B3,agn,aL h,afU,hr x (AB (aL h)),afU,cond_true];exact Nx N L rec hr l (k+1) (kR h)
theorem OZ(N:Nat):∀(d:Nat)(e:ao),2*SizeOf.sizeOf e<d->sL N d e e=some true
 |0,_,h=>absurd h (ago _)
 |1,e,h=>by cases e;simp only[ao.mk.sizeOf_spec]at h;omega
 |d+2,e,h=>by
  rw[sL,Aw,p5,cond_false,Nx N e.ba _ (λx hx=>OZ N d x (by have:=ub hx;omega)) e.ba 0 rfl,zn,V6];rw[agF,agF,agF,agF,agF,agF,agF,agF,agF];rfl
theorem aep(N:Nat)(L:agK cC):BJ N L L=some true:=by
 have one:∀x:cC,Fu N x x=some true:=λx=>by unfold Fu;rw[agF,zn];rfl
 have go:∀(l:agK cC)(k:Nat),L.drop k=l->DR N L l k=some true:=by
  intro l
  induction l with
  |nil=>intro k _;rfl
  |cons x l ih=>intro k h;rw[DR,agn,aL h,afU,one,afU,cond_true];exact ih (k+1) (kR h)
 unfold BJ;rw[p5,cond_false];exact go L 0 rfl
theorem R5(N:Nat)(L:agK bH):Au N L L=some true:=by
 have go:∀(l:agK bH)(k:Nat),L.drop k=l->Gk N L l k=some true:=by
  intro l
  induction l with
  |nil=>intro k _;rfl
  |cons x l ih=>intro k h;rw[Gk,agn,aL h,afU,agF,zn];exact ih (k+1) (kR h)
 unfold Au;rw[p5,cond_false];exact go L 0 rfl
theorem aeO(N:Nat)(d:aT)(h:2*SizeOf.sizeOf d.bY+2<N):Fh N d d=some true:=by
 unfold Fh IV;rw[OZ N N d.bY (by omega),R5,R5];rw[agF,agF,agF,agF,agF,agF,agF];rfl
theorem Q4(N:Nat)(p:aB)(h:∀d∈p.aw,2*SizeOf.sizeOf d.bY+2<N):zB N p p=some true:=by
 have go2:∀(l:agK aT)(k:Nat),p.aw.drop k=l->En N p l k=some true:=by
  intro l
  induction l with
  |nil=>intro k _;rfl
  |cons x l ih=>intro k hd;rw[En,agn,aL hd,afU,aeO N x (h x (AB (aL hd))),afU,cond_true];exact ih (k+1) (kR hd)
 have go:∀(l:agK ck)(k:Nat),p.aC.drop k=l->Dy N p p l k=some true:=by
  intro l
  induction l with
  |nil=>intro k _;exact go2 p.aw 0 rfl
  |cons x l ih=>
   intro k hd;rw[Dy,agn,aL hd,afU,PQ,agF,agF,agF,agF,agF,agF];exact ih (k+1) (kR hd)
 unfold zB;rw[MN,aep,MN,p5,p5];exact go p.aC 0 rfl
structure vn(B:Nat)(x:bl):Prop where
 fE:x.aP.xL.length<=B
 at_:x.bK.length<=B
 qF:∀l∈x.bK,l.xL.length<=B
structure Cf(B:Nat)(e:ao):Prop where
 fE:e.aP.xL.length<=B
 idx:e.xIdx.length<=B
 each:∀x∈e.xIdx,vn B x
 args:e.ba.length<=B
def ic(B:Nat)(e:ao):Prop:=∀y∈c9 e,Cf B y
theorem ic.arg{B:Nat}{e x:ao}(h:ic B e)(hx:x∈e.ba):ic B x:=λy hy=>h y (C9 hx hy)
theorem vn.mono{A B:Nat}(h:A<=B){x:bl}(k:vn A x):vn B x:=⟨agd k.fE h,agd k.at_ h,λl hl=>agd (k.qF l hl) h⟩
theorem Cf.mono{A B:Nat}(h:A<=B){e:ao}(k:Cf A e):Cf B e:=⟨agd k.fE h,agd k.idx h,λx hx=>(k.each x hx).mono h,agd k.args h⟩
abbrev nj:Nat:=140737488355328
theorem tA{a b:Nat}(h:a+b<=9223372036854775807):aN ((a:Int)+(b:Int))=((a+b:Nat):Int):=by
 rw[<-Int.natCast_add];exact xW h
def Wt(m n:Nat)(Q:Prop)(r:agM Int):Prop:=∃v:Nat,r=some (v:Int)/\n<=v/\v<=m+500000000000000/\(v<=m->Q)
theorem Ko(N:Nat)(m:Nat)(hm:m<=100000)(rec:ao->Int->agM Int)(oV:ao->Prop)(hr:∀(x:ao)(q:Nat),q<=m->oV x->Wt q 1 (ic q x) (rec x (q:Int))):∀(l:agK ao)(k v:Nat),v<=m+500000000000000->(∀x∈l,oV x)->
 Wt m v (v+l.length<=m/\∀x∈l,ic m x) (tF N (m:Int) rec l k (v:Int))/\vh N (m:Int) rec l k (v:Int)=tF N (m:Int) rec l k (v:Int)
 |[],k,v,hv,_=>⟨⟨v,rfl,af6 _,by omega,λh=>⟨h,λ_ h=>by cases h⟩⟩,rfl⟩
 |x::l,k,v,hv,hx=>by
  rw[tF,vh,sk];by_cases h:v<=m
  ·rw[agD h,cond_true,cond_true,show aN ((m:Int)-(v:Int))=((m-v:Nat):Int) by rw[show(m:Int)-(v:Int)=((m-v:Nat):Int) by omega];exact xW (by omega)];obtain⟨n,e1,e2,e3,e4⟩:=hr x (m-v) (Nat.sub_le _ _) (hx x af1);rw[e1,afU,afU];dsimp only;rw[tA (by omega)];by_cases hn:v+n<=m
   ·obtain⟨⟨u,f1,f2,f3,f4⟩,f5⟩:=Ko N m hm rec oV hr l (k+1) (v+n) (by omega) λy hy=>hx y (af4 _ hy);refine⟨⟨u,f1,by omega,f3,λhu=> ?_⟩,f5⟩;obtain⟨g1,g2⟩:=f4 hu;refine⟨by simp only[afY];omega,λy hy=> ?_⟩;rcases agq.1 hy with rfl|hy
    ·exact λz hz=>(e4 (by omega) z hz).mono (by omega)
    ·exact g2 y hy
   ·have stop:∀(l:agK ao)(k:Nat),tF N (m:Int) rec l k ((v+n:Nat):Int)=some ((v+n:Nat):Int)/\vh N (m:Int) rec l k ((v+n:Nat):Int)=some ((v+n:Nat):Int):=by
     intro l k;cases l with
     |nil=>exact⟨rfl,rfl⟩
     |cons y l=>rw[tF,vh,sk,agE hn];exact⟨rfl,rfl⟩
    rw[(stop l (k+1)).1,(stop l (k+1)).2];exact⟨⟨v+n,rfl,by omega,by omega,λh=>absurd h hn⟩,rfl⟩
  ·rw[agE h];exact⟨⟨v,rfl,af6 _,by omega,λh'=>absurd h' h⟩,rfl⟩
theorem Qd(N:Nat)(m:Nat)(hm:m<=100000)(c:Int->agM Int)(lo:Nat)(Q:Prop)(hc:∀v:Nat,v<=m+500000000000000->lo<=v->Wt m v Q (c (v:Int))):∀(l:agK aI)(k v:Nat),v<=m+500000000000000->lo<=v->(∀x∈l,x.xL.length<=nj)->
 Wt m v (Q/\∀x∈l,x.xL.length<=m) (Gm N c (m:Int) l k (v:Int))
 |[],k,v,hv,iD,_=>by
  obtain⟨u,h1,h2,h3,h4⟩:=hc v hv iD;exact⟨u,h1,h2,h3,λh=>⟨h4 h,λ_ h=>by cases h⟩⟩
 |x::l,k,v,hv,iD,hx=>by
  rw[Gm,sk];by_cases h:v<=m
  ·have sG:x.xL.length<=140737488355328:=hx x af1;rw[agD h,cond_true];dsimp only;rw[tA (by omega)];obtain⟨u,f1,f2,f3,f4⟩:=Qd N m hm c lo Q hc l (k+1) (v+x.xL.length) (by omega) (by omega) λy hy=>hx y (af4 _ hy);refine⟨u,f1,by omega,f3,λhu=>⟨(f4 hu).1,λy hy=> ?_⟩⟩;rcases agq.1 hy with rfl|hy
   ·omega
   ·exact(f4 hu).2 y hy
  ·rw[agE h,cond_false];obtain⟨u,h1,h2,h3,h4⟩:=hc v hv iD;exact⟨u,h1,h2,h3,λhu=>absurd (agd h2 hu) h⟩
theorem MX(N:Nat)(m:Nat)(hm:m<=100000)(rec:ao->Int->agM Int)(oV:ao->Prop)(hr:∀(x:ao)(q:Nat),q<=m->oV x->Wt q 1 (ic q x) (rec x (q:Int)))(e:ao)(ha:∀x∈e.ba,oV x):∀(l:agK bl)(k v:Nat),v<=m+500000000000000->(∀x∈l,vn nj x)->
 Wt m v ((e.ba.length<=m/\∀x∈e.ba,ic m x)/\∀x∈l,vn m x) (vc N (m:Int) rec e l k (v:Int))
 |[],k,v,hv,_=>by
  rw[vc];obtain⟨u,h1,h2,h3,h4⟩:=(Ko N m hm rec oV hr e.ba 0 v hv ha).1;exact⟨u,h1,h2,h3,λh=>⟨⟨by have:=(h4 h).1;omega,(h4 h).2⟩,λ_ h=>by cases h⟩⟩
 |x::l,k,v,hv,hx=>by
  rw[vc,sk];by_cases h:v<=m
  ·have sG:=hx x af1;have h1:x.aP.xL.length<=140737488355328:=sG.fE;have h2:x.bK.length<=140737488355328:=sG.at_;rw[agD h,cond_true,tA (by omega),tA (by omega)];obtain⟨u,f1,f2,f3,f4⟩:=Qd N m hm (λbV=>vc N (m:Int) rec e l (k+1) bV) 0 _ (λv hv _=>MX N m hm rec oV hr e ha l (k+1) v hv λy hy=>hx y (af4 _ hy)) x.bK 0 (v+x.aP.xL.length+x.bK.length) (by omega) (Nat.zero_le _) sG.qF;refine⟨u,f1,by omega,f3,λhu=> ?_⟩;obtain⟨⟨g1,g2⟩,g3⟩:=f4 hu;refine⟨g1,λy hy=> ?_⟩;rcases agq.1 hy with rfl|hy
   ·exact⟨by omega,by omega,g3⟩
   ·exact g2 y hy
  ·rw[agE h,cond_false];obtain⟨⟨u,h1,h2,h3,h4⟩,h5⟩:=Ko N m hm rec oV hr e.ba 0 v hv ha;rw[h5];exact⟨u,h1,h2,h3,λhu=>absurd (agd h2 hu) h⟩
theorem N2(N:Nat):∀(d:Nat)(e:ao)(m:Nat),m<=100000->SizeOf.sizeOf e<d->ic nj e->Wt m 1 (ic m e) (qd N d e (m:Int))
 |0,_,_,_,h,_=>absurd h (ago _)
 |d+1,e,m,hm,h,hl=>by
  have he:=hl e af1;have h1:e.aP.xL.length<=140737488355328:=he.fE;have h2:e.xIdx.length<=140737488355328:=he.idx;rw[qd,show(1:Int)=((1:Nat):Int)from rfl,tA (by omega),tA (by omega)];obtain⟨u,f1,f2,f3,f4⟩:=MX N m hm (qd N d) (λx=>SizeOf.sizeOf x<d/\ic nj x) (λx q hq hx=>N2 N d x q (by omega) hx.1 hx.2) e (λx hx=>⟨by have:=ub hx;omega,hl.arg hx⟩) e.xIdx 0 (1+e.aP.xL.length+e.xIdx.length) (by omega) he.each;refine⟨u,f1,by omega,f3,λhu=> ?_⟩;obtain⟨⟨g1,g2⟩,g3⟩:=f4 hu;intro y hy;rcases agq.1 hy with rfl|hy
  ·exact⟨by omega,by omega,g3,g1⟩
  ·obtain⟨x,hx,hy⟩:=FO hy;exact g2 x hx y hy
structure BL(d:aT):Prop where
 tP:d.aK.length<=12
 red:d.bx.length<=12
 Rr:∀a∈d.aK++d.bx,a.cU.xL.length<=20
 body:ic 300 d.bY
structure wQ(p:aB):Prop where
 s:p.aD.length<=12
 w:p.bX.length<=12
 q:p.aC.length<=12
 d:p.aw.length<=12
 o:p.cd.length<=12
 W:∀c∈p.bX,c.aP.xL.length<=20
 P:∀x∈p.aC,x.aK.length<=12/\∀y∈x.aK,y.xL.length<=20
 D:∀d∈p.aw,BL d
def Bt(Q:Prop)(r:agM Bool):Prop:=∃b,r=some b/\(b=false->Q)
theorem Bt.mono{Q R:Prop}{r:agM Bool}(h:Bt Q r)(f:Q->R):Bt R r:=let ⟨b,h1,h2⟩:=h;⟨b,h1,λe=>f (h2 e)⟩
theorem LV(n:Nat):decide ((n:Int)>20)= !decide (n<=20):=iI n 20
theorem qW(n:Nat):decide ((n:Int)>12)= !decide (n<=12):=iI n 12
theorem Pe(N:Nat):∀(l:agK aI)(k:Nat),Bt (∀y∈l,y.xL.length<=20) (FN N l k)
 |[],_=>⟨_,rfl,λ_ _ h=>by cases h⟩
 |x::l,k=>by
  rw[FN,LV];by_cases h:x.xL.length<=20
  ·rw[agD h];refine(Pe N l (k+1)).mono λg y hy=> ?_;rcases agq.1 hy with rfl|hy
   ·exact h
   ·exact g y hy
  ·rw[agE h];exact⟨true,rfl,λh=>by cases h⟩
theorem MG(N:Nat)(d:aT)(c:agM Bool)(Q:Prop)(hc:Bt Q c)(h1:d.aK.length<=12)(h2:d.bx.length<=12):∀(n k:Nat),k<=d.aK.length+d.bx.length->d.aK.length+d.bx.length-k<n->
 Bt (Q/\∀a∈(d.aK++d.bx).drop k,a.cU.xL.length<=20) (y7 N d c n (k:Int))
 |0,k,_,h=>absurd h (ago _)
 |n+1,k,hk,h=>by
  rw[y7,tA (by omega)];by_cases hl:k<d.aK.length+d.bx.length
  ·have mE:k<(d.aK++d.bx).length:=by rw[afW];exact hl
   rw[show decide ((k:Int)<((d.aK.length+d.bx.length:Nat):Int))=true from agD (by omega),jP (by omega),jP (by omega),show decide ((0:Int)<=(k:Int))=true from agD (by omega),cond_true,cond_true,cond_true,cond_true,agn,afZ mE,afU,LV,List.drop_eq_getElem_cons mE,Eb (by omega)];by_cases du:((d.aK++d.bx)[k]).cU.xL.length<=20
   ·rw[agD du];refine(MG N d c Q hc h1 h2 n (k+1) (by omega) (by omega)).mono fun⟨g1,g2⟩=>⟨g1,λy hy=> ?_⟩;rcases agq.1 hy with rfl|hy
    ·exact du
    ·exact g2 y hy
   ·rw[agE du];exact⟨true,rfl,λh=>by cases h⟩
  ·rw[show decide ((k:Int)<((d.aK.length+d.bx.length:Nat):Int))=false from agE (by omega),cond_false,List.drop_eq_nil_of_le (by rw[afW];omega)];exact hc.mono λg=>⟨g,λ_ h=>by cases h⟩
theorem MP(N m:Nat)(hm:m<=300)(hN:1000<N):∀(l:agK aT)(k:Nat),(∀d∈l,ic nj d.bY/\SizeOf.sizeOf d.bY<N)->Bt (∀d∈l,BL d) (Bg N (m:Int) l k)
 |[],_,_=>⟨_,rfl,λ_ _ h=>by cases h⟩
 |d::l,k,hd=>by
  obtain⟨d1,d2⟩:=hd d af1;have ih:=MP N m hm hN l (k+1) λy hy=>hd y (af4 _ hy);obtain⟨v,w1,w2,w3,w4⟩:=N2 N N d.bY m (by omega) d2 d1;rw[Bg,qW,qW];unfold IL;rw[w1,afU,show decide ((v:Int)>(m:Int))= !decide (v<=m)from iI v m];by_cases h1:d.aK.length<=12
  ·rw[agD h1];by_cases h2:d.bx.length<=12
   ·rw[agD h2];by_cases h3:v<=m
    ·rw[agD h3];have:=MG N d _ _ ih h1 h2 N 0 (Nat.zero_le _) (by omega);rw[agv]at this;refine Bt.mono this fun⟨g1,g2⟩ y hy=> ?_;rcases agq.1 hy with rfl|hy
     ·exact⟨h1,h2,g2,λz hz=>(w4 h3 z hz).mono hm⟩
     ·exact g1 y hy
    ·rw[agE h3];exact⟨true,rfl,λh=>by cases h⟩
   ·rw[agE h2];exact⟨true,rfl,λh=>by cases h⟩
  ·rw[agE h1];exact⟨true,rfl,λh=>by cases h⟩
theorem MF(N m:Nat)(hm:m<=300)(hN:1000<N)(p:aB)(hd:∀d∈p.aw,ic nj d.bY/\SizeOf.sizeOf d.bY<N):∀(l:agK ck)(k:Nat),Bt ((∀d∈p.aw,BL d)/\∀x∈l,x.aK.length<=12/\∀y∈x.aK,y.xL.length<=20) (BF N (m:Int) p l k)
 |[],_=>(MP N m hm hN p.aw 0 hd).mono λg=>⟨g,λ_ h=>by cases h⟩
 |x::l,k=>by
  obtain⟨b,b1,b2⟩:=Pe N x.aK 0;rw[BF,qW];unfold HQ;rw[b1,afU];by_cases h:x.aK.length<=12
  ·rw[agD h];cases b with
   |true=>exact⟨true,rfl,λh=>by cases h⟩
   |false=>
    refine(MF N m hm hN p hd l (k+1)).mono fun⟨g1,g2⟩=>⟨g1,λy hy=> ?_⟩;rcases agq.1 hy with rfl|hy
    ·exact⟨h,b2 rfl⟩
    ·exact g2 y hy
  ·rw[agE h];exact⟨true,rfl,λh=>by cases h⟩
theorem Nl(N m:Nat)(hm:m<=300)(hN:1000<N)(p:aB)(hd:∀d∈p.aw,ic nj d.bY/\SizeOf.sizeOf d.bY<N):∀(l:agK cC)(k:Nat),Bt (((∀d∈p.aw,BL d)/\∀x∈p.aC,x.aK.length<=12/\∀y∈x.aK,y.xL.length<=20)/\∀c∈l,c.aP.xL.length<=20) (CL N (m:Int) p l k)
 |[],_=>(MF N m hm hN p hd p.aC 0).mono λg=>⟨g,λ_ h=>by cases h⟩
 |c::l,k=>by
  rw[CL,LV];by_cases h:c.aP.xL.length<=20
  ·rw[agD h];refine(Nl N m hm hN p hd l (k+1)).mono fun⟨g1,g2⟩=>⟨g1,λy hy=> ?_⟩;rcases agq.1 hy with rfl|hy
   ·exact h
   ·exact g2 y hy
  ·rw[agE h];exact⟨true,rfl,λh=>by cases h⟩
theorem ac2(N m:Nat)(hm:m<=300)(hN:1000<N)(p:aB)(hd:∀d∈p.aw,ic nj d.bY/\SizeOf.sizeOf d.bY<N):Bt (wQ p) (yE N p (m:Int)):=by
 unfold yE;rw[qW,qW,qW,qW,qW];by_cases h1:p.aD.length<=12
 ·by_cases h2:p.bX.length<=12
  ·by_cases h3:p.aC.length<=12
   ·by_cases h4:p.aw.length<=12
    ·by_cases h5:p.cd.length<=12
     ·rw[agD h1,agD h2,agD h3,agD h4,agD h5];exact(Nl N m hm hN p hd p.bX 0).mono fun⟨⟨g1,g2⟩,g3⟩=>⟨h1,h2,h3,h4,h5,g3,g2,g1⟩
     ·rw[agD h1,agD h2,agD h3,agD h4,agE h5];exact⟨true,rfl,λh=>by cases h⟩
    ·rw[agD h1,agD h2,agD h3,agE h4];exact⟨true,rfl,λh=>by cases h⟩
   ·rw[agD h1,agD h2,agE h3];exact⟨true,rfl,λh=>by cases h⟩
  ·rw[agD h1,agE h2];exact⟨true,rfl,λh=>by cases h⟩
 ·rw[agE h1];exact⟨true,rfl,λh=>by cases h⟩
theorem Lh:∀(m:Nm)(s:agL),s∈m.map (·.1)->∃p∈m,p.1=s/\aW m s=p.2
 |(k,v)::l,s,h=>by
  rw[agl,agq]at h;rw[aW];cases e:bL k==bL s with
  |true=>exact⟨(k,v),af1,nN (by simpa using e),rfl⟩
  |false=>
   obtain⟨p,h1,h2,h3⟩:=Lh l s (h.resolve_left λh=>by rw[h,BEq.rfl]at e;cases e);exact⟨p,af4 _ h1,h2,h3⟩
theorem Pk:∀(m:Nm),(m.map (·.2)).Nodup->∀p∈m,∀q∈m,p.2=q.2->p=q
 |x::l,h,p,hp,q,hq,e=>by
  rw[agl,List.nodup_cons]at h;obtain⟨h1,h2⟩:=h;rcases agq.1 hp with e1|k1
  ·rcases agq.1 hq with e2|k2
   ·rw[e1,e2]
   ·exact absurd (List.mem_map.2 ⟨q,k2,by rw[<-e,e1]⟩) h1
  ·rcases agq.1 hq with e2|k2
   ·exact absurd (List.mem_map.2 ⟨p,k1,by rw[e,e2]⟩) h1
   ·exact Pk l h2 p k1 q k2 e
theorem M5{m:Nm}(hv:(m.map (·.2)).Nodup){x y:agL}(hx:x∈m.map (·.1))(hy:y∈m.map (·.1))(h:aW m x=aW m y):x=y:=by
 obtain⟨p,p1,p2,p3⟩:=Lh m x hx;obtain⟨q,q1,q2,q3⟩:=Lh m y hy;rw[p3,q3]at h;rw[<-p2,<-q2,Pk m hv p p1 q q1 h]
def uu(V:agK agL)(f:agL->agL):Prop:=∀x∈V,∀y∈V,f x=f y->x=y
theorem uu.sub{V W:agK agL}{f:agL->agL}(h:uu V f)(hs:∀x∈W,x∈V):uu W f:=λx hx y hy=>h x (hs x hx) y (hs y hy)
theorem Tj:∀(l:agK aR)(p:agM agL),ov p l=true->(l.Pairwise λa b=>bL a.ak<bL b.ak)/\∀q,p=some q->∀x∈l,bL q<bL x.ak
 |[],_,_=>⟨.nil,λ_ _ _ h=>by cases h⟩
 |m::l,p,h=>by
  rw[ID,afX,afX,afX]at h;obtain⟨h1,h2⟩:=Tj l (some m.ak) h.2.2.2;refine⟨List.pairwise_cons.2 ⟨h2 _ rfl,h1⟩,λq e x hx=> ?_⟩;subst e;have h3:bL q<bL m.ak:=by
    have:=h.2.2.1;dsimp only at this;rw[bytesLess_eq,decide_eq_true_iff]at this;exact this
  rcases agq.1 hx with rfl|hx
  ·exact h3
  ·exact List.lt_trans h3 (h2 _ rfl x hx)
theorem Wh{V:agK agL}{l:aI}(h:j0 V l=true):∀x∈l.xL,x.ak∈V:=λx hx=>KX.1 (agm.1 h x hx)
theorem vB{V:agK agL}{m:Nm}(hi:uu V (aW m)){l:aI}(h1:fZ l=true)(h2:j0 V l=true):qD m l:=by
 unfold qD;rw[List.pairwise_map];have hp:=(Tj l.xL none h1).1;have hm:=Wh h2;refine hp.imp_of_mem fun{a b} ha hb O9 e=> ?_;have e2:=hi _ (hm a ha) _ (hm b hb) (nN e);rw[e2]at O9;exact List.lt_irrefl _ O9
theorem Ty{m:Nm}{l:aI}(h:mN l=true):qD m l:=by
 unfold mN at h;rw[afX,beq_iff_eq,beq_iff_eq]at h;unfold qD;rw[List.eq_nil_of_length_eq_zero h.2];exact .nil
theorem vv{n:Nat}(h:n<=300):(n+1)*24<=140737488355328:=by omega
theorem GB{S:agK agL}{l:aI}(h:eG S l=0):fZ l=true/\j0 S l=true:=by
 unfold eG at h;cases h1:fZ l with
 |false=>rw[h1]at h;cases h
 |true=>
  rw[h1]at h;cases h2:j0 S l with
  |false=>rw[h2]at h;cases h
  |true=>exact⟨rfl,rfl⟩
theorem J4{V:agK agL}{l:aI}(h:kD V l=0):j0 V l=true:=by
 unfold kD at h;cases h2:j0 V l with
 |false=>rw[h2]at h;cases h
 |true=>rfl
theorem JQ{S:agK agL}:∀(l:agK bH)(O:agK agL),mg S O l=0->(∀a∈l,eu a.ak=true/\a.ak ∉ S++O/\eG S a.cU=0)/\(l.map (·.ak)).Nodup
 |[],_,_=>⟨λs hs=>(by cases hs),List.nodup_nil⟩
 |a::l,O,h=>by
  rw[mg]at h;cases e:fe (S++O) a.ak !=0 with
  |true=>rw[e,cond_true]at h;rw[h]at e;cases e
  |false=>
   rw[e,cond_false]at h;cases e2:eG S a.cU !=0 with
   |true=>rw[e2,cond_true]at h;rw[h]at e2;cases e2
   |false=>
    rw[e2,cond_false]at h;obtain⟨h1,h2⟩:=FU (fz e);obtain⟨k1,k2⟩:=JQ l (O++[a.ak]) h;refine⟨λx hx=> ?_,List.nodup_cons.2 ⟨λhs=> ?_,k2⟩⟩
    ·rcases agq.1 hx with rfl|hx
     ·exact⟨h1,h2,fz e2⟩
     ·obtain⟨a1,a2,a3⟩:=k1 x hx;exact⟨a1,λhm=>a2 (by rcases agy.1 hm with hm|hm<;>simp [hm]),a3⟩
    ·obtain⟨y,hy,ey⟩:=List.mem_map.1 hs;exact(k1 y hy).2.1 (by rw[show y.ak=a.ak from ey];simp)
theorem Hn(a b:agL):bL (a++b)=bL a++bL b:=by unfold bL;rw[ByteArray.data_append,Array.toList_append]
theorem Xc:∀k:Fin 12,∀j:Fin 12,bL (rm k.val)=bL (rm j.val)->k=j:=by decide
theorem Wj{b:agL}{k j:Nat}(hk:k<12)(hj:j<12)(h:kp b k=kp b j):k=j:=by
 have h1:bL b++bL (rm k)=bL b++bL (rm j):=by rw[<-Hn,<-Hn];exact congrArg bL h
 exact congrArg Fin.val (Xc ⟨k,hk⟩ ⟨j,hj⟩ (List.append_cancel_left h1))
theorem Bw{b s:agL}:∀{n k:Nat},s∈fS b k n->∃j,k<=j/\j<k+n/\s=kp b j
 |n+1,k,h=>by
  rw[fS]at h;rcases agq.1 h with rfl|h
  ·exact⟨k,af6 _,by omega,rfl⟩
  ·obtain⟨j,h1,h2,h3⟩:=Bw h;exact⟨j,by omega,by omega,h3⟩
theorem DG(b:agL):∀n k:Nat,k+n<=12->(fS b k n).Nodup
 |0,_,_=>List.nodup_nil
 |n+1,k,h=>by
  rw[fS];refine List.nodup_cons.2 ⟨λhm=> ?_,DG b n (k+1) (by omega)⟩;obtain⟨j,h1,h2,h3⟩:=Bw hm;have:=Wj (by omega) (by omega) h3;omega
def se(a d:agL):Prop:=∃x y,(bL a).head?=some x/\(bL d).head?=some y/\x≠y
theorem Su{b:agL}{x:UInt8}(h:(bL b).head?=some x)(k:Nat):(bL (kp b k)).head?=some x:=by
 unfold kp;rw[Hn,List.head?_append,h];rfl
theorem U2{a d:agL}(h:se a d)(n m:Nat)(hn:n<=12)(hm:m<=12):(fS a 0 n++fS d 0 m).Nodup:=by
 obtain⟨x,y,h1,h2,h3⟩:=h;rw[List.nodup_append];refine⟨DG a n 0 (by omega),DG d m 0 (by omega),λs hs t ht e=> ?_⟩;obtain⟨i,_,_,rfl⟩:=Bw hs;obtain⟨j,_,_,rfl⟩:=Bw ht;have:=Su h1 i;rw[e,Su h2 j]at this;exact h3 (age this).symm
theorem se.symm{a d:agL}(h:se a d):se d a:=let ⟨x,y,h1,h2,h3⟩:=h;⟨y,x,h2,h1,λe=>h3 e.symm⟩
section
variable {N:Nat} {p:aB} {a b c d:agL}
theorem CB:(mS a p).map (·.1)=p.aD:=xC ..
theorem On:(mT b c p).map (·.1)=p.aC.map (·.ak)++p.aw.map (·.ak):=by unfold mT;rw[List.map_append,xC,xC]
theorem Ji{f:aT}:(mV a d p f).map (·.1)=dY f++p.aD:=by unfold mV;rw[List.map_append,xC,CB]
theorem QN(h:p.aD.length<=12):uu p.aD (aW (mS a p)):=λx hx y hy e=>M5 (m:=mS a p) (by unfold mS;rw[Lg];exact DG a _ 0 (by omega)) (by rw[CB];exact hx) (by rw[CB];exact hy) e
theorem Xk{f:aT}(ha:se a d)(h:p.aD.length<=12)(hv:(dY f).length<=12):uu (dY f++p.aD) (aW (mV a d p f)):=λx hx y hy e=>M5 (m:=mV a d p f) (by unfold mV mS;rw[List.map_append,Lg,Lg];exact U2 ha.symm _ _ hv h) (by rw[Ji];exact hx) (by rw[Ji];exact hy) e
theorem ZZ:eu (bs [])=false:=rfl
theorem VP.XL(V:VP p):∀s∈p.aC.map (·.ak)++p.aw.map (·.ak),eu s=true:=λs hs=>by
 rcases agy.1 hs with hs|hs
 ·obtain⟨x,hx,rfl⟩:=List.mem_map.1 hs;exact((Gi _ _ V.GX).1 x hx).1
 ·obtain⟨x,hx,rfl⟩:=List.mem_map.1 hs;exact((JU _ _ V.defs).1 x hx).1
theorem VP.Xx(V:VP p):(p.aC.map (·.ak)++p.aw.map (·.ak)).Nodup:=by
 obtain⟨_,h1⟩:=Gi _ _ V.GX;obtain⟨h2,h3⟩:=JU _ _ V.defs;refine List.nodup_append.2 ⟨h1,h3,λs hs t ht e=> ?_⟩;obtain⟨x,hx,rfl⟩:=List.mem_map.1 ht;exact(h2 x hx).2 (List.mem_append_right _ (e▸hs))
theorem Qg(V:VP p):aW (mT b c p) (bs [])=bs []:=C4 _ _ (by
 rw[On];intro h;have:=V.XL _ h;rw[ZZ]at this;cases this)
theorem ae1{y:ao}(h:jd y=true)(h2:y.aM≠2):mN y.aP=true:=by
 unfold jd at h;simp only[afX,Bool.or_eq_true,beq_iff_eq]at h;exact h.2.2.2.2.1.resolve_left h2
theorem PC{y:ao}(h:jd y=true)(h2:y.aM≠3):y.ak=bs []/\y.xIdx=[]:=by
 unfold jd at h;simp only[afX,Bool.or_eq_true,beq_iff_eq]at h;obtain⟨h3,h4⟩:=h.2.2.2.2.2.1.resolve_left h2;exact⟨nN h3,List.eq_nil_of_length_eq_zero h4⟩
theorem PO{y:ao}(h:jd y=true):∀i∈y.xIdx,kQ i=true:=by
 unfold jd at h;simp only[afX]at h;exact agm.1 h.2.2.2.2.2.2
theorem UM{y:ao}(h:pa y=true):fZ y.aP=true/\∀i∈y.xIdx,fZ i.aP=true/\∀l∈i.bK,fZ l=true:=by
 unfold pa lh at h;rw[afX,agG,afX,List.all_flatMap]at h;refine⟨h.2.1,λi hi=> ?_⟩;have:=agm.1 h.2.2 i hi;unfold qg at this;rw[agG,afX]at this;exact⟨this.1,agm.1 this.2⟩
theorem Mm{V:agK agL}{P:agK ck}{D:agK aT}{e:ao}(h:oJ V P D e=0):∀i∈e.xIdx,nR V P D i=0:=by
 unfold oJ at h;cases h1:(dM P D e.ak).2.2 with
 |false=>rw[h1]at h;cases h
 |true=>
  rw[h1,cond_true]at h;cases h2:e.xIdx.length==(dM P D e.ak).2.1.length with
  |false=>rw[h2]at h;cases h
  |true=>rw[h2,cond_true]at h;exact xm h
theorem Tp{V:agK agL}{P:agK ck}{D:agK aT}{i:bl}(h:nR V P D i=0)(hb:kQ i=true):(j0 V i.aP=true/\i.bK=[])\/(mN i.aP=true/\∀l∈i.bK,j0 V l=true):=by
 unfold nR at h;unfold kQ at hb;cases h1:bL i.b7==[]with
 |true=>
  rw[h1,cond_true]at h hb;exact .inl ⟨J4 h,List.eq_nil_of_length_eq_zero (by simpa using hb)⟩
 |false=>
  rw[h1,cond_false]at h hb;refine .inr ⟨hb,?_⟩;cases h2:(dM P D i.b7).2.2 with
  |false=>rw[h2]at h;cases h
  |true=>
   rw[h2,cond_true]at h;cases h3:(dM P D i.b7).1.bO !=3 with
   |true=>rw[h3]at h;cases h
   |false=>
    rw[h3,cond_false]at h;cases h4:i.bK.length==(dM P D i.b7).2.1.length with
    |false=>rw[h4]at h;cases h
    |true=>rw[h4,cond_true]at h;exact λl hl=>J4 (xm h l hl)
theorem adI{k:Nat}{f:aT}{V T:Nm}(g:u7 p k f)(hl:ic 300 f.bY)(hi:uu (dY f++p.aD) (aW V))(hE:aW T (bs [])=bs []):pR V T f.bY:=λy hy=>by
 obtain⟨e1,e2,e3,e4,e5⟩:=Hw (Kb g.body y hy);obtain⟨f1,f2⟩:=UM e5;have ln:=hl y hy;refine⟨⟨?_,vv ln.fE⟩,λi cy=> ?_,?_,?_,λh3=> ?_⟩
 ·by_cases h2:y.aM=2
  ·exact vB hi f1 (J4 (g.qF y hy h2))
  ·exact Ty (ae1 e1 h2)
 ·by_cases h3:y.aM=3
  ·have lx:=ln.each i cy;have LD:=lx.at_;obtain⟨g1,g2⟩:=f2 i cy;refine⟨⟨?_,vv lx.fE⟩,λl hl=>⟨?_,vv (lx.qF l hl)⟩,by omega⟩
   ·rcases Tp (Mm (g.reads y hy h3) i cy) (PO e1 i cy)with⟨h4,h5⟩|⟨h4,h5⟩
    ·exact vB hi g1 h4
    ·exact Ty h4
   ·rcases Tp (Mm (g.reads y hy h3) i cy) (PO e1 i cy)with⟨h4,h5⟩|⟨h4,h5⟩
    ·rw[h5]at hl;cases hl
    ·exact vB hi (g2 l hl) (h5 l hl)
  ·rw[(PC e1 h3).2]at cy;cases cy
 ·have:=ln.idx;omega
 ·have:=ln.args;omega
 ·rw[(PC e1 h3).1];exact hE
theorem XU(V:VP p)(Sh:wQ p)(G:∀i f,p.aw[i]?=some f->u7 p i f)(hs:∀f∈p.aw,SizeOf.sizeOf f.bY<N)(ha:se a d):vS N (mS a p) (mT b c p) (mV a d p) p:=by
 refine⟨Sh.s,Sh.w,Sh.q,Sh.d,Sh.o,λc hc=>⟨?_,vv (agd (Sh.W c hc) (by decide))⟩,λx hx=>⟨λl hl=>⟨?_,vv (agd ((Sh.P x hx).2 l hl) (by decide))⟩,(Sh.P x hx).1⟩,λf hf=> ?_⟩
 ·obtain⟨h1,h2⟩:=GB (V.wh c hc);exact vB (QN Sh.s) h1 h2
 ·obtain⟨h1,h2⟩:=GB (xm (((Gi _ _ V.GX).1 x hx).2.2) l hl);exact vB (QN Sh.s) h1 h2
 ·obtain⟨k,hk⟩:=List.mem_iff_getElem?.1 hf;have g:=G k f hk;have hl:=g.len;have hv:(dY f).length<=12:=by unfold dY;rw[af0,afW];omega
  have hi:=Xk (p:=p) (f:=f) ha Sh.s hv;obtain⟨x1,x2⟩:=JQ _ _ g.NB;have hx:∀x∈f.aK++f.bx,fY (mV a d p f) x.cU:=λx hx=>by
   obtain⟨h1,h2⟩:=GB (x1 x hx).2.2;exact⟨vB (hi.sub λs hs=>List.mem_append_right _ hs) h1 h2,vv (agd ((Sh.D f hf).Rr x hx) (by decide))⟩
  exact⟨λx h=>hx x (List.mem_append_left _ h),λx h=>hx x (List.mem_append_right _ h),hl,adI g (Sh.D f hf).body hi (Qg V),hs f hf⟩
end
theorem WC(n:Nat):yD (n+3000)=some true:=by kernel_rfl
theorem ic.bd{e:ao}(h:ic 300 e):Hm e:=λy hy=>
 ⟨agd (h y hy).fE (by decide),agd (h y hy).idx (by decide),λx hx=>⟨agd ((h y hy).each x hx).fE (by decide),agd ((h y hy).each x hx).at_ (by decide),λl hl=>agd (((h y hy).each x hx).qF l hl) (by decide)⟩,agd (h y hy).args (by decide)⟩
theorem Ys{N:Nat}{p:aB}(h:wQ p)(hs:∀d∈p.aw,SizeOf.sizeOf d.bY<N):Bd N p:=
 ⟨agd h.s (by decide),agd h.w (by decide),agd h.q (by decide),agd h.d (by decide),agd h.o (by decide),
  ⟨λx hx=>agd (h.P x hx).1 (by decide),λx hx y hy=>agd ((h.P x hx).2 y hy) (by decide)⟩,
  ⟨λd hd=>by have h1:=(h.D d hd).tP;have h2:=(h.D d hd).red;omega,λd hd y hy=>agd ((h.D d hd).Rr y hy) (by decide)⟩,
  λc hc=>agd (h.W c hc) (by decide),λd hd=>⟨((h.D d hd).body.bd).ok,hs d hd⟩⟩
section
variable {N:Nat} {p:aB}
theorem ac8{f g:agL->agL}{v v':aT->agL->agL}(h:∀x∈p.aw,v x=v' x):x6 f g v p=x6 f g v' p:=by
 have:p.aw.map (λd=>oy (v d) g d)=p.aw.map (λd=>oy (v' d) g d):=agr λx hx=>by rw[h x hx]
 show(⟨_,_,_,p.aw.map (λd=>oy (v d) g d),_⟩:aB)=_;rw[this];rfl
structure tT(N:Nat)(p:aB):Prop where
 hN:9223372036854775808<N
 V:VP p
 Sh:wQ p
 G:∀i f,p.aw[i]?=some f->u7 p i f
 size:∀f∈p.aw,SizeOf.sizeOf f.bY<N
theorem tT.pI(h:tT N p){a b c d:agL}(ha:se a d):vS N (mS a p) (mT b c p) (mV a d p) p:=XU h.V h.Sh h.G h.size ha
theorem Tx:se (bs [115]) (bs [105]):=⟨115,105,rfl,rfl,by decide⟩
theorem tT.real(h:tT N p):vD N p p.aD 0 []=some (qq (bs [115]) (bs [112]) (bs [100]) (bs [105]) p,0):=by
 have k:=h.pI (b:=bs [112]) (c:=bs [100]) Tx;have l1:=k.s;have l3:=k.q;have l4:=k.d;rw[P3 N p l3 l4 p.aD 0 [] (by omega) (by rw[af7];omega),agh];have SU:(mS (bs [115]) p).map (·.1)=p.aD:=CB;have nS:((mS (bs [115]) p).map (·.1)).Nodup:=by rw[SU];exact(Hf _ _ h.V.names).2
 have Lt:(mT (bs [112]) (bs [100]) p).map (·.1)=p.aC.map (·.ak)++p.aw.map (·.ak):=On;have nT:((mT (bs [112]) (bs [100]) p).map (·.1)).Nodup:=by rw[Lt];exact h.V.Xx
 have pS:(mS (bs [115]) p).Perm (dx (bs [115]) 0 p.aD).reverse:=(List.reverse_perm _).symm;have pT:(mT (bs [112]) (bs [100]) p).Perm ((dx (bs [100]) 0 (p.aw.map (·.ak))).reverse++(dx (bs [112]) 0 (p.aC.map (·.ak))).reverse):=by
  unfold mT;rw[<-List.reverse_append];exact(List.reverse_perm _).symm
 have eS:aW (mS (bs [115]) p)=aW (dx (bs [115]) 0 p.aD).reverse:=funext λs=>LC pS nS s;have eT:aW (mT (bs [112]) (bs [100]) p)=aW ((dx (bs [100]) 0 (p.aw.map (·.ak))).reverse++(dx (bs [112]) 0 (p.aC.map (·.ak))).reverse):=funext λs=>LC pT nT s;have eV:∀f∈p.aw,aW (mV (bs [115]) (bs [105]) p f)=aW ((dx (bs [105]) 0 (dY f)).reverse++(dx (bs [115]) 0 p.aD).reverse):=λf hf=>by
  obtain⟨i,hi⟩:=List.mem_iff_getElem?.1 hf;have g:=h.G i f hi;obtain⟨x1,x2⟩:=JQ _ _ g.NB;refine funext λs=>LC ((List.reverse_perm _).symm.append pS) ?_ s;show((mV (bs [115]) (bs [105]) p f).map (·.1)).Nodup;rw[Ji];refine List.nodup_append.2 ⟨x2,(Hf _ _ h.V.names).2,λs hs t ht e=> ?_⟩;unfold dY at hs;obtain⟨x,hx,rfl⟩:=List.mem_map.1 hs;exact(x1 x hx).2.1 (List.mem_append_left _ (e▸ht))
 have k2:=Y0 eS eT (V':=λf=>(dx (bs [105]) 0 (dY f)).reverse++(dx (bs [115]) 0 p.aD).reverse) eV k;rw[acA (by rw[<-eT];exact Qg h.V) (by rw[List.length_reverse,Uq];omega) k2 ?_ ?_ ?_]
 ·unfold qq;rw[eS,eT];rw[ac8 eV]
 ·intro s hs;rw[<-(pS.map (·.1)).mem_iff,SU];exact hs
 ·intro x hx;rw[<-(pT.map (·.1)).mem_iff,Lt];exact List.mem_append_left _ (List.mem_map.2 ⟨x,hx,rfl⟩)
 ·intro s hs;rw[<-(pT.map (·.1)).mem_iff,Lt];exact h.V.outs s hs
theorem tT.ref(h:tT N p):AK N p ⟨bs [115],bs [112],bs [100],bs [105]⟩=some (qq (bs [115]) (bs [112]) (bs [100]) (bs [105]) p):=
 aaa (sc:=⟨bs [115],bs [112],bs [100],bs [105]⟩) (Nat.lt_trans (by decide) h.hN) (by decide) (by decide) (by decide) (by decide) (h.pI Tx)
theorem abr(N:Nat)(p:aB)(hN:9223372036854775808<N)(hd:∀d∈p.aw,ic nj d.bY/\SizeOf.sizeOf d.bY<N)(hr:∀d∈(qq (bs [115]) (bs [112]) (bs [100]) (bs [105]) p).aw,2*SizeOf.sizeOf d.bY+2<N):Lv N p=some true:=by
 have ex:yD N=some true:=by
  obtain⟨n,rfl⟩:∃n,N=n+3000:=⟨N-3000,by omega⟩;exact WC n
 obtain⟨b,l1,l2⟩:=ac2 N 300 (by decide) (by omega) p hd;unfold Lv;have l1:yE N p 300=some b:=l1;rw[l1,afU,ex];cases b with
 |true=>rfl
 |false=>
  have hS:=l2 rfl;have eQ:∀d∈p.aw,SizeOf.sizeOf d.bY<N:=λd h=>(hd d h).2;have B:=Ys (N:=N) hS eQ;obtain⟨a,x,v1,v2,v3⟩:=Uk (Nat.lt_trans (by decide) hN) B;simp only[cond_false];unfold EW Jk;rw[v1,v2];simp only[afU];cases hx:x !=0 with
  |true=>
   simp only[cond_true,afU];rw[Q4 N Ic (λd h=>by cases h)];simp only[afU,cond_true,agF]
  |false=>
   have Ya:=fz hx;subst Ya;have F:tT N p:=⟨hN,Uf (Nat.lt_trans (by decide) hN) B v2,hS,v3 rfl,eQ⟩;simp only[cond_false];rw[F.real,F.ref];simp only[afU];rw[Q4 N _ hr];simp only[afU,cond_true,agF]
end
def qG(k:IntKind)(n:Int):Prop:=k.min<=n/\n<=k.max
theorem Dq{n:Int}(h:qG .i64 n):∃m:Int64,n=m.toInt:=by
 refine⟨Int64.ofInt n,?_⟩;have h1:aN n=n:=by
  unfold aN;rw[IntKind.wrap_i64];have h2: -9223372036854775808<=n:=h.1;have h3:n<=9223372036854775807:=h.2;omega
 rw[Int64.toInt_ofInt,<-zU];exact h1.symm
theorem NA{p:agK D}:∀{l:agK (agK D)},p∈l->SizeOf.sizeOf p<=SizeOf.sizeOf l.flatten
 |[],h=>by cases h
 |q::l,h=>by
  have app:∀a b:agK D,SizeOf.sizeOf a<=SizeOf.sizeOf (a++b)/\SizeOf.sizeOf b<=SizeOf.sizeOf (a++b):=by
   intro a b
   induction a with
   |nil=>cases b<;>simp only[List.nil_append,List.nil.sizeOf_spec,List.cons.sizeOf_spec]<;>omega
   |cons x a ih=>simp only[List.cons_append,List.cons.sizeOf_spec];omega
  rw[List.flatten_cons];rcases agq.1 h with rfl|h
  ·exact(app _ _).1
  ·exact agd (NA h) (app _ _).2
structure Qv(x:j5):Prop where
 h0:True
 h1:True
theorem ZD{xs:agK D}(h:dj Tryz.prog 63 xs):∃x:j5,xs=adA x/\Qv x:=by
 obtain⟨parts,rfl,hl,hx⟩:=h.mP Tryz.underlying63
 match parts,hl with
 |[a0,a1],_=>
 obtain⟨iB,rfl,w_a0⟩:=(hx 0 _ _ rfl rfl).mH Tryz.underlying2;obtain⟨IM,rfl⟩:=Dq w_a0;obtain⟨iH,rfl,im⟩:=(hx 1 _ _ rfl rfl).mH Tryz.underlying2;obtain⟨H6,rfl⟩:=Dq im;exact⟨⟨IM,H6⟩,rfl,⟨trivial,trivial⟩⟩
structure EL(x:bz):Prop where
 h0:qG .i64 x.bO
 h1:qG .i64 x.bZ
 h2:qG .i64 x.cu
 h3:qG .i64 x.ct
 h4:qG .i64 x.cv
theorem Ie{xs:agK D}(h:dj Tryz.prog 56 xs):∃x:bz,xs=Ed x/\EL x:=by
 obtain⟨parts,rfl,hl,hx⟩:=h.mP Tryz.underlying56
 match parts,hl with
 |[a0,a1,a2,a3,a4],_=>
 obtain⟨iB,rfl,w_a0⟩:=(hx 0 _ _ rfl rfl).mH Tryz.underlying3;obtain⟨iH,rfl,im⟩:=(hx 1 _ _ rfl rfl).mH Tryz.underlying3;obtain⟨mB,rfl,mR⟩:=(hx 2 _ _ rfl rfl).mH Tryz.underlying3;obtain⟨tk,rfl,tz⟩:=(hx 3 _ _ rfl rfl).mH Tryz.underlying3;obtain⟨sO,rfl,tB⟩:=(hx 4 _ _ rfl rfl).mH Tryz.underlying3;exact⟨⟨iB,iH,mB,tk,sO⟩,rfl,⟨w_a0,im,mR,tz,tB⟩⟩
structure CS(x:aR):Prop where
 h0:x.ak.size<=maxLen
 h1:True
theorem aa7{xs:agK D}(h:dj Tryz.prog 115 xs):∃x:aR,xs=gO x/\CS x:=by
 obtain⟨parts,rfl,hl,hx⟩:=h.mP Tryz.underlying115
 match parts,hl with
 |[a0,a1],_=>
 obtain⟨iB,rfl,w_a0⟩:=(hx 0 _ _ rfl rfl).sI Tryz.underlying9;obtain⟨iH,rfl,im⟩:=(hx 1 _ _ rfl rfl).mH Tryz.underlying2;obtain⟨H6,rfl⟩:=Dq im;exact⟨⟨iB,H6⟩,rfl,⟨w_a0,trivial⟩⟩
theorem TT{xs:agK D}(h:dj Tryz.prog 50 xs):∃l:agK aR,xs=[.sl (cw l)]/\(l.length<=140737488355328/\∀a∈l,CS a):=by
 obtain⟨l,rfl,hl,hs⟩:=h.n5 Tryz.underlying50;obtain⟨r,rfl,hr⟩:=ny (f:=gO) (Q:=λa=>CS a) l (λx hx=>aa7 (hs x hx));exact⟨r,by rw[kC],by simpa using hl,hr⟩
structure pg(x:aI):Prop where
 h0:True
 h1:x.xL.length<=140737488355328/\∀a∈x.xL,CS a
theorem ya{xs:agK D}(h:dj Tryz.prog 52 xs):∃x:aI,xs=Ao x/\pg x:=by
 obtain⟨parts,rfl,hl,hx⟩:=h.mP Tryz.underlying52
 match parts,hl with
 |[a0,a1],_=>
 obtain⟨iB,rfl,w_a0⟩:=(hx 0 _ _ rfl rfl).mH Tryz.underlying2;obtain⟨IM,rfl⟩:=Dq w_a0;obtain⟨iH,rfl,im⟩:=TT (hx 1 _ _ rfl rfl);exact⟨⟨IM,iH⟩,rfl,⟨trivial,im⟩⟩
theorem NU{xs:agK D}(h:dj Tryz.prog 57 xs):∃l:agK aI,xs=[.sl (cV l)]/\(l.length<=140737488355328/\∀a∈l,pg a):=by
 obtain⟨l,rfl,hl,hs⟩:=h.n5 Tryz.underlying57;obtain⟨r,rfl,hr⟩:=ny (f:=Ao) (Q:=λa=>pg a) l (λx hx=>ya (hs x hx));exact⟨r,by rw[ui],by simpa using hl,hr⟩
structure Gl(x:bl):Prop where
 h0:pg x.aP
 h1:x.b7.size<=maxLen
 h2:x.bK.length<=140737488355328/\∀a∈x.bK,pg a
theorem Y5{xs:agK D}(h:dj Tryz.prog 111 xs):∃x:bl,xs=xx x/\Gl x:=by
 obtain⟨parts,rfl,hl,hx⟩:=h.mP Tryz.underlying111
 match parts,hl with
 |[a0,a1,a2],_=>
 obtain⟨iB,rfl,w_a0⟩:=ya (hx 0 _ _ rfl rfl);obtain⟨iH,rfl,im⟩:=(hx 1 _ _ rfl rfl).sI Tryz.underlying9;obtain⟨mB,rfl,mR⟩:=NU (hx 2 _ _ rfl rfl);exact⟨⟨iB,iH,mB⟩,rfl,⟨w_a0,im,mR⟩⟩
theorem ZH{xs:agK D}(h:dj Tryz.prog 64 xs):∃l:agK bl,xs=[.sl (cE l)]/\(l.length<=140737488355328/\∀a∈l,Gl a):=by
 obtain⟨l,rfl,hl,hs⟩:=h.n5 Tryz.underlying64;obtain⟨r,rfl,hr⟩:=ny (f:=xx) (Q:=λa=>Gl a) l (λx hx=>Y5 (hs x hx));exact⟨r,by rw[sP],by simpa using hl,hr⟩
inductive sQ:ao->Prop
 |mk (x:ao) (h0:qG .i64 x.aM) (h1:x.ak.size<=maxLen) (h2:Qv x.dL) (h3:EL x.aH) (h4:pg x.aP) (h5:x.xIdx.length<=140737488355328/\∀a∈x.xIdx,Gl a) (h6:x.ba.length<=140737488355328) (g6:∀a∈x.ba,sQ a):sQ x
theorem L7:∀(n:Nat)(xs:agK D),SizeOf.sizeOf xs<n->dj Tryz.prog 67 xs->∃x:ao,xs=dF x/\sQ x
 |0,_,h,_=>absurd h (ago _)
 |n+1,xs,hn,h=>by
  obtain⟨parts,rfl,hl,hx⟩:=h.mP Tryz.underlying67
  match parts,hl with
  |[a0,a1,a2,a3,a4,a5,a6],_=>
  obtain⟨iB,rfl,w_a0⟩:=(hx 0 _ _ rfl rfl).mH Tryz.underlying3;obtain⟨iH,rfl,im⟩:=(hx 1 _ _ rfl rfl).sI Tryz.underlying9;obtain⟨mB,rfl,mR⟩:=ZD (hx 2 _ _ rfl rfl);obtain⟨tk,rfl,tz⟩:=Ie (hx 3 _ _ rfl rfl);obtain⟨sO,rfl,tB⟩:=ya (hx 4 _ _ rfl rfl);obtain⟨IW,rfl,Lq⟩:=ZH (hx 5 _ _ rfl rfl);obtain⟨l_,rfl,WB,XB⟩:=(hx 6 _ _ rfl rfl).n5 Tryz.underlying65;obtain⟨r_,rfl,hr_⟩:=ny (f:=dF) (Q:=sQ) l_ (λx hx=>L7 n x (by have h1:=List.sizeOf_lt_of_mem hx;have h2:SizeOf.sizeOf [D.sl l_]<n+1:=Nat.lt_of_le_of_lt (NA (by simp)) hn;simp only[List.cons.sizeOf_spec,D.sl.sizeOf_spec,List.nil.sizeOf_spec]at h2;omega) (XB x hx));refine⟨⟨iB,iH,mB,tk,sO,IW,r_⟩,?_, .mk _ w_a0 im mR tz tB Lq (by simpa using WB) hr_⟩;show _=dF _;unfold dF;rw[nD];rfl
theorem Ui{xs:agK D}(h:dj Tryz.prog 67 xs):∃x:ao,xs=dF x/\sQ x:=L7 _ xs (agI _) h
theorem L6{xs:agK D}(h:dj Tryz.prog 22 xs):∃l:agK agL,xs=[.sl (bD l)]/\(l.length<=140737488355328/\∀a∈l,a.size<=maxLen):=by
 obtain⟨l,rfl,hl,hs⟩:=h.n5 Tryz.underlying22;obtain⟨r,rfl,hr⟩:=ny (f:=Es) (Q:=λa=>a.size<=maxLen) l (λx hx=>by
  obtain⟨YB,rfl,w_x⟩:=(hs x hx).sI Tryz.underlying9;exact⟨YB,rfl,w_x⟩)
 exact⟨r,by rw[nE],by simpa using hl,hr⟩
structure EC(x:cC):Prop where
 h0:pg x.aP
 h1:True
theorem acS{xs:agK D}(h:dj Tryz.prog 54 xs):∃x:cC,xs=xG x/\EC x:=by
 obtain⟨parts,rfl,hl,hx⟩:=h.mP Tryz.underlying54
 match parts,hl with
 |[a0,a1],_=>
 obtain⟨iB,rfl,w_a0⟩:=ya (hx 0 _ _ rfl rfl);obtain⟨iH,rfl⟩:=(hx 1 _ _ rfl rfl).adE Tryz.underlying4;exact⟨⟨iB,iH⟩,rfl,⟨w_a0,trivial⟩⟩
theorem Ut{xs:agK D}(h:dj Tryz.prog 23 xs):∃l:agK cC,xs=[.sl (ft l)]/\(l.length<=140737488355328/\∀a∈l,EC a):=by
 obtain⟨l,rfl,hl,hs⟩:=h.n5 Tryz.underlying23;obtain⟨r,rfl,hr⟩:=ny (f:=xG) (Q:=λa=>EC a) l (λx hx=>acS (hs x hx));exact⟨r,by rw[sU],by simpa using hl,hr⟩
structure Fp(x:ck):Prop where
 h0:x.ak.size<=maxLen
 h1:EL x.aH
 h2:x.aK.length<=140737488355328/\∀a∈x.aK,pg a
theorem aa5{xs:agK D}(h:dj Tryz.prog 59 xs):∃x:ck,xs=zK x/\Fp x:=by
 obtain⟨parts,rfl,hl,hx⟩:=h.mP Tryz.underlying59
 match parts,hl with
 |[a0,a1,a2],_=>
 obtain⟨iB,rfl,w_a0⟩:=(hx 0 _ _ rfl rfl).sI Tryz.underlying9;obtain⟨iH,rfl,im⟩:=Ie (hx 1 _ _ rfl rfl);obtain⟨mB,rfl,mR⟩:=NU (hx 2 _ _ rfl rfl);exact⟨⟨iB,iH,mB⟩,rfl,⟨w_a0,im,mR⟩⟩
theorem aeg{xs:agK D}(h:dj Tryz.prog 24 xs):∃l:agK ck,xs=[.sl (gq l)]/\(l.length<=140737488355328/\∀a∈l,Fp a):=by
 obtain⟨l,rfl,hl,hs⟩:=h.n5 Tryz.underlying24;obtain⟨r,rfl,hr⟩:=ny (f:=zK) (Q:=λa=>Fp a) l (λx hx=>aa5 (hs x hx));exact⟨r,by rw[uq],by simpa using hl,hr⟩
structure xP(x:bH):Prop where
 h0:x.ak.size<=maxLen
 h1:pg x.cU
theorem aar{xs:agK D}(h:dj Tryz.prog 72 xs):∃x:bH,xs=Af x/\xP x:=by
 obtain⟨parts,rfl,hl,hx⟩:=h.mP Tryz.underlying72
 match parts,hl with
 |[a0,a1],_=>
 obtain⟨iB,rfl,w_a0⟩:=(hx 0 _ _ rfl rfl).sI Tryz.underlying9;obtain⟨iH,rfl,im⟩:=ya (hx 1 _ _ rfl rfl);exact⟨⟨iB,iH⟩,rfl,⟨w_a0,im⟩⟩
theorem Rt{xs:agK D}(h:dj Tryz.prog 61 xs):∃l:agK bH,xs=[.sl (dD l)]/\(l.length<=140737488355328/\∀a∈l,xP a):=by
 obtain⟨l,rfl,hl,hs⟩:=h.n5 Tryz.underlying61;obtain⟨r,rfl,hr⟩:=ny (f:=Af) (Q:=λa=>xP a) l (λx hx=>aar (hs x hx));exact⟨r,by rw[sC],by simpa using hl,hr⟩
structure F6(x:aT):Prop where
 h0:x.ak.size<=maxLen
 h1:EL x.aH
 h2:x.aK.length<=140737488355328/\∀a∈x.aK,xP a
 h3:x.bx.length<=140737488355328/\∀a∈x.bx,xP a
 h4:qG .i64 x.dd
 h5:sQ x.bY
theorem acw{xs:agK D}(h:dj Tryz.prog 69 xs):∃x:aT,xs=zx x/\F6 x:=by
 obtain⟨parts,rfl,hl,hx⟩:=h.mP Tryz.underlying69
 match parts,hl with
 |[a0,a1,a2,a3,a4,a5],_=>
 obtain⟨iB,rfl,w_a0⟩:=(hx 0 _ _ rfl rfl).sI Tryz.underlying9;obtain⟨iH,rfl,im⟩:=Ie (hx 1 _ _ rfl rfl);obtain⟨mB,rfl,mR⟩:=Rt (hx 2 _ _ rfl rfl);obtain⟨tk,rfl,tz⟩:=Rt (hx 3 _ _ rfl rfl);obtain⟨sO,rfl,tB⟩:=(hx 4 _ _ rfl rfl).mH Tryz.underlying3;obtain⟨IW,rfl,Lq⟩:=Ui (hx 5 _ _ rfl rfl);exact⟨⟨iB,iH,mB,tk,sO,IW⟩,rfl,⟨w_a0,im,mR,tz,tB,Lq⟩⟩
theorem abY{xs:agK D}(h:dj Tryz.prog 25 xs):∃l:agK aT,xs=[.sl (eI l)]/\(l.length<=140737488355328/\∀a∈l,F6 a):=by
 obtain⟨l,rfl,hl,hs⟩:=h.n5 Tryz.underlying25;obtain⟨r,rfl,hr⟩:=ny (f:=zx) (Q:=λa=>F6 a) l (λx hx=>acw (hs x hx));exact⟨r,by rw[pV],by simpa using hl,hr⟩
structure SC(x:aB):Prop where
 h0:x.aD.length<=140737488355328/\∀a∈x.aD,a.size<=maxLen
 h1:x.bX.length<=140737488355328/\∀a∈x.bX,EC a
 h2:x.aC.length<=140737488355328/\∀a∈x.aC,Fp a
 h3:x.aw.length<=140737488355328/\∀a∈x.aw,F6 a
 h4:x.cd.length<=140737488355328/\∀a∈x.cd,a.size<=maxLen
theorem W6{xs:agK D}(h:dj Tryz.prog 27 xs):∃x:aB,xs=aaD x/\SC x:=by
 obtain⟨parts,rfl,hl,hx⟩:=h.mP Tryz.underlying27
 match parts,hl with
 |[a0,a1,a2,a3,a4],_=>
 obtain⟨iB,rfl,w_a0⟩:=L6 (hx 0 _ _ rfl rfl);obtain⟨iH,rfl,im⟩:=Ut (hx 1 _ _ rfl rfl);obtain⟨mB,rfl,mR⟩:=aeg (hx 2 _ _ rfl rfl);obtain⟨tk,rfl,tz⟩:=abY (hx 3 _ _ rfl rfl);obtain⟨sO,rfl,tB⟩:=L6 (hx 4 _ _ rfl rfl);exact⟨⟨iB,iH,mB,tk,sO⟩,rfl,⟨w_a0,im,mR,tz,tB⟩⟩
def acG:agK TypeId:=[2,3,4,9,22,23,24,25,27,50,52,54,56,57,59,61,63,64,65,67,69,72,111,115]
theorem WZ:J0 Tryz.prog acG=true:=by kernel_rfl
theorem abW{e:ao}(h:sQ e):ic nj e:=by
 induction h with
 |mk x h0 h1 h2 h3 h4 h5 h6 g6 ih=>
  intro y hy;rcases agq.1 hy with rfl|hy
  ·exact⟨h4.h1.1,h5.1,λz hz=>⟨(h5.2 z hz).h0.h1.1,(h5.2 z hz).h2.1,λl hl=>((h5.2 z hz).h2.2 l hl).h1.1⟩,h6⟩
  ·obtain⟨a,ha,hy⟩:=FO hy;exact ih a ha y hy
noncomputable def KZ(d:aT):Nat:=2*SizeOf.sizeOf d.bY+2
theorem JZ:∀{l:agK aT}{d:aT},d∈l->KZ d<=(l.map KZ).sum
 |x::l,d,h=>by
  rw[agl,List.sum_cons];rcases agq.1 h with rfl|h
  ·omega
  ·have:=JZ h;omega
noncomputable def Bx(p:aB):Nat:=(p.aw.map KZ).sum
theorem Wk(p:aB)(h:SC p):gj Tryz.prog 3 [cH p] (·= .d (.v (.bool true))):=by
 refine ae8 true (abr (9223372036854775900+Bx p+Bx (qq (bs [115]) (bs [112]) (bs [100]) (bs [105]) p)) p (by omega) (λd hd=>⟨abW (h.h3.2 d hd).h5,?_⟩) λd hd=> ?_)
 ·have h1:2*SizeOf.sizeOf d.bY+2<=Bx p:=JZ hd;omega
 ·have h1:2*SizeOf.sizeOf d.bY+2<=Bx (qq (bs [115]) (bs [112]) (bs [100]) (bs [105]) p):=JZ hd;omega
end Go.Proofs.YtmkmibahjanejaaGreatDoor
