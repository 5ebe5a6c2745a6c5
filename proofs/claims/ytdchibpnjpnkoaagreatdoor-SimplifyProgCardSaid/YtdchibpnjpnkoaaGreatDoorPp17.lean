/-
  Part 17 of the proof: PAll, ValNames, ValNode, SmV, LinP, ValTree, ValTree2, ValidLaw, InVal1, InVal2, InLin, InLin2, InLin3, InVal3, InVal4, CpE, Wts, Eqs.
-/
import Derived.Test.YtdchibpnjpnkoaaGreatDoorPp16
import Derived.Laws.Bits64
namespace Go.Proofs.YtdchibpnjpnkoaaGreatDoor
end Go.Proofs.YtdchibpnjpnkoaaGreatDoor
namespace Go.Proofs.YtdchibpnjpnkoaaGreatDoor
open Go.RowKit
theorem GZ(b:aso)(i:Nat):b[i]?=(bL b)[i]?:=by
 unfold bL;rw[arV];by_cases h:i<b.size
 ·rw[getElem?_pos b i h,arU (xs:=b.data) (by exact h)];rfl
 ·rw[getElem?_neg b i h,Array.getElem?_eq_none (xs:=b.data) (by exact Nat.le_of_not_lt h)]
theorem tK(b:aso):b.size=(bL b).length:=by unfold bL;rw[ar5];rfl
theorem uA{i:Nat}(h:i<9223372036854775807):aI ((i:Int)+1)=((i+1:Nat):Int):=by
 unfold aI;rw[IntKind.wrap_i64]<;>omega
def nS(c:UInt8):Bool:=decide (97<=c.toNat)&&decide (c.toNat<=122)
def js(c:UInt8):Bool:=nS c||(decide (48<=c.toNat)&&decide (c.toNat<=57))||c.toNat==95
def vo(l:asn UInt8):Bool:=ny.any λw=>bL w==l
def Ip(l:asn UInt8):Bool:=decide (1<=l.length)&&(decide (l.length<=16)&&(!vo l&&((l.take 1).all nS&&l.all js)))
def ia(s:aso):Bool:=Ip (bL s)
theorem X9(c:UInt8):IntKind.i32.wrap (c.toNat:Int)=(c.toNat:Int):=by
 have:=c.toNat_lt;rw[IntKind.wrap_i32]<;>omega
theorem mS{p q:Prop} [Decidable p] [Decidable q](h:p↔q):decide p=decide q:=decide_eq_decide.2 h
theorem dU(a b:Bool):(bif a then some b else some false)=some (a&&b):=by cases a<;>rfl
theorem jO(a b:Bool):(bif a then some true else some b)=some (a||b):=by cases a<;>rfl
theorem Vr(N:Nat)(c:UInt8):Fa N (c.toNat:Int)=some (nS c):=by
 unfold Fa nS;rw[dU,arx,mS (q:=97<=c.toNat) (by omega),mS (p:=(c.toNat:Int)<=122) (q:=c.toNat<=122) (by omega)]
theorem ahp(N:Nat)(c:UInt8):MP N (c.toNat:Int)=some (decide (48<=c.toNat)&&decide (c.toNat<=57)):=by
 unfold MP;rw[dU,arx,mS (q:=48<=c.toNat) (by omega),mS (p:=(c.toNat:Int)<=57) (q:=c.toNat<=57) (by omega)]
theorem nU(n k:Nat):((n:Int)==(k:Int))=(n==k):=by
 rw[Bool.eq_iff_iff,beq_iff_eq,beq_iff_eq];omega
theorem ame(N:Nat)(c:UInt8):IV N (c.toNat:Int)=some (js c):=by
 unfold IV js;rw[Vr,arx,ahp,arx];have:=nU c.toNat 95;rw[show(((c.toNat:Int)==95))=(c.toNat==95)from this];rw[jO,jO,arx,Bool.or_assoc]
theorem Y1(N:Nat)(s:aso)(hs:s.size<9223372036854775807):∀(k i:Nat),i<=s.size->s.size-i<k->Gj N s k (i:Int)=some ((i+(((bL s).drop i).takeWhile js).length:Nat):Int)
 |0,i,_,hk=>absurd hk (ar0 _)
 |k+1,i,hi,hk=>by
  rw[Gj];by_cases aS:i<s.size
  ·have h1:decide ((i:Int)<(s.size:Int))=true:=asf (by omega);have h2:decide ((0:Int)<=(i:Int))=true:=asf (by omega);rw[h1,h2];simp only[cond_true,arZ];have hl:i<(bL s).length:=by rw[<-tK];exact aS
   rw[GZ,arC hl,List.drop_eq_getElem_cons hl,arx,X9,ame,arx,arx];cases hw:js (bL s)[i]with
   |true=>
    simp only[cond_true];rw[uA (Nat.lt_trans aS hs),Y1 N s hs k (i+1) aS (by omega),List.takeWhile_cons_of_pos hw,arB]
    congr 2;omega
   |false=>
    simp only[cond_false];rw[List.takeWhile_cons_of_neg (by rw[hw];simp)];rfl
  ·have h1:decide ((i:Int)<(s.size:Int))=false:=asg (by omega);rw[h1];simp only[cond_false,arx];rw[List.drop_eq_nil_of_le (by rw[<-tK];omega)];rfl
theorem aip(N:Nat)(s:aso)(hs:s.size<9223372036854775807)(hN:s.size<N):KL N s=some ((((bL s).takeWhile js).length:Nat):Int):=by
 unfold KL;have:=Y1 N s hs N 0 (Nat.zero_le _) (by omega);rw[ar7,arS]at this;exact this
theorem abm{α:Type}(p:α->Bool):∀l:asn α,((l.takeWhile p).length==l.length)=l.all p
 |[]=>rfl
 |x::l=>by
  cases h:p x with
  |true=>
   rw[List.takeWhile_cons_of_pos h,asi,h,Bool.true_and,<-abm p l];simp
  |false=>rw[List.takeWhile_cons_of_neg (by rw[h];simp),asi,h];simp
theorem Ry(N:Nat)(v:aso):∀(l:asn aso)(k:Nat),∃z:Int,Lo N v l k=some z/\decide (z>=0)=l.any λw=>bL w==bL v
 |[],k=>⟨-1,rfl,rfl⟩
 |w::l,k=>by
  rw[Lo,asj];have hc:(bL v==bL w)=(bL w==bL v):=by rw[Bool.eq_iff_iff,beq_iff_eq,beq_iff_eq];exact eq_comm
  cases h:bL v==bL w with
  |true=>rw[hc]at h;exact⟨k,rfl,by rw[h,Bool.true_or];exact asf (by omega)⟩
  |false=>
   obtain⟨z,h1,h2⟩:=Ry N v l (k+1);rw[hc]at h;exact⟨z,h1,by rw[h,Bool.false_or];exact h2⟩
theorem aoh(N:Nat)(v:aso):J5 N v=some (vo (bL v)):=by
 unfold J5 QQ Aw MG;obtain⟨z,h1,h2⟩:=Ry N v ny 0;rw[arx,h1,arx,arx,h2];rfl
theorem N5{α:Type}{l:asn α}(h:0<l.length):l.take 1=[l[0]]:=by
 cases l with
 |nil=>cases h
 |cons x l=>rfl
theorem td:bL (bs [])=[]:=rfl
theorem KG(N:Nat)(s:aso)(hN:16<N):xd N s=some (ia s):=by
 unfold xd ia Ip;have hz:=tK s;by_cases h0:(bL s).length=0
 ·have:bL s=[]:=List.length_eq_zero_iff.1 h0;rw[this];rfl
 have cP:(bL s==bL (bs []))=false:=by
  rw[td,beq_eq_false_iff_ne];intro h;rw[h]at h0;exact h0 rfl
 rw[cP,asf (show 1<=(bL s).length by omega),Bool.true_and];simp only[cond_false];by_cases bm:(bL s).length<=16
 ·rw[asf (show(s.size:Int)<=16 by omega),asf bm,Bool.true_and];simp only[cond_true];have hl:0<(bL s).length:=by omega
  rw[GZ,arC hl,arx,X9,Vr,arx,aip N s (by omega) (by omega),arx,aoh,arx];rw[hz,nU,abm];have ht:(bL s).take 1=[(bL s)[0]]:=N5 hl;rw[ht,asi,List.all_nil,Bool.and_true,dU,dU,arx]
  congr 1
  cases vo (bL s)<;>cases nS (bL s)[0]<;>cases (bL s).all js<;>rfl
 ·rw[asg (show ¬(s.size:Int)<=16 by omega),asg bm];rfl
theorem ahC(N:Nat)(b:Bool):iK N b=some b:=by cases b<;>rfl
theorem ahv(a b:Bool):(bif a then some a else some b)=some (a||b):=by cases a<;>rfl
theorem apJ(a b:asn UInt8):(a==b)=(b==a):=by rw[Bool.eq_iff_iff,beq_iff_eq,beq_iff_eq];exact eq_comm
theorem ahX(N:Nat)(v:aso):Il N v=some (vo (bL v)):=by
 simp only[Il,ahC,ahv,vo,ny,asj,List.any_nil,Bool.or_false,apJ (bL v)]
theorem GH(n k:Nat):decide ((n:Int)<(k:Int))= !decide (k<=n):=by
 by_cases h:k<=n
 ·rw[asf h,asg (by omega)];rfl
 ·rw[asg h,asf (by omega)];rfl
theorem kP(n k:Nat):decide ((n:Int)>(k:Int))= !decide (n<=k):=by
 by_cases h:n<=k
 ·rw[asf h,asg (by omega)];rfl
 ·rw[asg h,asf (by omega)];rfl
theorem Vh(n k:Nat):decide ((n:Int)>=(k:Int))=decide (k<=n):=mS (by omega)
theorem wQ(n k:Nat):decide ((n:Int)<=(k:Int))=decide (n<=k):=mS (by omega)
theorem UY(n k:Nat):((n:Int) !=(k:Int))= !(n==k):=by unfold bne;rw[nU]
theorem ajN(c:UInt8):(bif (decide ((c.toNat:Int)<97))then(bif (decide ((c.toNat:Int)<48))then some ((c.toNat:Int) !=95)else(bif (decide ((c.toNat:Int)>57))then some ((c.toNat:Int) !=95)else some false))else(bif (decide ((c.toNat:Int)>122))then(bif (decide ((c.toNat:Int)<48))then some ((c.toNat:Int) !=95)else(bif (decide ((c.toNat:Int)>57))then some ((c.toNat:Int) !=95)else some false))else some false))=some (!js c):=by
 have a1:=GH c.toNat 97;have a2:=GH c.toNat 48;have a3:=kP c.toNat 57;have a4:=kP c.toNat 122;have a5:=UY c.toNat 95;simp only[Int.cast_ofNat_Int]at a1 a2 a3 a4 a5;rw[a1,a2,a3,a4,a5];unfold js nS;cases decide (97<=c.toNat)<;>cases decide (48<=c.toNat)<;>cases decide (c.toNat<=57)<;>cases decide (c.toNat<=122)<;>cases (c.toNat==95)<;>rfl
theorem acr(N:Nat)(s:aso)(hs:s.size<9223372036854775807):∀(k i:Nat),i<=s.size->s.size-i<k->Ah N s k (i:Int)=some (((bL s).drop i).all js)
 |0,i,_,hk=>absurd hk (ar0 _)
 |k+1,i,hi,hk=>by
  rw[Ah];by_cases aS:i<s.size
  ·have h1:decide ((i:Int)<(s.size:Int))=true:=asf (by omega);have h2:decide ((0:Int)<=(i:Int))=true:=asf (by omega);rw[h1,h2];simp only[cond_true,arZ];have hl:i<(bL s).length:=by rw[<-tK];exact aS
   rw[GZ,arC hl,List.drop_eq_getElem_cons hl,arx,ajN,arx,asi];cases hw:js (bL s)[i]with
   |true=>
    simp only[Bool.not_true,cond_false,Bool.true_and];rw[uA (Nat.lt_trans aS hs),acr N s hs k (i+1) aS (by omega)]
   |false=>rfl
  ·have h1:decide ((i:Int)<(s.size:Int))=false:=asg (by omega);rw[h1];simp only[cond_false];rw[List.drop_eq_nil_of_le (by rw[<-tK];omega)];rfl
theorem ahK(N:Nat)(s:aso)(hN:16<N):JH N s=some (ia s):=by
 unfold JH ia Ip;have hz:=tK s;have a1:=GH s.size 1;have a2:=kP s.size 16;simp only[Int.cast_ofNat_Int]at a1 a2;rw[a1,a2,hz];cases h1:decide (1<=(bL s).length)with
 |false=>rfl
 |true=>
  cases bm:decide ((bL s).length<=16)with
  |false=>rfl
  |true=>
   have pV:=of_decide_eq_true h1;have afr:=of_decide_eq_true bm;have hl:0<(bL s).length:=by omega
   simp only[Bool.not_true,cond_false,Bool.true_and];rw[ahX,arx,GZ,arC hl,arx];have b1:=GH (bL s)[0].toNat 97;have b2:=kP (bL s)[0].toNat 122;simp only[Int.cast_ofNat_Int]at b1 b2;rw[b1,b2,jO,jO,arx,N5 hl];have:=acr N s (by omega) N 0 (Nat.zero_le _) (by omega);rw[ar7]at this;rw[show Ah N s N 0=_ from this,asi,List.all_nil,Bool.and_true];unfold nS;cases vo (bL s)<;>cases decide (97<=(bL s)[0].toNat)<;>cases decide ((bL s)[0].toNat<=122)<;>rfl
theorem UH(N:Nat)(v:aso):∀(l:asn aso)(k:Nat),HN N v l k=some (l.any λw=>bL w==bL v)
 |[],_=>rfl
 |w::l,k=>by
  rw[HN,asj,UH N v l (k+1)];cases bL w==bL v<;>rfl
theorem aek(c:UInt8)(z:Bool):(bif (decide ((c.toNat:Int)>=97))then(bif (decide ((c.toNat:Int)<=122))then some (!true)else(bif z then(bif (decide ((c.toNat:Int)>=48))then(bif (decide ((c.toNat:Int)<=57))then some (!true)else some (!((c.toNat:Int)==95)))else some (!((c.toNat:Int)==95)))else some (!false)))else(bif z then(bif (decide ((c.toNat:Int)>=48))then(bif (decide ((c.toNat:Int)<=57))then some (!true)else some (!((c.toNat:Int)==95)))else some (!((c.toNat:Int)==95)))else some (!false)))=some (!(bif z then js c else nS c)):=by
 have a1:=Vh c.toNat 97;have a2:=Vh c.toNat 48;have a3:=wQ c.toNat 57;have a4:=wQ c.toNat 122;have a5:=nU c.toNat 95;simp only[Int.cast_ofNat_Int]at a1 a2 a3 a4 a5;rw[a1,a2,a3,a4,a5];unfold js nS;cases decide (97<=c.toNat)<;>cases decide (48<=c.toNat)<;>cases decide (c.toNat<=57)<;>cases decide (c.toNat<=122)<;>cases (c.toNat==95)<;>cases z<;>rfl
theorem aaz(N:Nat)(s:aso)(hs:s.size<9223372036854775807):∀(k i:Nat),i<=s.size->s.size-i<k->BC N s k (i:Int)=some (bif decide (i>0)then((bL s).drop i).all js else((bL s).take 1).all nS&&((bL s).drop 1).all js)
 |0,i,_,hk=>absurd hk (ar0 _)
 |k+1,i,hi,hk=>by
  rw[BC];by_cases aS:i<s.size
  ·have h1:decide ((i:Int)<(s.size:Int))=true:=asf (by omega);have h2:decide ((0:Int)<=(i:Int))=true:=asf (by omega);rw[h1,h2];simp only[cond_true,arZ];have hl:i<(bL s).length:=by rw[<-tK];exact aS
   rw[GZ,arC hl,arx,aek,arx];rw[uA (Nat.lt_trans aS hs),aaz N s hs k (i+1) aS (by omega),asf (show i+1>0 by omega)];simp only[cond_true];by_cases h0:i=0
   ·subst h0;rw[asg (show ¬((0:Nat):Int)>0 by omega),asg (show ¬0>0 by omega)];simp only[cond_false];rw[N5 hl,asi,List.all_nil,Bool.and_true];cases nS (bL s)[0]<;>rfl
   ·rw[asf (show(i:Int)>0 by omega),asf (show i>0 by omega)];simp only[cond_true];rw[List.drop_eq_getElem_cons hl,asi];cases js (bL s)[i]<;>rfl
  ·have h1:decide ((i:Int)<(s.size:Int))=false:=asg (by omega);rw[h1];simp only[cond_false];have hn:(bL s).drop i=[]:=List.drop_eq_nil_of_le (by rw[<-tK];omega);by_cases h0:i=0
   ·subst h0;rw[ar7]at hn;rw[hn];rfl
   ·rw[asf (show i>0 by omega),hn];rfl
theorem NQ(N:Nat)(s:aso)(hN:16<N):xw N s=some (ia s):=by
 unfold xw ia Ip;have hz:=tK s;have a1:=GH s.size 1;have a2:=kP s.size 16;simp only[Int.cast_ofNat_Int]at a1 a2;rw[a1,a2,hz];cases h1:decide (1<=(bL s).length)with
 |false=>rfl
 |true=>
  cases bm:decide ((bL s).length<=16)with
  |false=>rfl
  |true=>
   have pV:=of_decide_eq_true h1;have afr:=of_decide_eq_true bm;have hl:0<(bL s).length:=by omega
   simp only[Bool.not_true,cond_false,Bool.true_and];have hh:∀l,wD N l s=some (l.any λw=>bL w==bL s):=λl=>UH N s l 0;unfold OV;rw[arx,hh,arx,arx];have:=aaz N s (by omega) N 0 (Nat.zero_le _) (by omega);rw[show BC N s N 0=_ from this];show(bif vo (bL s)then some false else some (((bL s).take 1).all nS&&((bL s).drop 1).all js))=_;have hw:(bL s).all js=(js (bL s)[0]&&((bL s).drop 1).all js):=by
    have hd:bL s=(bL s)[0]::(bL s).drop 1:=by
     have:=List.drop_eq_getElem_cons hl
     rwa [ar7]at this
    rw[<-asi,<-hd]
   rw[hw,N5 hl,asi,List.all_nil,Bool.and_true];unfold js;cases vo (bL s)<;>cases nS (bL s)[0]<;>simp
def cZ(t:aE):Bool:=
 bif t.aO==1||t.aO==3 then t.bo==0&&(t.bE==0&&(t.bN==0&&t.bM==0))
 else t.aO==2&&(decide (2<=t.bo)&&(decide (t.bo<=31)&&(decide (0<=t.bE)&&(decide (t.bE<=30)&&(decide (1<=t.bN)&&(decide (t.bN<=4)&&(t.bM==1||t.bM==2)))))))
theorem amK(a:Bool):(bif a then some true else some false)=some a:=by cases a<;>rfl
theorem Qf(a b:Int):decide (a<b)= !decide (b<=a):=by
 by_cases h:b<=a
 ·rw[asf h,asg (by omega)];rfl
 ·rw[asg h,asf (by omega)];rfl
theorem ED(a b:Int):decide (a>b)= !decide (a<=b):=Qf b a
theorem mJ(a b:Int):decide (a>=b)=decide (b<=a):=rfl
theorem gV(a b:Int):(a !=b)= !(a==b):=rfl
theorem qJ(N:Nat)(t:aE):mT N t=some (cZ t):=by
 unfold mT cZ;simp only[jO,dU,arx,mJ];cases (t.aO==1||t.aO==3)<;>rfl
theorem P9(N:Nat)(t:aE)(h:(t.aO==2)=true):ve N t=some (bif (decide (2<=t.bo)&&(decide (t.bo<=31)&&(decide (0<=t.bE)&&(decide (t.bE<=30)&&(decide (1<=t.bN)&&(decide (t.bN<=4)&&(t.bM==1||t.bM==2)))))))then 0 else 10):=by
 unfold ve;simp only[jO,dU,arx,mJ,ED,gV,h,Bool.not_true,Bool.false_or];cases decide (2<=t.bo)<;>cases decide (t.bo<=31)<;>cases decide (0<=t.bE)<;>cases decide (t.bE<=30)<;>cases decide (1<=t.bN)<;>cases decide (t.bN<=4)<;>cases t.bM==1<;>cases t.bM==2<;>rfl
theorem oV(N:Nat)(t:aE):nY N t=some (bif cZ t then 0 else 10):=by
 unfold nY KU cZ PB;cases h1:t.aO==1 with
 |true=>
  simp only[cond_true,arx,ash,Bool.true_and,Bool.true_or,Bool.and_true];cases (t.bo==0&&(t.bE==0&&(t.bN==0&&t.bM==0)))<;>rfl
 |false=>
  cases h3:t.aO==3 with
  |true=>
   simp only[cond_true,cond_false,arx,ash,Bool.true_and,Bool.or_true,Bool.and_true];cases (t.bo==0&&(t.bE==0&&(t.bN==0&&t.bM==0)))<;>rfl
  |false=>
   cases h2:t.aO==2 with
   |true=>
    rw[P9 N t h2];simp only[cond_true,cond_false,arx,Bool.true_and,Bool.or_false];cases (decide (2<=t.bo)&&(decide (t.bo<=31)&&(decide (0<=t.bE)&&(decide (t.bE<=30)&&(decide (1<=t.bN)&&(decide (t.bN<=4)&&(t.bM==1||t.bM==2)))))))<;>rfl
   |false=>rfl
def s8:asp aso->asn bB->Bool
 |_,[]=>true
 |p,m::l=>ia m.aC&&(!(m.dE.toInt==0)&&((match p with|none=>true|some q=>Op.bytesLess (bL q) (bL m.aC))&&s8 (some m.aC) l))
theorem SM(p:asp aso)(m:bB)(l:asn bB):s8 p (m::l)=(ia m.aC&&(!(m.dE.toInt==0)&&((match p with|none=>true|some q=>Op.bytesLess (bL q) (bL m.aC))&&s8 (some m.aC) l))):=by cases p<;>rfl
def eH(x:aH):Bool:=s8 none x.xL
def tb(x:aH)(k:Nat):asp aso:=bif k==0 then none else(x.xL[k-1]?).map (·.aC)
theorem ajP{k:Nat}(h0:0<k)(h:k<=maxLen):aI ((k:Int)-1)=((k-1:Nat):Int):=by
 unfold aI;have:(k:Int)-1=((k-1:Nat):Int):=by omega
 rw[this];unfold maxLen at h;rw[IntKind.wrap_i64]<;>omega
theorem adQ{x:aH}{k:Nat}{m:bB}{l:asn bB}(hd:x.xL.drop k=m::l):tb x (k+1)=some m.aC:=by
 have:=ba hd;unfold tb;simp [this]
theorem XF{x:aH}{k:Nat}{m:bB}{l:asn bB}(hd:x.xL.drop k=m::l)(hm:x.xL.length<=maxLen):
 (bif (decide ((k:Int)>0))then bif (decide ((0:Int)<=(aI ((k:Int)-(1:Int)))))then
 Option.bind (x.xL[((aI ((k:Int)-(1:Int)))).toNat]?) λv7=>
 some (!(Op.bytesLess (bL v7.aC) (bL m.aC)))
 else none else some false)=some (!(match tb x k with|none=>true|some q=>Op.bytesLess (bL q) (bL m.aC))):=by
 have aS:k<x.xL.length:=(ary.1 (ba hd)).1;by_cases h0:k=0
 ·subst h0;rfl
 ·rw[asf (show(k:Int)>0 by omega),ajP (by omega) (by omega),asf (show(0:Int)<=((k-1:Nat):Int) by omega)];simp only[cond_true,arZ];have hp:tb x k=(x.xL[k-1]?).map (·.aC):=by
    unfold tb;rw[beq_false_of_ne h0];rfl
  rw[hp,arC (show k-1<x.xL.length by omega)];rfl
theorem Ym(N:Nat)(hN:16<N)(x:aH)(hm:x.xL.length<=maxLen):∀(l:asn bB)(k:Nat),x.xL.drop k=l->HQ N x l k=some (bif s8 (tb x k) l then 0 else 1)
 |[],k,_=>rfl
 |m::l,k,hd=>by
  rw[HQ,ahK N m.aC hN,arx,SM,XF hd hm,Ym N hN x hm l (k+1) (l6 hd),adQ hd];generalize (match tb x k with|none=>true|some q=>Op.bytesLess (bL q) (bL m.aC))=b;cases ia m.aC<;>cases (m.dE.toInt==0)<;>cases b<;>cases s8 (some m.aC) l<;>rfl
theorem CI(N:Nat)(hN:16<N)(x:aH)(hm:x.xL.length<=maxLen):uu N x=some (bif eH x then 0 else 1):=Ym N hN x hm x.xL 0 rfl
theorem Xz(N:Nat)(hN:16<N)(x:aH)(hm:x.xL.length<=maxLen):∀(l:asn bB)(k:Nat),x.xL.drop k=l->Jq N x l k=some (s8 (tb x k) l)
 |[],k,_=>rfl
 |m::l,k,hd=>by
  rw[Jq,NQ N m.aC hN,arx,SM,XF hd hm,Xz N hN x hm l (k+1) (l6 hd),adQ hd];generalize (match tb x k with|none=>true|some q=>Op.bytesLess (bL q) (bL m.aC))=b;cases ia m.aC<;>cases (m.dE.toInt==0)<;>cases b<;>cases s8 (some m.aC) l<;>rfl
theorem Hr(N:Nat)(hN:16<N)(x:aH)(hm:x.xL.length<=maxLen):u7 N x=some (eH x):=Xz N hN x hm x.xL 0 rfl
def dG(t:aE)(v:aG):Bool:=
 bif t.aO==2 then v.xD.toInt==1&&(decide (-(2^(t.bo-1).toNat)<=v.xN.toInt)&&decide (v.xN.toInt<2^(t.bo-1).toNat))
 else decide (v.xN.toInt<=2147483647)&&(decide (-2147483647<=v.xN.toInt)&&(decide (1<=v.xD.toInt)&&(decide (v.xD.toInt<=2147483647)&&
  (bif t.aO==3 then v.xD.toInt==1 else Nat.gcd v.xN.toInt.natAbs v.xD.toInt.toNat==1))))
theorem aoZ:∀n:Fin 30,(decide ((0:Int)<=(IntKind.u64.wrap (aI (((n.val+2:Nat):Int)-(1:Int))))))=true/\(decide ((0:Int)<=(aI (((n.val+2:Nat):Int)-(1:Int)))))=true/\
 (-(Int64.ofInt ((1:Int)*2^(min ((IntKind.u64.wrap (aI (((n.val+2:Nat):Int)-(1:Int))))).toNat (IntKind.bits .i64))))).toInt= -(2^(n.val+1))/\
 ((Int64.ofInt ((1:Int)*2^(min ((IntKind.u64.wrap (aI (((n.val+2:Nat):Int)-(1:Int))))).toNat (IntKind.bits .i64))))-(1:Int64)).toInt=2^(n.val+1)-1/\
 (-(Int64.ofInt ((1:Int)*2^(min ((aI (((n.val+2:Nat):Int)-(1:Int)))).toNat (IntKind.bits .i64))))).toInt= -(2^(n.val+1))/\
 (Int64.ofInt ((1:Int)*2^(min ((aI (((n.val+2:Nat):Int)-(1:Int)))).toNat (IntKind.bits .i64)))).toInt=2^(n.val+1):=by decide+kernel
theorem LH{b:Int}(h1:2<=b)(h2:b<=31):(decide ((0:Int)<=(IntKind.u64.wrap (aI (b-(1:Int))))))=true/\(decide ((0:Int)<=(aI (b-(1:Int)))))=true/\
 (-(Int64.ofInt ((1:Int)*2^(min ((IntKind.u64.wrap (aI (b-(1:Int))))).toNat (IntKind.bits .i64))))).toInt= -(2^(b-1).toNat)/\
 ((Int64.ofInt ((1:Int)*2^(min ((IntKind.u64.wrap (aI (b-(1:Int))))).toNat (IntKind.bits .i64))))-(1:Int64)).toInt=2^(b-1).toNat-1/\
 (-(Int64.ofInt ((1:Int)*2^(min ((aI (b-(1:Int)))).toNat (IntKind.bits .i64))))).toInt= -(2^(b-1).toNat)/\
 (Int64.ofInt ((1:Int)*2^(min ((aI (b-(1:Int)))).toNat (IntKind.bits .i64)))).toInt=2^(b-1).toNat:=by
 obtain⟨n,rfl⟩:∃n:Nat,b=n:=⟨b.toNat,by omega⟩;have:=aoZ ⟨n-2,by omega⟩;simp only[show n-2+2=n by omega,show n-2+1=n-1 by omega]at this;rw[show((n:Int)-1).toNat=n-1 by omega];exact this
theorem LX(N:Nat):∀(k a b:Nat),b<k->GX N k (a:Int) (b:Int)=some ((Nat.gcd a b:Nat):Int)
 |0,a,b,h=>absurd h (ar0 _)
 |k+1,a,b,h=>by
  rw[GX];by_cases h0:b=0
  ·subst h0;simp
  ·rw[show(((b:Nat):Int) !=0)=true by rw[bne_iff_ne];omega];simp only[cond_true];rw[<-Int.ofNat_tmod,LX N k b (a%b) (by have:=Nat.mod_lt a (Nat.pos_of_ne_zero h0);omega)];rw[Nat.gcd_comm a b,Nat.gcd_rec b a,Nat.gcd_comm]
theorem aag(N:Nat):∀(k:Nat)(a b:Int64),0<=a.toInt->0<=b.toInt->b.toInt.toNat<k->∃g:Int64,DB N k a b=some g/\g.toInt=((Nat.gcd a.toInt.toNat b.toInt.toNat:Nat):Int)
 |0,a,b,_,_,h=>absurd h (ar0 _)
 |k+1,a,b,ha,hb,h=>by
  rw[DB];by_cases h0:b.toInt=0
  ·rw[h0];refine⟨a,rfl,?_⟩;show a.toInt=((Nat.gcd a.toInt.toNat 0:Nat):Int);rw[Nat.gcd_zero_right];omega
  ·rw[show(b.toInt !=0)=true by rw[bne_iff_ne];exact h0];simp only[cond_true];obtain⟨x,hx⟩:∃x:Nat,a.toInt=x:=⟨a.toInt.toNat,by omega⟩;obtain⟨y,hy⟩:∃y:Nat,b.toInt=y:=⟨b.toInt.toNat,by omega⟩;rw[hx,hy];have hyp:0<y:=by omega
   have hm:(x:Int).tmod (y:Int)=((x%y:Nat):Int):=(Int.ofNat_tmod x y).symm;have aS:=Nat.mod_lt x hyp;have lI:b.toInt<2^63:=Int64.toInt_lt b;have mq:(Int64.ofInt ((x%y:Nat):Int)).toInt=((x%y:Nat):Int):=by
    rw[Int64.toInt_ofInt_of_le]
    ·omega
    ·omega
   rw[hm];obtain⟨g,h1,h2⟩:=aag N k b (Int64.ofInt ((x%y:Nat):Int)) hb (by rw[mq];omega) (by rw[mq];omega);refine⟨g,h1,?_⟩;rw[h2,mq,hy];simp only[arZ];rw[Nat.gcd_comm x y,Nat.gcd_rec y x,Nat.gcd_comm]
theorem lk(z:Int):IntKind.u64.wrap z=z%18446744073709551616:=rfl
theorem EF(N:Nat)(v:Int64):B7 N v=some ((v.toInt.natAbs:Nat):Int):=by
 unfold B7;have h1:v.toInt<2^63:=Int64.toInt_lt v;have h2: -2^63<=v.toInt:=Int64.le_toInt v;by_cases h:v.toInt<0
 ·rw[asf h];simp only[cond_true,lk]
  congr 1
  omega
 ·rw[asg h];simp only[cond_false,lk]
  congr 1
  omega
theorem wo(N:Nat)(hN:2147483648<N)(t:aE)(v:aG)(ht:cZ t=true):qn N t v=some (dG t v):=by
 unfold qn;rw[oV,ht,arx];unfold dG;cases h2:t.aO==2 with
 |true=>
  simp only[cond_true];show Option.bind (tF N t v) _=_;unfold cZ at ht;have hk:t.aO=2:=by simpa using h2
  rw[hk]at ht;have qP:(decide (2<=t.bo)&&(decide (t.bo<=31)&&(decide (0<=t.bE)&&(decide (t.bE<=30)&&(decide (1<=t.bN)&&(decide (t.bN<=4)&&(t.bM==1||t.bM==2)))))))=true:=ht;unfold tF;rw[P9 N t h2,qP,arx];simp only[arA,decide_eq_true_eq]at qP;obtain⟨b1,b2,_⟩:=qP;obtain⟨f1,f2,f3,f4,f5,f6⟩:=LH b1 b2;unfold DQ Fp zX;rw[dU,arx,arx,mJ,asf b1,asf b2];simp only[Bool.and_self,cond_true];rw[f1];simp only[cond_true,arx];rw[f3,f4];rw[mJ,dU,mS (p:=v.xN.toInt<=2^(t.bo-1).toNat-1) (q:=v.xN.toInt<2^(t.bo-1).toNat) (by omega)];cases (v.xD.toInt==1)<;>rfl
 |false=>
  simp only[cond_false];show(bif t.aO==3 then _ else _)=_;cases h3:t.aO==3 with
  |true=>
   simp only[cond_true];unfold p8;rw[mJ,dU,arx,arx];by_cases hd:v.xD.toInt=1
   ·rw[hd];simp only[ash,cond_true,arx,show decide ((1:Int)<=1)=true from rfl,show decide ((1:Int)<=2147483647)=true from rfl,Bool.and_true];rw[Bool.and_comm]
   ·rw[beq_false_of_ne hd];simp only[cond_false,arx,Bool.and_false]
  |false=>
   simp only[cond_false];unfold kr Qp;rw[mJ,mJ,dU,arx,arx,EF,arx];cases El:decide (1<=v.xD.toInt)with
   |false=>cases decide (v.xN.toInt<=2147483647)<;>cases decide (-2147483647<=v.xN.toInt)<;>rfl
   |true=>
    cases nK:decide (v.xD.toInt<=2147483647)with
    |false=>cases decide (v.xN.toInt<=2147483647)<;>cases decide (-2147483647<=v.xN.toInt)<;>rfl
    |true=>
     have e1:=of_decide_eq_true El;have e2:=of_decide_eq_true nK;have hw:IntKind.u64.wrap v.xD.toInt=((v.xD.toInt.toNat:Nat):Int):=by rw[lk];omega
     simp only[cond_true,Bool.true_and];rw[hw];unfold Bq;rw[LX N N v.xN.toInt.natAbs v.xD.toInt.toNat (by omega),arx,show((((Nat.gcd v.xN.toInt.natAbs v.xD.toInt.toNat:Nat):Int))==1)=(Nat.gcd v.xN.toInt.natAbs v.xD.toInt.toNat==1)from nU _ 1,dU,arx];cases decide (v.xN.toInt<=2147483647)<;>cases decide (-2147483647<=v.xN.toInt)<;>rfl
theorem s7(N:Nat)(hN:2147483648<N)(t:aE)(v:aG)(ht:cZ t=true):pn N t v=some (dG t v):=by
 unfold pn dG;cases h2:t.aO==2 with
 |true=>
  simp only[cond_true];unfold cZ at ht;have hk:t.aO=2:=by simpa using h2
  rw[hk]at ht;have qP:(decide (2<=t.bo)&&(decide (t.bo<=31)&&(decide (0<=t.bE)&&(decide (t.bE<=30)&&(decide (1<=t.bN)&&(decide (t.bN<=4)&&(t.bM==1||t.bM==2)))))))=true:=ht;simp only[arA,decide_eq_true_eq]at qP;obtain⟨b1,b2,_⟩:=qP;obtain⟨f1,f2,f3,f4,f5,f6⟩:=LH b1 b2;rw[f2];simp only[cond_true];rw[f5,f6,mJ,dU,dU,arx]
 |false=>
  simp only[cond_false,ED,jO,arx];cases Gc:decide (v.xN.toInt<=2147483647)with
  |false=>rfl
  |true=>
   cases nA:decide (-2147483647<=v.xN.toInt)with
   |false=>rfl
   |true=>
    cases El:decide (1<=v.xD.toInt)with
    |false=>rfl
    |true=>
     cases nK:decide (v.xD.toInt<=2147483647)with
     |false=>rfl
     |true=>
      have n1:=of_decide_eq_true Gc;have n2:=of_decide_eq_true nA;have e1:=of_decide_eq_true El;have e2:=of_decide_eq_true nK;simp only[Bool.not_true,Bool.or_false,cond_false,Bool.true_and];cases h3:t.aO==3 with
      |true=>rfl
      |false=>
       simp only[cond_false];have sH:(-v.xN).toInt= -v.xN.toInt:=by
        rw[Int64.toInt_neg];rw[Int.bmod_eq_of_le]<;>omega
       have wW:(qQ v.xN (-v.xN)).toInt=((v.xN.toInt.natAbs:Nat):Int):=by
        rw[<-Y5,sH];split<;>omega
       unfold Rm;obtain⟨g,g1,g2⟩:=aag N N (qQ v.xN (-v.xN)) v.xD (by rw[wW];omega) (by omega) (by omega);rw[g1,arx,g2,wW,arZ];rw[show((((Nat.gcd v.xN.toInt.natAbs v.xD.toInt.toNat:Nat):Int))==1)=(Nat.gcd v.xN.toInt.natAbs v.xD.toInt.toNat==1)from nU _ 1]
set_option linter.unusedSimpArgs false
set_option linter.unusedVariables false
def oG(wrap:Bool)(h n:Int):Int:=bif wrap then(n+h)%(2*h)-h else max (-h) (min (h-1) n)
theorem aeL(P:Int->Prop)(h:∀k:Fin 30,P (2^(k.val+1))){b:Int}(h1:2<=b)(h2:b<=31):P (2^(b-1).toNat):=by
 have:=h ⟨(b-2).toNat,by omega⟩
 rwa [show(b-2).toNat+1=(b-1).toNat by omega]at this
theorem ajV{w:Bool}{h n:Int}(hp:0<h)(h1: -h<=n)(h2:n<=h-1):oG w h n=n:=by
 unfold oG;cases w
 ·simp only[cond_false];omega
 ·simp only[cond_true];rw[Int.emod_eq_of_lt (by omega) (by omega)];omega
theorem aqp{w:Bool}{h n:Int}(hp:0<h): -h<=oG w h n/\oG w h n<=h-1:=by
 unfold oG;cases w
 ·simp only[cond_false];omega
 ·simp only[cond_true];have:=Int.emod_nonneg (n+h) (show 2*h≠0 by omega);have:=Int.emod_lt_of_pos (n+h) (show 0<2*h by omega);omega
theorem Vg{h u n:Int}(hu:u*(2*h)=18446744073709551616)(hu0:0<u)(hh:0<h):
 (((n*u)%18446744073709551616+9223372036854775808)%18446744073709551616-9223372036854775808)/ u=(n+h)%(2*h)-h:=by
 have h2:u*h=9223372036854775808:=by have:u*(2*h)=2*(u*h):=by rw[Int.mul_left_comm]
                                     omega
 rw[Int.emod_add_emod,<-hu];have e:n*u+9223372036854775808=u*(n+h):=by rw[Int.mul_add,h2,Int.mul_comm]
 rw[e,Int.mul_emod_mul_of_pos _ _ hu0,<-h2,<-Int.mul_sub,Int.mul_ediv_cancel_left _ (by omega)]
theorem aj0{n d:Int}(hd:0<d):n.tdiv d=if 0<=n then n / d else-((-n)/ d):=by
 split
 ·exact Int.tdiv_eq_ediv_of_nonneg (by assumption)
 ·have:n= -(-n):=by omega
  conv=>lhs;rw[this]
  rw[Int.neg_tdiv,Int.tdiv_eq_ediv_of_nonneg (by omega)]
theorem apa{m d:Int}(hd:0<d)(hm:0<m):(-m)/ d=if m%d=0 then-(m / d)else-(m / d)-1:=by
 have h1:=Int.mul_ediv_add_emod m d;have h2:=Int.emod_nonneg m (show d≠0 by omega);have h3:=Int.emod_lt_of_pos m hd;split
 ·rename_i h
  exact((Int.ediv_emod_unique hd).2 ⟨(by rw[Int.mul_neg];omega:(0:Int)+d*(-(m / d))= -m),by omega,by omega⟩).1
 ·exact((Int.ediv_emod_unique hd).2 ⟨(by rw[Int.mul_sub,Int.mul_neg];omega:(d-m%d)+d*(-(m / d)-1)= -m),by omega,by omega⟩).1
theorem XO{n d:Int}(hd:0<d):(bif decide (n.tdiv d*d>n)then n.tdiv d-1 else n.tdiv d)=n / d:=by
 rw[aj0 hd];by_cases h:0<=n
 ·rw[if_pos h,asg (by have:=Int.ediv_mul_le n (show d≠0 by omega);omega)];rfl
 ·rw[if_neg h];obtain⟨m,rfl⟩:∃m,n= -m:=⟨-n,by omega⟩;rw[Int.neg_neg,apa hd (by omega),Int.neg_mul];have h1:=Int.mul_ediv_add_emod m d;have h2:=Int.emod_nonneg m (show d≠0 by omega);rw[Int.mul_comm]at h1;split
  ·rw[asg (by omega)];rfl
  ·rw[asf (by omega)];rfl
theorem aaE{n d:Int}(hd:0<d):(bif decide (n.tmod d<0)then n.tdiv d-1 else n.tdiv d)=n / d:=by
 rw[<-XO hd];have h:n.tmod d=n-n.tdiv d*d:=by have:=Int.mul_tdiv_add_tmod n d;rw[Int.mul_comm]at this;omega
 rw[h]
 congr 1
 exact decide_eq_decide.2 (by omega)
def mH(a b:Int):Int:=bif decide (b<0)then(-a)/(-b)else a / b
theorem aiI{a b:Int}(hb:b≠0):(bif a.tmod b !=0&&(decide (a<0) !=decide (b<0))then a.tdiv b-1 else a.tdiv b)=mH a b:=by
 have key:∀a b:Int,0<b->(bif a.tmod b !=0&&(decide (a<0) !=false)then a.tdiv b-1 else a.tdiv b)=a / b:=λa b hb=>by
  rw[<-aaE hb]
  congr 1
  have hm:0<=a->0<=a.tmod b:=λh=>Int.tmod_nonneg _ h;have nj:a<0->a.tmod b<=0:=λh=>by
   have:a= -(-a):=by omega
   rw[this,Int.neg_tmod];have:=Int.tmod_nonneg b (show 0<=-a by omega);omega
  by_cases h:a<0
  ·rw[asf h];have:=nj h;by_cases h0:a.tmod b=0
   ·rw[h0];rfl
   ·rw[asf (by omega),bne_iff_ne.2 h0];rfl
  ·rw[asg h];have:=hm (by omega);rw[asg (show ¬a.tmod b<0 by omega)];cases (a.tmod b !=0)<;>rfl
 unfold mH;by_cases h:b<0
 ·rw[asf h];simp only[cond_true];rw[<-key (-a) (-b) (by omega),Int.neg_tmod,Int.tmod_neg,Int.neg_tdiv_neg]
  congr 1
  have hz:(-(a.tmod b) !=0)=(a.tmod b !=0):=by
   by_cases h0:a.tmod b=0
   ·rw[h0];rfl
   ·rw[bne_iff_ne.2 h0,bne_iff_ne.2 (show-(a.tmod b)≠0 by omega)]
  rw[hz];by_cases h0:a=0
  ·subst h0;simp
  ·by_cases ha:a<0
   ·rw[asf ha,asg (show ¬-a<0 by omega)];rfl
   ·rw[asg ha,asf (show-a<0 by omega)];rfl
 ·rw[asg h];simp only[cond_false];exact key a b (by omega)
def Ca(a b:Nat)(neg:Bool)(how:Int):Bool:=(a%b==0||how==3)||((how==1&& !neg)||(how==2&&neg))||(how==4&&(decide (2*(a%b)<b)||(2*(a%b)==b&&a / b%2==0)))
def m4(a b:Nat)(neg:Bool)(how:Int):Nat:=bif Ca a b neg how then a / b else a / b+1
def jb(n d:Int)(how:Int):Int:=
 bif n%d==0||how==1 then n / d else bif how==2 then n / d+1 else bif how==3 then(bif decide (n<0)then n / d+1 else n / d)
 else bif decide (n%d>d-n%d)||(n%d==d-n%d&&n / d%2 !=0)then n / d+1 else n / d
theorem arf{a b:Nat}(hb:0<b)(hr:a%b≠0):(-(a:Int))/(b:Int)= -((a / b:Nat):Int)-1/\(-(a:Int))%(b:Int)=(b:Int)-((a%b:Nat):Int):=by
 have h1:a%b<b:=Nat.mod_lt _ hb;have h2:(b:Int)*((a / b:Nat):Int)+((a%b:Nat):Int)=(a:Int):=by rw[<-Int.natCast_mul,<-Int.natCast_add,Nat.div_add_mod]
 refine(Int.ediv_emod_unique (by omega)).2 ⟨?_,by omega,by omega⟩;rw[Int.mul_sub,Int.mul_neg];omega
theorem aob{a b:Nat}(hb:0<b)(hr:a%b=0):(-(a:Int))/(b:Int)= -((a / b:Nat):Int)/\(-(a:Int))%(b:Int)=0:=by
 have h2:(b:Int)*((a / b:Nat):Int)+((a%b:Nat):Int)=(a:Int):=by rw[<-Int.natCast_mul,<-Int.natCast_add,Nat.div_add_mod]
 refine(Int.ediv_emod_unique (by omega)).2 ⟨?_,by omega,by omega⟩;rw[Int.mul_neg];omega
theorem aiM{a b:Nat}(hb:0<b){how:Int}(h0:1<=how)(h3:how<=4):((m4 a b false how:Nat):Int)=jb (a:Int) (b:Int) how:=by
 unfold m4 Ca jb;have e1:(a:Int)%(b:Int)=((a%b:Nat):Int):=(Int.natCast_emod a b).symm;have e2:(a:Int)/(b:Int)=((a / b:Nat):Int):=(Int.natCast_ediv a b).symm;rw[e1,e2];have hl:=Nat.mod_lt a hb;generalize a%b=r at*;generalize a / b=q at*;rcases (by omega:how=1\/how=2\/how=3\/how=4)with rfl|rfl|rfl|rfl<;>simp only[cond_eq_ite]<;>simp<;>(repeat' split)<;>omega
theorem afU{a b:Nat}(hb:0<b)(ha:0<a){how:Int}(h0:1<=how)(h3:how<=4): -((m4 a b true how:Nat):Int)=jb (-(a:Int)) (b:Int) how:=by
 unfold m4 Ca jb;have hl:=Nat.mod_lt a hb;by_cases hr:a%b=0
 ·obtain⟨e1,e2⟩:=aob hb hr;rw[e1,e2,hr];rfl
 ·obtain⟨e1,e2⟩:=arf hb hr;rw[e1,e2];generalize a%b=r at*;generalize a / b=q at*;rcases (by omega:how=1\/how=2\/how=3\/how=4)with rfl|rfl|rfl|rfl<;>simp only[cond_eq_ite]<;>simp<;>(repeat' split)<;>omega
def qj(n d how:Int):Int:=bif decide (d<0)then jb (-n) (-d) how else jb n d how
theorem ajQ(d how:Int):jb 0 d how=0:=by unfold jb;simp
theorem amZ{n d:Int}(hd:d≠0){how:Int}(h0:1<=how)(h3:how<=4):
 (bif decide (n<0) !=decide (d<0)then-((m4 n.natAbs d.natAbs true how:Nat):Int)else((m4 n.natAbs d.natAbs false how:Nat):Int))=qj n d how:=by
 have key:∀n d:Int,0<d->(bif decide (n<0)then-((m4 n.natAbs d.natAbs true how:Nat):Int)else((m4 n.natAbs d.natAbs false how:Nat):Int))=jb n d how:=λn d hd=>by
  by_cases h:n<0
  ·rw[asf h];simp only[cond_true];rw[afU (by omega) (by omega) h0 h3,show-((n.natAbs:Nat):Int)=n by omega,show((d.natAbs:Nat):Int)=d by omega]
  ·rw[asg h];simp only[cond_false];rw[aiM (by omega) h0 h3,show((n.natAbs:Nat):Int)=n by omega,show((d.natAbs:Nat):Int)=d by omega]
 unfold qj;by_cases h:d<0
 ·rw[asf h];simp only[cond_true];by_cases hn:n=0
  ·subst hn;rw[show(decide ((0:Int)<0) !=true)=true from rfl,Int.neg_zero,ajQ];unfold m4 Ca;simp
  ·rw[<-key (-n) (-d) (by omega),Int.natAbs_neg,Int.natAbs_neg]
   congr 1
   by_cases ha:n<0
   ·rw[asf ha,asg (show ¬-n<0 by omega)];rfl
   ·rw[asg ha,asf (show-n<0 by omega)];rfl
 ·rw[asg h];simp only[cond_false];rw[<-key n d (by omega)];cases decide (n<0)<;>rfl
theorem Nt{n d how B:Int}(hd:0<d)(hB:0<=B)(h1: -B<=n)(h2:n<=B): -B<=jb n d how/\jb n d how<=B+1:=by
 have h3: -B<=n / d:=by
  refine Int.le_ediv_of_mul_le hd ?_;have:B*1<=B*d:=Int.mul_le_mul_of_nonneg_left (by omega) hB;rw[Int.neg_mul];omega
 have h4:n / d<=B:=by
  have:n / d<=n\/n / d<=0:=by
   by_cases h:0<=n
   ·exact .inl (Int.ediv_le_self _ h)
   ·exact .inr (Int.le_of_lt (Int.ediv_neg_of_neg_of_pos (by omega) hd))
  omega
 unfold jb;simp only[cond_eq_ite]
 (repeat' split)<;>omega
theorem aeS{n d q rest:Int}(how:Int)(hq:q=n / d)(hr:rest=n-q*d):
 (bif rest==0||how==1 then q else bif how==2 then q+1 else bif how==3 then(bif decide (n<0)then q+1 else q)else bif decide (rest>d-rest)||(rest==d-rest&&q.tmod 2 !=0)then q+1 else q)=jb n d how:=by
 subst hq;have e:rest=n%d:=by rw[hr,Int.emod_def,Int.mul_comm]
 subst e;have h2:((n / d).tmod 2 !=0)=(n / d%2 !=0):=by
  by_cases h:n / d%2=0
  ·rw[h,Int.tmod_eq_zero_of_dvd (Int.dvd_of_emod_eq_zero h)]
  ·rw[bne_iff_ne.2 h,bne_iff_ne.2 λhc=>h (Int.emod_eq_zero_of_dvd (Int.dvd_of_tmod_eq_zero hc))]
 rw[h2];rfl
theorem aje{n m:Int}{d e:Nat}(hd:0<d)(he:0<e)(h1:Nat.gcd n.natAbs d=1)(h2:Nat.gcd m.natAbs e=1)(h:n*(e:Int)=m*(d:Int)):n=m/\d=e:=by
 have ha:n.natAbs*e=m.natAbs*d:=by
  have:=congrArg Int.natAbs h
  rwa [Int.natAbs_mul,Int.natAbs_mul,Int.natAbs_natCast,Int.natAbs_natCast]at this
 have hde:d∣ e:=by
  have h3:d∣ n.natAbs*e:=by rw[ha];exact Nat.dvd_mul_left _ _
  exact Nat.Coprime.dvd_of_dvd_mul_left (show Nat.Coprime d n.natAbs by rw[Nat.coprime_comm];exact h1) h3
 have hed:e∣ d:=by
  have h3:e∣ m.natAbs*d:=by rw[<-ha];exact Nat.dvd_mul_left _ _
  exact Nat.Coprime.dvd_of_dvd_mul_left (show Nat.Coprime e m.natAbs by rw[Nat.coprime_comm];exact h2) h3
 have e1:d=e:=Nat.dvd_antisymm hde hed;subst e1;refine⟨?_,rfl⟩;exact Int.eq_of_mul_eq_mul_right (by omega) h
theorem ahw{n d:Nat}(hd:0<d):Nat.gcd (n / Nat.gcd n d) (d / Nat.gcd n d)=1:=Nat.gcd_div_gcd_div_gcd_of_pos_right hd
def ck(t:aE):Int:=2^(t.bo-1).toNat
def fb(t:aE):Int:=2^t.bE.toNat
def lA(t:aE)(n:Int):aG:=⟨Int64.ofInt (oG (t.bM==2) (ck t) n),1⟩
def lS(n d:Int):Nat:=Nat.gcd n.natAbs d.natAbs
def Dq(n d:Int):Int:=bif decide (n<0) !=decide (d<0)then-((n.natAbs / lS n d:Nat):Int)else((n.natAbs / lS n d:Nat):Int)
def jw(n d:Int):aG×Int:=
 bif d==0 then(bW,4)else bif decide (2147483647<n.natAbs / lS n d)||decide (2147483647<d.natAbs / lS n d)then(bW,3)
 else(⟨Int64.ofInt (Dq n d),Int64.ofInt ((d.natAbs / lS n d:Nat):Int)⟩,0)
def nM(a b:Int):Int:=bif decide (a<b)then-1 else bif decide (a>b)then 1 else 0
def l7(t:aE)(a b:aG):Int:=
 bif cZ t&&(dG t a&&dG t b)then bif t.aO==1 then nM (a.xN.toInt*b.xD.toInt) (b.xN.toInt*a.xD.toInt)else nM a.xN.toInt b.xN.toInt else 0
def C0(op:Int)(t:aE)(a b:Int):aG×Int:=
 bif op==4 then(lA t (a+b),0)else bif op==5 then(lA t (a-b),0)else bif op==6 then(lA t (jb (a*b) (fb t) t.bN),0)
 else bif op==8 then(lA t (-a),0)else bif b==0 then(bW,4)else(lA t (qj (a*fb t) b t.bN),0)
def uE(op a b:Int):aG×Int:=
 bif op==7&&b==0 then(bW,4)
 else
  let n:=bif op==4 then a+b else bif op==5 then a-b else bif op==6 then a*b else bif op==7 then mH a b else-a
  bif decide (-2147483647<=n)&&decide (n<=2147483647)then(⟨Int64.ofInt n,1⟩,0)else(bW,3)
def xI(op:Int)(a b:aG):aG×Int:=
 bif op==4 then jw (a.xN.toInt*b.xD.toInt+b.xN.toInt*a.xD.toInt) (a.xD.toInt*b.xD.toInt)
 else bif op==5 then jw (a.xN.toInt*b.xD.toInt-b.xN.toInt*a.xD.toInt) (a.xD.toInt*b.xD.toInt)
 else bif op==6 then jw (a.xN.toInt*b.xN.toInt) (a.xD.toInt*b.xD.toInt)
 else bif op==7 then jw (a.xN.toInt*b.xD.toInt) (a.xD.toInt*b.xN.toInt)
 else(⟨-a.xN,a.xD⟩,0)
def s9(op:Int)(t:aE)(a b:aG):aG×Int:=
 bif decide (op<4)||decide (op>10)then(bW,1)else bif !cZ t then(bW,10)
 else bif !dG t a||(!(op==8)&& !dG t b)then(bW,1)
 else bif op==9 then(bif decide (l7 t a b>0)then b else a,0)else bif op==10 then(bif decide (l7 t a b<0)then b else a,0)
 else bif t.aO==2 then C0 op t a.xN.toInt b.xN.toInt else bif t.aO==3 then uE op a.xN.toInt b.xN.toInt else xI op a b
def mI(t:aE)(v:aG):aG:=bif t.aO==2 then(jw v.xN.toInt (fb t)).1 else v
def yu(from_ A8:aE)(v:aG):aG×Int:=
 bif !cZ from_|| !cZ A8 then(bW,10)else bif !dG from_ v then(bW,1)
 else
  let x:=mI from_ v
  bif A8.aO==3 then(⟨Int64.ofInt (x.xN.toInt / x.xD.toInt),1⟩,0)else bif A8.aO==2 then(lA A8 (jb (x.xN.toInt*fb A8) x.xD.toInt A8.bN),0)else(x,0)
def rU(t:aE):aG:=bif cZ t then⟨0,1⟩else bW
def jR(t:aE):aG×Int:=
 bif !cZ t then(bW,10)else
  let v:aG:=⟨Int64.ofInt (bif t.aO==2 then fb t else 1),1⟩
  bif dG t v then(v,0)else(bW,3)
structure sk(t:aE):Prop where
 b1:2<=t.bo
 b2:t.bo<=31
 f1:0<=t.bE
 f2:t.bE<=30
 r1:1<=t.bN
 r2:t.bN<=4
 o:t.bM=1\/t.bM=2
theorem jG{t:aE}(h:cZ t=true)(hk:t.aO=2):sk t:=by
 unfold cZ at h;rw[hk]at h;have h':(decide (2<=t.bo)&&(decide (t.bo<=31)&&(decide (0<=t.bE)&&(decide (t.bE<=30)&&(decide (1<=t.bN)&&(decide (t.bN<=4)&&(t.bM==1||t.bM==2)))))))=true:=h;simp only[arA,decide_eq_true_eq,Bool.or_eq_true,beq_iff_eq]at h';obtain⟨h1,h2,h3,h4,h5,h6,h7⟩:=h';exact⟨h1,h2,h3,h4,h5,h6,h7⟩
theorem kinds{t:aE}(h:cZ t=true):t.aO=1\/t.aO=2\/t.aO=3:=by
 unfold cZ at h;by_cases h1:t.aO=1
 ·exact .inl h1
 ·by_cases h2:t.aO=2
  ·exact .inr (.inl h2)
  ·by_cases h3:t.aO=3
   ·exact .inr (.inr h3)
   ·simp [h1,h2,h3]at h
theorem Nc{t:aE}(f:sk t):2<=ck t/\ck t<=1073741824:=
 aeL (λx=>2<=x/\x<=1073741824) (by decide) f.b1 f.b2
theorem acV(P:Int->Prop)(h:∀k:Fin 31,P (2^k.val)){b:Int}(h1:0<=b)(h2:b<=30):P (2^b.toNat):=
 h ⟨b.toNat,by omega⟩
theorem FE{t:aE}(f:sk t):1<=fb t/\fb t<=1073741824:=
 acV (λx=>1<=x/\x<=1073741824) (by decide) f.f1 f.f2
structure LN(t:aE)(v:aG):Prop where
 d:v.xD.toInt=1
 n1: -ck t<=v.xN.toInt
 n2:v.xN.toInt<=ck t-1
theorem l9{t:aE}{v:aG}(h:dG t v=true)(hk:t.aO=2):LN t v:=by
 unfold dG at h;rw[hk]at h;have h':(v.xD.toInt==1&&(decide (-(2^(t.bo-1).toNat)<=v.xN.toInt)&&decide (v.xN.toInt<2^(t.bo-1).toNat)))=true:=h;simp only[arA,decide_eq_true_eq,beq_iff_eq]at h';obtain⟨h1,h2,h3⟩:=h';exact⟨h1,h2,by unfold ck;omega⟩
structure gg(v:aG):Prop where
 n1: -2147483647<=v.xN.toInt
 n2:v.xN.toInt<=2147483647
 d1:1<=v.xD.toInt
 d2:v.xD.toInt<=2147483647
 g:Nat.gcd v.xN.toInt.natAbs v.xD.toInt.toNat=1
theorem o6{t:aE}{v:aG}(h:dG t v=true)(hk:t.aO≠2):gg v:=by
 unfold dG at h;rw[beq_false_of_ne hk]at h;simp only[cond_false,arA,decide_eq_true_eq]at h;obtain⟨h1,h2,h3,h4,h5⟩:=h;refine⟨h2,h1,h3,h4,?_⟩;cases KC:t.aO==3 with
 |true=>
  rw[KC]at h5;have h6:v.xD.toInt=1:=by simpa using h5
  rw[h6];exact Nat.gcd_one_right _
 |false=>rw[KC]at h5;simpa using h5
theorem HA{t:aE}{v:aG}(h:dG t v=true)(hk:t.aO=3):v.xD.toInt=1:=by
 unfold dG at h;rw[hk]at h;have h':(decide (v.xN.toInt<=2147483647)&&(decide (-2147483647<=v.xN.toInt)&&(decide (1<=v.xD.toInt)&&(decide (v.xD.toInt<=2147483647)&&(v.xD.toInt==1)))))=true:=h;simp only[arA,beq_iff_eq]at h';exact h'.2.2.2.2
theorem je{n:Int}(h1: -9223372036854775808<=n)(h2:n<=9223372036854775807):(Int64.ofInt n).toInt=n:=Int64.toInt_ofInt_of_le (by omega) (by omega)
structure afo(n d:Int)(v:aG):Prop where
 n1: -2147483647<=v.xN.toInt
 n2:v.xN.toInt<=2147483647
 d1:1<=v.xD.toInt
 d2:v.xD.toInt<=2147483647
 g:Nat.gcd v.xN.toInt.natAbs v.xD.toInt.toNat=1
 en:v.xN.toInt=Dq n d
 ed:v.xD.toInt=((d.natAbs / lS n d:Nat):Int)
theorem anT{n d:Int}{v:aG}(h:jw n d=(v,0)):afo n d v:=by
 unfold jw at h;by_cases hd:d=0
 ·subst hd;cases h
 ·rw[beq_false_of_ne hd]at h;simp only[cond_false]at h;cases hc:(decide (2147483647<n.natAbs / lS n d)||decide (2147483647<d.natAbs / lS n d))with
  |true=>rw[hc]at h;cases h
  |false=>
   rw[hc]at h;cases h
   rw[asm,decide_eq_false_iff_not,decide_eq_false_iff_not]at hc;have hg:0<lS n d:=Nat.gcd_pos_of_pos_right _ (by omega);have hq:0<d.natAbs / lS n d:=Nat.div_pos (Nat.le_of_dvd (by omega) (Nat.gcd_dvd_right _ _)) hg;have hN:(Dq n d).natAbs=n.natAbs / lS n d:=by
     unfold Dq;cases (decide (n<0) !=decide (d<0))
     ·exact Int.natAbs_natCast _
     ·exact(Int.natAbs_neg _).trans (Int.natAbs_natCast _)
   have e1:=je (n:=Dq n d) (by omega) (by omega);have e2:=je (n:=((d.natAbs / lS n d:Nat):Int)) (by omega) (by omega);refine⟨?_,?_,?_,?_,?_,e1,e2⟩
   ·show _<=(Int64.ofInt _).toInt;rw[e1];omega
   ·show(Int64.ofInt _).toInt<=_;rw[e1];omega
   ·show _<=(Int64.ofInt _).toInt;rw[e2];omega
   ·show(Int64.ofInt _).toInt<=_;rw[e2];omega
   ·show Nat.gcd (Int64.ofInt _).toInt.natAbs (Int64.ofInt _).toInt.toNat=1;rw[e1,e2,hN,arZ];exact ahw (by omega)
theorem ad8{n S:Int}(h1: -1073741824<=n)(h2:n<=1073741824)(s1:1<=S)(s2:S<=1073741824):∃v,jw n S=(v,0):=by
 unfold jw;rw[beq_false_of_ne (show S≠0 by omega)];have a1:n.natAbs / lS n S<=n.natAbs:=Nat.div_le_self _ _;have a2:S.natAbs / lS n S<=S.natAbs:=Nat.div_le_self _ _;rw[asg (show ¬2147483647<n.natAbs / lS n S by omega),asg (show ¬2147483647<S.natAbs / lS n S by omega)];exact⟨_,rfl⟩
theorem HH{a b:aG}(h1:a.xN.toInt=b.xN.toInt)(h2:a.xD.toInt=b.xD.toInt):a=b:=by
 cases a;cases b
 congr 1
 ·exact Int64.toInt_inj.1 h1
 ·exact Int64.toInt_inj.1 h2
theorem Qe{a b:Int}:nM a b=0↔a=b:=by
 unfold nM;simp only[cond_eq_ite,decide_eq_true_eq]
 (repeat' split)<;>omega
theorem ak4{t:aE}{a b:aG}(ht:cZ t=true)(ha:dG t a=true)(hb:dG t b=true)(h:l7 t a b=0):a=b:=by
 unfold l7 at h;rw[ht,ha,hb]at h;simp only[Bool.and_self,cond_true]at h;rcases kinds ht with hk|hk|hk
 ·rw[hk]at h;have h':=Qe.1 h;have A:=o6 ha (by omega);have B:=o6 hb (by omega);have e:=aje (n:=a.xN.toInt) (m:=b.xN.toInt) (d:=a.xD.toInt.toNat) (e:=b.xD.toInt.toNat) (by have:=A.d1;omega) (by have:=B.d1;omega) A.g B.g (by
    rw[show((b.xD.toInt.toNat:Nat):Int)=b.xD.toInt by have:=B.d1;omega,show((a.xD.toInt.toNat:Nat):Int)=a.xD.toInt by have:=A.d1;omega];exact h')
  exact HH e.1 (by have:=A.d1;have:=B.d1;omega)
 ·rw[hk]at h;have h':=Qe.1 h;exact HH h' (by rw[(l9 ha hk).d,(l9 hb hk).d])
 ·rw[hk]at h;have h':=Qe.1 h;exact HH h' (by rw[HA ha hk,HA hb hk])
theorem aa4{t:aE}{v:aG}(ht:cZ t=true)(hv:dG t v=true):gg (mI t v):=by
 unfold mI;rcases kinds ht with hk|hk|hk
 ·rw[hk];exact o6 hv (by omega)
 ·rw[hk];have F:=jG ht hk;have A:=l9 hv hk;have hH:=Nc F;have hS:=FE F;obtain⟨x,hx⟩:=ad8 (n:=v.xN.toInt) (S:=fb t) (by have:=A.n1;omega) (by have:=A.n2;omega) hS.1 hS.2;have L:=anT hx;show gg (jw v.xN.toInt (fb t)).1;rw[hx];exact⟨L.n1,L.n2,L.d1,L.d2,L.g⟩
 ·rw[hk];exact o6 hv (by omega)
def ep(n:Int):Bool:=decide (-9223372036854775808<=n)&&decide (n<=9223372036854775807)
theorem ur{n:Int}:ep n=true↔-9223372036854775808<=n/\n<=9223372036854775807:=by
 unfold ep;rw[arA,decide_eq_true_iff,decide_eq_true_iff]
theorem aps(n:Int64):ep n.toInt=true:=by
 rw[ur];have h1:=n.le_toInt;have h2:=n.toInt_lt;omega
def same(a b:aso):Bool:=bL a==bL b
def lt(a b:aso):Bool:=Op.bytesLess (bL a) (bL b)
theorem adZ{a b:aso}(h:(bL a)=(bL b)):a=b:=by
 unfold bL at h;have:a.data=b.data:=Array.toList_inj.mp h;cases a;cases b;simp_all
theorem wV{a b:aso}:same a b=true↔a=b:=by
 unfold same;rw[beq_iff_eq];exact⟨adZ,λh=>by rw[h]⟩
theorem ac1:∀(x y:asn UInt8),Op.bytesLess x y=decide (x<y)
 |[],[]=>by simp [Op.bytesLess]
 |_::_,[]=>by simp [Op.bytesLess]
 |[],_::_=>by simp [Op.bytesLess]
 |a::x,b::y=>by
  rw[Op.bytesLess,ac1 x y];simp only[List.cons_lt_cons_iff];by_cases h:a<b<;>by_cases h2:a=b<;>simp_all
theorem UF{a b:aso}:lt a b=true↔(bL a)<(bL b):=by unfold lt;rw[ac1];simp
theorem wP(a:aso):lt a a=false:=by
 rw[<-Bool.not_eq_true,UF];exact List.lt_irrefl (bL a)
theorem tV{a b c:aso}(h1:lt a b=true)(h2:lt b c=true):lt a c=true:=by
 rw[UF]at*;exact List.lt_trans h1 h2
theorem D8{a b:aso}(h1:lt a b=false)(h2:lt b a=false):a=b:=by
 rw[<-Bool.not_eq_true,UF]at*;exact adZ (List.le_antisymm (List.not_lt.mp h2) (List.not_lt.mp h1))
inductive Er|arg|range
def Er.code:Er->Int
 | .arg=>1
 | .range=>3
theorem Er.ne(e:Er):(e.code !=0)=true:=by cases e<;>rfl
abbrev X(α:Type):=Except Er α
def sY{α:Type}(d:α):X α->α×Int
 | .ok v=>(v,0)
 | .error e=>(d,e.code)
def eK:asn bB->asn bB->asn (aso×Int×Int)
 |[],[]=>[]
 |a::l,[]=>(a.aC,a.dE.toInt,0)::eK l []
 |[],b::r=>(b.aC,0,b.dE.toInt)::eK [] r
 |a::l,b::r=>if lt a.aC b.aC then(a.aC,a.dE.toInt,0)::eK l (b::r)else if lt b.aC a.aC then(b.aC,0,b.dE.toInt)::eK (a::l) r else(a.aC,a.dE.toInt,b.dE.toInt)::eK l r
termination_by l r=>l.length+r.length
def IZ(k:Int)(l:asn (aso×Int×Int)):X aH:=
 if ep k&&l.all (λt=>ep (t.2.1+t.2.2))then .ok ⟨Int64.ofInt k,l.filterMap λt=>if t.2.1+t.2.2=0 then none else some ⟨t.1,Int64.ofInt (t.2.1+t.2.2)⟩⟩else .error .range
def lM(a b:aH):X aH:=if eH a&&eH b then IZ (a.xK.toInt+b.xK.toInt) (eK a.xL b.xL)else .error .arg
def kJ(a:aH)(cE:Int64):X aH:=
 if eH a then(if cE.toInt=0 then .ok ⟨0,[]⟩else if ep (a.xK.toInt*cE.toInt)&&a.xL.all (λm=>ep (m.dE.toInt*cE.toInt))then .ok ⟨Int64.ofInt (a.xK.toInt*cE.toInt),a.xL.map λm=>⟨m.aC,Int64.ofInt (m.dE.toInt*cE.toInt)⟩⟩else .error .range)else .error .arg
def kX:asn aso->aso->asn aso
 |[],s=>[s]
 |x::l,s=>if lt s x then x::kX l s else s::x::l
def kW(l:asn aso)(s:aso):asn aso:=if l.any (same · s)then l else(kX l.reverse s).reverse
def vP(ls:asn aH):asn aso:=(ls.flatMap λx=>x.xL.map (·.aC)).foldl kW []
def jr:asn bB->aso->Int
 |[],_=>0
 |m::l,n=>if same m.aC n then m.dE.toInt else jr l n
def O8(a b:aH):X aH:=if eH a&&eH b then IZ (a.xK.toInt+b.xK.toInt) ((vP [a,b]).map λn=>(n,jr a.xL n,jr b.xL n))else .error .arg
def n9(l:asn aso):Prop:=l.Pairwise λa b=>lt a b=true
theorem aa3:∀{l r:asn aso},n9 l->n9 r->(∀x,x∈l↔x∈r)->l=r
 |[],[],_,_,_=>rfl
 |[],b::r,_,_,h=>by have:=(h b).mpr (by simp);simp at this
 |a::l,[],_,_,h=>by have:=(h a).mp (by simp);simp at this
 |a::l,b::r,hl,hr,h=>by
  have D4:=List.pairwise_cons.mp hl;have uQ:=List.pairwise_cons.mp hr;have e:a=b:=by
   have h1:=(h a).mp (by simp);have h2:=(h b).mpr (by simp);simp only[ar2]at h1 h2;rcases h1 with h1|h1
   ·exact h1
   ·rcases h2 with h2|h2
    ·exact h2.symm
    ·have:=tV (uQ.1 a h1) (D4.1 b h2);rw[wP]at this;simp at this
  subst e;rw[aa3 D4.2 uQ.2 λx=> ?_];constructor
  ·intro hx;have:=(h x).mp (by simp [hx]);simp only[ar2]at this;rcases this with e|e
   ·subst e;have:=D4.1 x hx;rw[wP]at this;simp at this
   ·exact e
  ·intro hx;have:=(h x).mpr (by simp [hx]);simp only[ar2]at this;rcases this with e|e
   ·subst e;have:=uQ.1 x hx;rw[wP]at this;simp at this
   ·exact e
theorem TA:∀(l:asn aso)(s x:aso),x∈kX l s↔x=s\/x∈l
 |[],s,x=>by simp [kX]
 |y::l,s,x=>by
  unfold kX;split
  ·simp only[ar2,TA l s x];constructor<;>rintro(h|h|h)<;>simp [h]
  ·simp only[ar2]
theorem acP:∀(l:asn aso)(s:aso),l.Pairwise (λa b=>lt b a=true)->s ∉ l->(kX l s).Pairwise (λa b=>lt b a=true)
 |[],s,_,_=>by simp [kX]
 |y::l,s,h,hs=>by
  have h1:=List.pairwise_cons.mp h;simp only[ar2,not_or]at hs;unfold kX;split
  next aS=>
   refine List.pairwise_cons.mpr ⟨λz hz=> ?_,acP l s h1.2 hs.2⟩;rcases (TA l s z).mp hz with e|e
   ·subst e;exact aS
   ·exact h1.1 z e
  next aS=>
   have jT:lt y s=true:=by
    cases hc:lt y s with
    |true=>rfl
    |false=>exact absurd (D8 (by simpa using aS) hc) hs.1
   refine List.pairwise_cons.mpr ⟨λz hz=> ?_,h⟩;simp only[ar2]at hz;rcases hz with e|e
   ·subst e;exact jT
   ·exact tV (h1.1 z e) jT
theorem O4{l:asn aso}{s:aso}:l.any (same · s)=true↔s∈l:=by
 rw[List.any_eq_true];constructor
 ·rintro⟨x,hx,h⟩;rw[wV]at h;exact h▸hx
 ·intro h;exact⟨s,h,wV.mpr rfl⟩
theorem anD(l:asn aso)(s x:aso):x∈kW l s↔x=s\/x∈l:=by
 unfold kW;split
 next h=>
  have:=O4.mp h;constructor
  ·exact Or.inr
  ·rintro(e|e)
   ·exact e▸this
   ·exact e
 next h=>simp [TA]
theorem aiV(l:asn aso)(s:aso)(h:n9 l):n9 (kW l s):=by
 unfold kW;split
 ·exact h
 next hn=>
  unfold n9;rw[List.pairwise_reverse];refine acP _ _ ?_ ?_
  ·rw[List.pairwise_reverse];exact h
  ·simpa [O4]using λhm=>hn (O4.mpr hm)
theorem Xx:∀(ns l:asn aso),n9 l->n9 (ns.foldl kW l)/\∀x,x∈ns.foldl kW l↔x∈ns\/x∈l
 |[],l,h=>⟨h,λx=>by simp⟩
 |n::ns,l,h=>by
  obtain⟨h1,h2⟩:=Xx ns (kW l n) (aiV l n h);refine⟨h1,λx=> ?_⟩;rw[List.foldl_cons,h2 x,anD];simp only[ar2];constructor
  ·rintro(h|h|h)<;>simp [h]
  ·rintro((h|h)|h)<;>simp [h]
theorem lG:∀(a b:asn bB)(x:aso),x∈(eK a b).map (·.1)↔x∈a.map (·.aC)\/x∈b.map (·.aC)
 |[],[],x=>by simp [eK]
 |a::l,[],x=>by
  have:=lG l [] x;rw[eK];simp only[arX,ar2,this];simp
 |[],b::r,x=>by
  have:=lG [] r x;rw[eK];simp only[arX,ar2,this];simp
 |a::l,b::r,x=>by
  rw[eK];split
  ·have:=lG l (b::r) x;simp only[arX,ar2,this];exact⟨by rintro(h|h|h|h)<;>simp [h],by rintro((h|h)|h|h)<;>simp [h]⟩
  ·split
   ·have:=lG (a::l) r x;simp only[arX,ar2,this];exact⟨by rintro(h|(h|h)|h)<;>simp [h],by rintro((h|h)|h|h)<;>simp [h]⟩
   next h1 h2=>
    have e:=D8 (by simpa using h1) (by simpa using h2);have:=lG l r x;simp only[arX,ar2,this,e];exact⟨by rintro(h|h|h)<;>simp [h],by rintro((h|h)|h|h)<;>simp [h]⟩
termination_by a b=>a.length+b.length
def nO(l:asn bB):Prop:=n9 (l.map (·.aC))
theorem nO.tail{m:bB}{l:asn bB}(h:nO (m::l)):nO l:=(List.pairwise_cons.mp h).2
theorem nO.head{m:bB}{l:asn bB}(h:nO (m::l)):∀x∈l.map (·.aC),lt m.aC x=true:=(List.pairwise_cons.mp h).1
theorem Cm:∀(a b:asn bB),nO a->nO b->n9 ((eK a b).map (·.1))
 |[],[],_,_=>by simp [eK,n9]
 |a::l,[],ha,hb=>by
  rw[eK];refine List.pairwise_cons.mpr ⟨λx hx=> ?_,Cm l [] ha.tail hb⟩;rcases (lG l [] x).mp hx with h|h
  ·exact ha.head x h
  ·simp at h
 |[],b::r,ha,hb=>by
  rw[eK];refine List.pairwise_cons.mpr ⟨λx hx=> ?_,Cm [] r ha hb.tail⟩;rcases (lG [] r x).mp hx with h|h
  ·simp at h
  ·exact hb.head x h
 |a::l,b::r,ha,hb=>by
  rw[eK];split
  next h1=>
   refine List.pairwise_cons.mpr ⟨λx hx=> ?_,Cm l (b::r) ha.tail hb⟩;rcases (lG l (b::r) x).mp hx with h|h
   ·exact ha.head x h
   ·simp only[arX,ar2]at h;rcases h with h|h
    ·subst h;exact h1
    ·exact tV h1 (hb.head x h)
  next h1=>
   split
   next h2=>
    refine List.pairwise_cons.mpr ⟨λx hx=> ?_,Cm (a::l) r ha hb.tail⟩;rcases (lG (a::l) r x).mp hx with h|h
    ·simp only[arX,ar2]at h;rcases h with h|h
     ·subst h;exact h2
     ·exact tV h2 (ha.head x h)
    ·exact hb.head x h
   next h2=>
    have e:=D8 (by simpa using h1) (by simpa using h2);refine List.pairwise_cons.mpr ⟨λx hx=> ?_,Cm l r ha.tail hb.tail⟩;rcases (lG l r x).mp hx with h|h
    ·exact ha.head x h
    ·show lt a.aC x=true;rw[e];exact hb.head x h
termination_by a b=>a.length+b.length
theorem Up:∀(l:asn bB)(n:aso),n ∉ l.map (·.aC)->jr l n=0
 |[],_,_=>rfl
 |m::l,n,h=>by
  simp only[arX,ar2,not_or]at h;unfold jr;rw[if_neg (by rw[wV];exact λe=>h.1 e.symm)];exact Up l n h.2
theorem Be{m:bB}{l:asn bB}{n:aso}(h:lt m.aC n=true):jr (m::l) n=jr l n:=by
 show(if same m.aC n then m.dE.toInt else jr l n)=_;rw[if_neg (by rw[wV];rintro rfl;rw[wP]at h;simp at h)]
theorem Ac(m:bB)(l:asn bB):jr (m::l) m.aC=m.dE.toInt:=by
 show(if same m.aC m.aC then m.dE.toInt else jr l m.aC)=_;rw[if_pos (wV.mpr rfl)]
theorem aaU{m:bB}{l:asn bB}{n:aso}(h:nO (m::l))(hn:lt n m.aC=true):n ∉(m::l).map (·.aC):=by
 simp only[arX,ar2,not_or];constructor
 ·rintro rfl;rw[wP]at hn;simp at hn
 ·intro hm;have:=tV hn (h.head n hm);rw[wP]at this;simp at this
theorem AQ:∀(a b:asn bB),nO a->nO b->eK a b=((eK a b).map (·.1)).map λn=>(n,jr a n,jr b n)
 |[],[],_,_=>by simp [eK]
 |a::l,[],ha,hb=>by
  have ih:=AQ l [] ha.tail hb;rw[eK,arX,arX,Ac];refine congrArg _ (ih.trans ?_);rw[<-ih];rw[List.map_map]
  conv=>lhs;rw[ih,List.map_map]
  refine ar3 λt ht=> ?_;have hm:=List.mem_map_of_mem (f:=(·.1)) ht;rcases (lG l [] t.1).mp hm with h|h
  ·simp only[Function.comp_apply,Be (ha.head _ h)]
  ·simp at h
 |[],b::r,ha,hb=>by
  have ih:=AQ [] r ha hb.tail;rw[eK,arX,arX,Ac];refine congrArg _ (ih.trans ?_);rw[<-ih];rw[List.map_map]
  conv=>lhs;rw[ih,List.map_map]
  refine ar3 λt ht=> ?_;have hm:=List.mem_map_of_mem (f:=(·.1)) ht;rcases (lG [] r t.1).mp hm with h|h
  ·simp at h
  ·simp only[Function.comp_apply,Be (hb.head _ h)]
 |a::l,b::r,ha,hb=>by
  rw[eK];split
  next h1=>
   have ih:=AQ l (b::r) ha.tail hb;rw[arX,arX,Ac,Up (b::r) _ (aaU hb h1)];refine congrArg _ ?_
   conv=>lhs;rw[ih]
   refine ar3 λn hn=> ?_;have:lt a.aC n=true:=by
    rcases (lG l (b::r) n).mp hn with h|h
    ·exact ha.head n h
    ·simp only[arX,ar2]at h;rcases h with h|h
     ·subst h;exact h1
     ·exact tV h1 (hb.head n h)
   rw[Be this]
  next h1=>
   split
   next h2=>
    have ih:=AQ (a::l) r ha hb.tail;rw[arX,arX,Ac,Up (a::l) _ (aaU ha h2)];refine congrArg _ ?_
    conv=>lhs;rw[ih]
    refine ar3 λn hn=> ?_;have:lt b.aC n=true:=by
     rcases (lG (a::l) r n).mp hn with h|h
     ·simp only[arX,ar2]at h;rcases h with h|h
      ·subst h;exact h2
      ·exact tV h2 (ha.head n h)
     ·exact hb.head n h
    rw[Be this]
   next h2=>
    have e:=D8 (by simpa using h1) (by simpa using h2);have ih:=AQ l r ha.tail hb.tail;rw[arX,arX,Ac];rw[show jr (b::r) a.aC=b.dE.toInt from by rw[e];exact Ac b r];refine congrArg _ ?_
    conv=>lhs;rw[ih]
    refine ar3 λn hn=> ?_;have:lt a.aC n=true:=by
     rcases (lG l r n).mp hn with h|h
     ·exact ha.head n h
     ·rw[e];exact hb.head n h
    rw[Be this,Be (show lt b.aC n=true from e▸this)]
termination_by a b=>a.length+b.length
theorem aa6:∀(l:asn bB)(p:asp aso),s8 p l=true->nO l/\∀q,p=some q->∀x∈l.map (·.aC),lt q x=true
 |[],p,_=>⟨by simp [nO,n9],λ_ _ x hx=>by simp at hx⟩
 |m::l,p,h=>by
  rw[SM]at h;simp only[arA]at h;obtain⟨_,_,h3,h4⟩:=h;obtain⟨i1,i2⟩:=aa6 l (some m.aC) h4;refine⟨List.pairwise_cons.mpr ⟨i2 _ rfl,i1⟩,λq hq x hx=> ?_⟩;subst hq;simp only[arX,ar2]at hx;rcases hx with e|e
  ·subst e;exact h3
  ·exact tV h3 (i2 _ rfl x e)
theorem ZR{x:aH}(h:eH x=true):nO x.xL:=(aa6 _ _ h).1
theorem ap4(a b:aH):O8 a b=lM a b:=by
 unfold O8 lM;split
 next h=>
  simp only[arA]at h;have ha:=ZR h.1;have hb:=ZR h.2;obtain⟨f1,f2⟩:=Xx ([a,b].flatMap λx=>x.xL.map (·.aC)) [] (by simp [n9]);have hn:vP [a,b]=(eK a.xL b.xL).map (·.1):=aa3 f1 (Cm _ _ ha hb) λx=>by
   rw[lG];unfold vP;rw[f2 x];simp
  rw[hn,<-AQ _ _ ha hb]
 ·rfl
def iC(l:aH):Prop:=l.xL.length<=maxLen
structure Vl(x:aZ):Prop where
 lin:iC x.aM
 at_:∀l∈x.bH,iC l
structure BA(e:an):Prop where
 lin:iC e.aM
 idx:∀x∈e.xIdx,Vl x
 args:e.ax.length<=maxLen
def pQ(e:an):Prop:=∀x∈cW e,BA x
def yo(l:aH):Bool:=l.xK.toInt==0&&l.xL.length==0
def qG(x:aZ):Bool:=bif bL x.bS==[]then x.bH.length==0 else yo x.aM
def Jl(v:aG):Bool:=v.xN.toInt==0&&v.xD.toInt==0
def KD(t:aE):Bool:=t.aO==0&&(t.bo==0&&(t.bE==0&&(t.bN==0&&t.bM==0)))
def nw(e:an):Bool:=decide (1<=e.ar)&&(decide (e.ar<=18)&&((e.ar==1||Jl e.bD)&&((e.ar==1||(e.ar==12||KD e.ay))&&((e.ar==2||yo e.aM)&&((e.ar==3||(bL e.aC==[]&&e.xIdx.length==0))&&e.xIdx.all qG)))))
def qb(e:an):Bool:=(!(e.ar==3)||ia e.aC)&&e.xIdx.all λx=>bL x.bS==[]||ia x.bS
def kK(op:Int):Int:=bif op==1||(op==2||op==3)then 0 else bif op==8||(op==12||op==18)then 1 else bif op==11 then 3 else 2
def mr(e:an):Bool:=(e.ax.length:Int)==kK e.ar&&(decide (e.xIdx.length<=6)&&e.xIdx.all λx=>decide (x.bH.length<=6))
def fc(e:an):Bool:=decide (13<=e.ar)&&decide (e.ar<=18)
def mw(op:Int)(i:Nat):Bool:=(op==11&&i==0)||(op==16||(op==17||op==18))
def vU(op:Int):Nat->asn an->Bool
 |_,[]=>true
 |i,a::l=>fc a==mw op i&&vU op (i+1) l
def lQ(e:an):Bool:=(!(e.ar==1||e.ar==12)||cZ e.ay)&&vU e.ar 0 e.ax
def sM(e:an):Bool:=(!(e.ar==1)||dG e.ay e.bD)&&(o8 e).all eH
def lh(e:an):Int:=bif nw e then bif qb e then bif mr e then bif lQ e then bif sM e then 0 else 1 else 10 else 11 else 7 else 5
theorem oO(n:Nat):((n:Int)==0)=(n==0):=nU n 0
theorem JA(n:Nat):decide ((n:Int)>0)= !(n==0):=by
 by_cases h:n=0
 ·subst h;rfl
 ·rw[asf (show(n:Int)>0 by omega),beq_false_of_ne h];rfl
theorem acq(N:Nat)(l:aH):GA N l=some (yo l):=by
 unfold GA yo;rw[dU,arx,oO]
theorem ahk(N:Nat)(x:aZ):Lr N x=some (qG x):=by
 unfold Lr qG;rw[acq,arx,oO,td];cases bL x.bS==[]<;>rfl
theorem Pf{α:Type}(f:α->Bool)(l:asn α):(l.any λx=> !f x)= !l.all f:=by
 induction l with
 |nil=>rfl
 |cons x l ih=>rw[asj,asi,ih];cases f x<;>rfl
theorem abi(N:Nat):∀(l:asn aZ)(k:Nat),∃z:Int,Ny N l k=some z/\decide (z>=0)=l.any λx=> !qG x
 |[],k=>⟨-1,rfl,rfl⟩
 |x::l,k=>by
  rw[Ny,asj];unfold O7;rw[ahk,arx,arx];cases h: !qG x with
  |true=>exact⟨k,rfl,asf (by omega)⟩
  |false=>exact abi N l (k+1)
theorem amf(N:Nat)(l:asn aZ):H9 N l=some (!l.all qG):=by
 unfold H9 Ro;obtain⟨z,h1,h2⟩:=abi N l 0;rw[h1,arx,h2,Pf]
theorem Y9(v:aG):((v.xN.toInt==(0:Int64).toInt)&&((v.xD.toInt==(0:Int64).toInt)&&true))=Jl v:=by rw[Bool.and_true];rfl
theorem ab1(t:aE):((t.aO==0)&&((t.bo==0)&&((t.bE==0)&&((t.bN==0)&&((t.bM==0)&&true)))))=KD t:=by rw[Bool.and_true];rfl
theorem s5(a b:Bool):(bif a then some false else some b)=some (!a&&b):=by cases a<;>rfl
theorem YM(a b:Bool):(bif a then some b else some true)=some (!a||b):=by cases a<;>rfl
theorem afl(N:Nat)(e:an):M9 N e=some (nw e):=by
 unfold M9 nw;simp only[JA];simp only[jO,dU,s5,YM,arx,ED,Qf,acq,amf,Y9,ab1,td];cases decide (1<=e.ar)<;>cases decide (e.ar<=18)<;>cases e.ar==1<;>cases Jl e.bD<;>cases e.ar==12<;>cases KD e.ay<;>cases e.ar==2<;>cases yo e.aM<;>cases e.ar==3<;>cases bL e.aC==[]<;>cases e.xIdx.length==0<;>cases e.xIdx.all qG<;>rfl
theorem aaZ(N:Nat):∀(l:asn aZ)(k:Nat),Ng N l k=some (l.all qG)
 |[],_=>rfl
 |x::l,k=>by
  rw[Ng,asi,aaZ N l (k+1)];unfold qG yo;simp only[jO,amK,dU,arx,JA,gV,td];cases bL x.bS==[]<;>cases x.bH.length==0<;>cases x.aM.xK.toInt==0<;>cases x.aM.xL.length==0<;>rfl
theorem aov(N:Nat)(e:an):H7 N e=some (nw e):=by
 unfold H7 nw;simp only[JA];simp only[jO,dU,s5,YM,arx,ED,Qf,gV,aaZ,Y9,ab1,td];unfold yo;cases decide (1<=e.ar)<;>cases decide (e.ar<=18)<;>cases e.ar==1<;>cases Jl e.bD<;>cases e.ar==12<;>cases KD e.ay<;>cases e.ar==2<;>cases e.aM.xK.toInt==0<;>cases e.aM.xL.length==0<;>cases e.ar==3<;>cases bL e.aC==[]<;>cases e.xIdx.length==0<;>cases e.xIdx.all qG<;>rfl
theorem al7(N:Nat)(hN:16<N)(x:aZ):Jv N x=some (!(bL x.bS==[]||ia x.bS)):=by
 unfold Jv;rw[KG N _ hN,arx,s5,arx,td];cases bL x.bS==[]<;>rfl
theorem acz(N:Nat)(hN:16<N):∀(l:asn aZ)(k:Nat),∃z:Int,Mc N l k=some z/\decide (z>=0)=l.any λx=> !(bL x.bS==[]||ia x.bS)
 |[],k=>⟨-1,rfl,rfl⟩
 |x::l,k=>by
  rw[Mc,asj,al7 N hN,arx];cases h: !(bL x.bS==[]||ia x.bS)with
  |true=>exact⟨k,rfl,asf (by omega)⟩
  |false=>exact acz N hN l (k+1)
theorem ap2(N:Nat)(hN:16<N)(e:an):Mt N e=some (qb e):=by
 unfold Mt qb TL PL;obtain⟨z,h1,h2⟩:=acz N hN e.xIdx 0;rw[KG N _ hN,arx,h1];simp only[arx,h2,Pf,dU,s5];cases e.ar==3<;>cases ia e.aC<;>cases (e.xIdx.all λx=>bL x.bS==[]||ia x.bS)<;>rfl
theorem ZX(N:Nat)(hN:16<N):∀(l:asn aZ)(k:Nat),Im N l k=some (l.all λx=>bL x.bS==[]||ia x.bS)
 |[],_=>rfl
 |x::l,k=>by
  rw[Im,asi,ZX N hN l (k+1),NQ N _ hN,arx,s5,arx,s5,td];cases bL x.bS==[]<;>cases ia x.bS<;>rfl
theorem aph(N:Nat)(hN:16<N)(e:an):IF N e=some (qb e):=by
 unfold IF qb;rw[NQ N _ hN,arx,ZX N hN];simp only[arx,dU,s5];cases e.ar==3<;>cases ia e.aC<;>rfl
theorem VQ(N:Nat):∀(l:asn aZ)(k:Nat),∃z:Int,Nl N l k=some z/\decide (z>=0)=l.any λx=> !decide (x.bH.length<=6)
 |[],k=>⟨-1,rfl,rfl⟩
 |x::l,k=>by
  rw[Nl,asj];unfold SU;rw[arx,show decide ((x.bH.length:Int)>6)= !decide (x.bH.length<=6)from kP _ 6];cases h: !decide (x.bH.length<=6)with
  |true=>exact⟨k,rfl,asf (by omega)⟩
  |false=>exact VQ N l (k+1)
theorem ao0(N:Nat)(op:Int):Jf N op=some (kK op):=by
 unfold Jf Ft DO kK;cases op==1<;>cases op==2<;>cases op==3<;>cases op==8<;>cases op==12<;>cases op==18<;>cases op==11<;>rfl
theorem amc(N:Nat)(op:Int):JL N op=some (kK op):=by
 unfold JL Ej Ez kK;cases op==1<;>cases op==2<;>cases op==3<;>cases op==8<;>cases op==12<;>cases op==18<;>cases op==11<;>rfl
theorem aqx(N:Nat)(e:an):Mz N e=some (mr e):=by
 unfold Mz mr Ok P1;obtain⟨z,h1,h2⟩:=VQ N e.xIdx 0;rw[ao0,arx,h1,show decide ((e.xIdx.length:Int)>6)= !decide (e.xIdx.length<=6)from kP _ 6];simp only[arx,h2,Pf,jO,s5,gV];cases (e.ax.length:Int)==kK e.ar<;>cases decide (e.xIdx.length<=6)<;>cases (e.xIdx.all λx=>decide (x.bH.length<=6))<;>rfl
theorem adv(N:Nat):∀(l:asn aZ)(k:Nat),Mv N l k=some (l.all λx=>decide (x.bH.length<=6))
 |[],_=>rfl
 |x::l,k=>by
  rw[Mv,asi,adv N l (k+1),show decide ((x.bH.length:Int)>6)= !decide (x.bH.length<=6)from kP _ 6];cases decide (x.bH.length<=6)<;>rfl
theorem anL(N:Nat)(e:an):L7 N e=some (mr e):=by
 unfold L7 mr;rw[amc,arx,adv,show decide ((e.xIdx.length:Int)>6)= !decide (e.xIdx.length<=6)from kP _ 6];simp only[arx,jO,s5,gV];cases (e.ax.length:Int)==kK e.ar<;>cases decide (e.xIdx.length<=6)<;>rfl
theorem TU(N:Nat)(e:an):Cd N e=some (fc e):=by
 unfold Cd fc;rw[dU,arx]
theorem J9(N:Nat)(e:an):A1 N e=some (fc e):=by
 unfold A1 fc;rw[mJ,dU,arx]
theorem aoF(N:Nat)(op:Int)(i:Nat):L0 N op (i:Int)=some (mw op i):=by
 unfold L0 F4 mw;rw[oO];cases op==16<;>cases op==17<;>cases op==18<;>cases op==11<;>cases i==0<;>rfl
theorem aej(N:Nat)(op:Int)(i:Nat):MA N op (i:Int)=some (mw op i):=by
 unfold MA mw;rw[oO];cases op==16<;>cases op==17<;>cases op==18<;>cases op==11<;>cases i==0<;>rfl
theorem adj(N:Nat)(e:an):∀(l:asn an)(i:Nat),HP N e l i=some (vU e.ar i l)
 |[],_=>rfl
 |a::l,i=>by
  rw[HP,vU,TU,arx,aoF,arx,adj N e l (i+1)];cases fc a==mw e.ar i<;>rfl
theorem ac3(N:Nat)(e:an):∀(l:asn an)(i:Nat),Lz N e l i=some (vU e.ar i l)
 |[],_=>rfl
 |a::l,i=>by
  rw[Lz,vU,J9,arx,aej,arx,ac3 N e l (i+1)];cases fc a==mw e.ar i<;>rfl
theorem agj(b:Bool):((bif b then(0:Int)else 10) !=0)= !b:=by cases b<;>rfl
theorem al6(N:Nat)(e:an):Lj N e=some (lQ e):=by
 unfold Lj lQ;rw[oV,arx,adj];simp only[agj];cases e.ar==1<;>cases e.ar==12<;>cases cZ e.ay<;>rfl
theorem alW(N:Nat)(e:an):ML N e=some (lQ e):=by
 unfold ML lQ;rw[qJ,arx,ac3];cases e.ar==1<;>cases e.ar==12<;>cases cZ e.ay<;>rfl
theorem aqQ(b:Bool):((bif b then(0:Int)else 1) !=0)= !b:=by cases b<;>rfl
theorem Xi(N:Nat)(hN:16<N):∀l:asn aH,(∀x∈l,iC x)->vw N l=some (bif l.all eH then 0 else 1)
 |[],_=>rfl
 |x::l,h=>by
  rw[vw,CI N hN x (h x arE),arx,aqQ,Xi N hN l (λy hy=>h y (arH _ hy)),asi];cases eH x<;>rfl
theorem ab4(N:Nat)(hN:16<N)(c:Bool):∀(l:asn aH)(k:Nat),(∀x∈l,iC x)->NK N (some c) l k=some (l.all eH&&c)
 |[],_,_=>rfl
 |x::l,k,h=>by
  rw[NK,Hr N hN x (h x arE),arx,ab4 N hN c l (k+1) (λy hy=>h y (arH _ hy)),asi];cases eH x<;>rfl
theorem X2(N:Nat)(hN:16<N):∀(l:asn aZ)(k:Nat),(∀x∈l,Vl x)->J2 N l k=some ((l.flatMap y4).all eH)
 |[],_,_=>rfl
 |x::l,k,h=>by
  have hx:=h x arE;rw[J2,Hr N hN _ hx.lin,arx,X2 N hN l (k+1) (λy hy=>h y (arH _ hy)),ab4 N hN _ _ _ hx.at_,List.flatMap_cons,y4,List.cons_append,asi,List.all_append];cases eH x.aM<;>rfl
theorem amg{e:an}(h:BA e):∀x∈o8 e,iC x:=by
 intro x hx;unfold o8 at hx;rcases ar2.1 hx with rfl|hx
 ·exact h.lin
 ·obtain⟨y,hy,hx⟩:=List.mem_flatMap.1 hx;unfold y4 at hx;rcases ar2.1 hx with rfl|hx
  ·exact(h.idx y hy).lin
  ·exact(h.idx y hy).at_ x hx
theorem aoL(N:Nat)(hN:2147483648<N)(e:an)(h:BA e)(ht:lQ e=true):Lx N e=some (sM e):=by
 unfold Lx sM o8;rw[asi,Hr N (by omega) _ h.lin,arx,X2 N (by omega) _ _ h.idx];cases h1:e.ar==1 with
 |true=>
  have FD:cZ e.ay=true:=by
   unfold lQ at ht;rw[h1]at ht;simp only[Bool.true_or,Bool.not_true,Bool.false_or,arA]at ht;exact ht.1
  rw[s7 N hN _ _ FD,arx];cases dG e.ay e.bD<;>cases eH e.aM<;>rfl
 |false=>cases eH e.aM<;>rfl
theorem aik(N:Nat)(hN:2147483648<N)(e:an)(h:BA e):Ef N e=some (lh e):=by
 unfold Ef lh;rw[afl,arx];cases nw e with
 |false=>rfl
 |true=>
  simp only[cond_true];rw[ap2 N (by omega),arx];cases qb e with
  |false=>rfl
  |true=>
   simp only[cond_true];rw[aqx,arx];cases mr e with
   |false=>rfl
   |true=>
    simp only[cond_true];rw[al6,arx];cases ht:lQ e with
    |false=>rfl
    |true=>
     simp only[cond_true];have hf:vw N (o8 e)=_:=Xi N (by omega) (o8 e) (amg h);unfold sM RV;rw[arx,hf];cases h1:e.ar==1 with
     |true=>
      have FD:cZ e.ay=true:=by
       unfold lQ at ht;rw[h1]at ht;simp only[Bool.true_or,Bool.not_true,Bool.false_or,arA]at ht;exact ht.1
      rw[wo N hN _ _ FD,arx];cases dG e.ay e.bD<;>cases (o8 e).all eH<;>rfl
     |false=>cases (o8 e).all eH<;>rfl
theorem gY{e x:an}(h:x∈e.ax):SizeOf.sizeOf x<SizeOf.sizeOf e:=by
 have h1:=List.sizeOf_lt_of_mem h;cases e
 simp only[an.mk.sizeOf_spec]at*;omega
theorem mA{e x y:an}(h:x∈e.ax)(hy:y∈cW x):y∈cW e:=by
 have gen:∀l:asn an,x∈l->y∈jU l:=by
  intro l
  induction l with
  |nil=>intro h;cases h
  |cons z l ih=>
   intro h;rw[Ax];rcases ar2.1 h with rfl|h
   ·exact List.mem_append_left _ hy
   ·exact List.mem_append_right _ (ih h)
 exact arH _ (gen _ h)
theorem pQ.node{e:an}(h:pQ e):BA e:=h e arE
theorem pQ.arg{e x:an}(h:pQ e)(hx:x∈e.ax):pQ x:=λy hy=>h y (mA hx hy)
def jY:asn an->Int
 |[]=>0
 |x::l=>bif lh x !=0 then lh x else jY l
theorem XX:∀a b:asn an,jY (a++b)=bif jY a !=0 then jY a else jY b
 |[],_=>rfl
 |x::a,b=>by
  rw[List.cons_append,jY,jY,XX a b];cases h:lh x !=0 with
  |true=>simp only[cond_true,h]
  |false=>rfl
theorem Z7(N:Nat)(hN:2147483648<N):∀l:asn an,(∀x∈l,BA x)->xq N l=some (jY l)
 |[],_=>rfl
 |x::l,h=>by
  rw[xq,aik N hN x (h x arE),arx,Z7 N hN l (λy hy=>h y (arH _ hy)),jY];cases lh x !=0<;>rfl
theorem abC(N:Nat)(rec:an->asp Int):∀(l:asn an)(k:Nat),(∀x∈l,rec x=some (jY (cW x)))->MC N rec l k=some (jY (jU l))
 |[],_,_=>by rw[jU];rfl
 |x::l,k,h=>by
  rw[MC,h x arE,arx,abC N rec l (k+1) (λy hy=>h y (arH _ hy)),Ax,XX];cases jY (cW x) !=0<;>rfl
theorem abN(N:Nat)(hN:2147483648<N):∀(d:Nat)(e:an),SizeOf.sizeOf e<d->pQ e->vV N d e=some (jY (cW e))
 |0,_,h,_=>absurd h (ar0 _)
 |d+1,e,h,hk=>by
  rw[vV];have hl:=abC N (vV N d) e.ax 0 λx hx=>abN N hN d x (by have:=gY hx;omega) (hk.arg hx);unfold cW;rw[jY];unfold lh;rw[aov,arx];cases nw e with
  |false=>rfl
  |true=>
   simp only[cond_true];rw[aph N (by omega),arx];cases qb e with
   |false=>rfl
   |true=>
    simp only[cond_true];rw[anL,arx];cases mr e with
    |false=>rfl
    |true=>
     simp only[cond_true];rw[alW,arx];cases ht:lQ e with
     |false=>rfl
     |true=>
      simp only[cond_true];rw[aoL N hN e hk.node ht,arx,hl];cases sM e<;>rfl
def iM:Nat->an->Nat
 |0,_=>1
 |L+1,e=>e.ax.foldl (λm a=>max m (1+iM L a)) 1
theorem aa0{α:Type}(f:α->Nat)(b:Nat):∀(l:asn α)(m:Nat),m<=b->(∀x∈l,f x<=b)->l.foldl (λm a=>max m (f a)) m<=b
 |[],_,h,_=>h
 |x::l,_,h,hl=>aa0 f b l _ (Nat.max_le.2 ⟨h,hl x arE⟩) λy hy=>hl y (arH _ hy)
theorem Qi:∀(L:Nat)(e:an),iM L e<=L+1
 |0,_=>arJ _
 |L+1,e=>aa0 (λa=>1+iM L a) (L+2) e.ax 1 (by omega) λx _=>by have:=Qi L x;show 1+iM L x<=L+2;omega
theorem vF{z:Int}(h1: -9223372036854775808<=z)(h2:z<9223372036854775808):aI z=z:=by
 unfold aI;rw[IntKind.wrap_i64];omega
theorem MS(a b:Nat):(if((a:Nat):Int)>((b:Nat):Int)then((a:Nat):Int)else(b:Int))=((max b a:Nat):Int):=by
 split<;>omega
theorem Vy(N:Nat)(rec:an->Int->asp Int)(L:Nat)(hL:L<=100):∀(l:asn an)(k m:Nat),(∀x∈l,rec x ((L:Int)+1)=some ((iM L x:Nat):Int))->H5 N rec ((L:Int)+1+1) l k (m:Int)=some ((l.foldl (λm a=>max m (1+iM L a)) m:Nat):Int)
 |[],_,_,_=>rfl
 |x::l,k,m,h=>by
  have h1:=Qi L x;rw[H5,vF (by omega) (by omega),show(L:Int)+1+1-1=(L:Int)+1 by omega,h x arE,arx];rw[vF (by omega) (by omega),show(1:Int)+((iM L x:Nat):Int)=((1+iM L x:Nat):Int) by omega,MS];exact Vy N rec L hL l (k+1) _ λy hy=>h y (arH _ hy)
theorem adD(N:Nat):∀(L d:Nat)(e:an),L<d->L<=100->rN N d e ((L:Int)+1)=some ((iM L e:Nat):Int)
 |L,0,_,h,_=>absurd h (ar0 _)
 |0,d+1,e,_,_=>by rw[rN];rfl
 |L+1,d+1,e,h,hL=>by
  rw[rN,asg (by omega)];simp only[cond_false];exact Vy N (rN N d) L (by omega) e.ax 0 1 λx _=>adD N L d x (by omega) (by omega)
theorem U0(N:Nat)(rec:an->Int->asp Int)(L:Nat)(hL:L<=100):∀(l:asn an)(k m:Nat),(∀x∈l,rec x ((L:Int)+1)=some ((iM L x:Nat):Int))->AN N ((L:Int)+1+1) rec l k (m:Int)=some ((l.foldl (λm a=>max m (1+iM L a)) m:Nat):Int)
 |[],_,_,_=>rfl
 |x::l,k,m,h=>by
  have h1:=Qi L x;rw[AN,asf (show(L:Int)+1+1>1 by omega)];simp only[cond_true];rw[vF (by omega) (by omega),show(L:Int)+1+1-1=(L:Int)+1 by omega,h x arE,arx];rw[vF (by omega) (by omega),show(1:Int)+((iM L x:Nat):Int)=((1+iM L x:Nat):Int) by omega,MS];exact U0 N rec L hL l (k+1) _ λy hy=>h y (arH _ hy)
theorem aj2(N:Nat)(rec:an->Int->asp Int):∀l:asn an,AN N 1 rec l 0 1=some 1
 |[]=>rfl
 |x::l=>by rw[AN];rfl
theorem ZY(N:Nat):∀(L d:Nat)(e:an),L<d->L<=100->qK N d e ((L:Int)+1)=some ((iM L e:Nat):Int)
 |L,0,_,h,_=>absurd h (ar0 _)
 |0,d+1,e,_,_=>by rw[qK];exact aj2 N _ _
 |L+1,d+1,e,h,hL=>by
  rw[qK];exact U0 N (qK N d) L (by omega) e.ax 0 1 λx _=>ZY N L d x (by omega) (by omega)
theorem adk(N:Nat):∀(l:asn an)(v:Nat),v<=2000->wI N l (v:Int)=some ((min (v+l.length) 2001:Nat):Int)
 |[],v,h=>by rw[wI];congr 2;simp only[arK];omega
 |x::l,v,h=>by
  rw[wI,vF (by omega) (by omega)];by_cases h2:v+1>2000
  ·rw[asf (by omega)];simp only[cond_true]
   congr 1
   simp only[arB];omega
  ·rw[asg (by omega)];simp only[cond_false];rw[show(v:Int)+1=((v+1:Nat):Int) by omega,adk N l (v+1) (by omega)]
   congr 3
   simp only[arB];omega
theorem afx(N:Nat)(e:an):FL N e=some ((min (cW e).length 2001:Nat):Int):=by
 unfold FL Nu;have:=adk N (cW e) 0 (by omega);rw[arS]at this;exact this
theorem Zg(N:Nat)(rec:an->Int->asp Int)(m:Nat)(hm:m<=4000):∀(l:asn an)(k n:Nat),n<=m+1->(∀x∈l,∀q:Nat,q<=m->rec x (q:Int)=some ((min (cW x).length (q+1):Nat):Int))->Ec N (m:Int) rec l k (n:Int)=some ((min (n+(jU l).length) (m+1):Nat):Int)
 |[],k,n,hn,_=>by rw[Ec,jU];congr 2;simp only[arK];omega
 |x::l,k,n,hn,h=>by
  rw[Ec];by_cases h2:n<=m
  ·rw[asf (by omega)];simp only[cond_true];rw[vF (by omega) (by omega),show(m:Int)-(n:Int)=((m-n:Nat):Int) by omega,h x arE (m-n) (by omega),arx];rw[vF (by omega) (by omega),show(n:Int)+((min (cW x).length (m-n+1):Nat):Int)=((n+min (cW x).length (m-n+1):Nat):Int) by omega];rw[Zg N rec m hm l (k+1) _ (by omega) λy hy=>h y (arH _ hy),Ax,arz]
   congr 2
   omega
  ·rw[asg (by omega)];simp only[cond_false]
   congr 1
   omega
theorem Yi(N:Nat):∀(d:Nat)(e:an)(m:Nat),SizeOf.sizeOf e<d->m<=4000->tP N d e (m:Int)=some ((min (cW e).length (m+1):Nat):Int)
 |0,_,_,h,_=>absurd h (ar0 _)
 |d+1,e,m,h,hm=>by
  rw[tP];have:=Zg N (tP N d) m hm e.ax 0 1 (by omega) λx hx q hq=>Yi N d x q (by have:=gY hx;omega) (by omega);rw[show((1:Nat):Int)=1 from rfl]at this;rw[this]
  congr 2
  unfold cW;simp only[arB];omega
def ig(e:an):Int:=bif decide (40<iM 40 e)then 13 else bif decide (2000<(cW e).length)then 2 else jY (cW e)
theorem aaS(N:Nat)(hN:2147483648<N)(e:an)(h:pQ e):A4 N e=some (ig e):=by
 unfold A4 TM QM ig;have hd:rN N N e 41=_:=adD N 40 N e (by omega) (by omega);rw[hd,arx,arx,afx,arx];rw[mS (p:=((iM 40 e:Nat):Int)>40) (q:=40<iM 40 e) (by omega),mS (p:=((min (cW e).length 2001:Nat):Int)>2000) (q:=2000<(cW e).length) (by omega)];cases decide (40<iM 40 e)<;>cases decide (2000<(cW e).length)<;>try rfl
 simp only[cond_false];exact Z7 N hN (cW e) h
theorem acA(N:Nat)(hN:2147483648<N)(e:an)(hs:SizeOf.sizeOf e<N)(h:pQ e):Af N e=some (ig e):=by
 unfold Af S5 R0 OI R3 Pd ig;have hd:qK N N e 41=_:=ZY N 40 N e (by omega) (by omega);have hz:tP N N e 2000=_:=Yi N N e 2000 hs (by omega);rw[hd,arx,arx,hz,arx,arx,abN N hN N e hs h,arx];rw[mS (p:=((iM 40 e:Nat):Int)>40) (q:=40<iM 40 e) (by omega)];rw[show(if(2001:Int)<((min (cW e).length 2001:Nat):Int)then(2001:Int)else((min (cW e).length 2001:Nat):Int))=((min (cW e).length 2001:Nat):Int) by split<;>omega];rw[mS (p:=((min (cW e).length 2001:Nat):Int)>2000) (q:=2000<(cW e).length) (by omega)];cases decide (40<iM 40 e)<;>cases decide (2000<(cW e).length)<;>rfl
def dg(l:asn aso)(s:aso):Bool:=l.any λw=>bL w==bL s
theorem LJ(N:Nat)(l:asn aso)(s:aso):wD N l s=some (dg l s):=UH N s l 0
theorem l4(a b:asn aso)(s:aso):dg (a++b) s=(dg a s||dg b s):=List.any_append
theorem acy{s x:aso}(h:(bL s==bL x)=true)(l:asn aso):dg l x=dg l s:=by
 unfold dg;rw[beq_iff_eq.1 h]
theorem FU(s x:aso):dg [s] x=(bL s==bL x):=by unfold dg;rw[asj,List.any_nil,Bool.or_false]
theorem aet(N:Nat)(l:asn aso)(s:aso):Aw N l s=some (dg l s):=by
 unfold Aw MG;obtain⟨z,h1,h2⟩:=Ry N s l 0;rw[h1,arx,h2];rfl
def jQ(t:asn aso)(s:aso):Int:=bif ia s then bif dg t s then 8 else 0 else 7
theorem MW(N:Nat)(hN:16<N)(s:aso)(t:asn aso):xA N s t=some (jQ t s):=by
 unfold xA jQ;rw[NQ N s hN,arx,LJ,arx];cases ia s<;>cases dg t s<;>rfl
theorem TF{t:asn aso}{s:aso}(h:jQ t s=0):ia s=true/\dg t s=false:=by
 unfold jQ at h;cases h1:ia s<;>cases h2:dg t s<;>rw[h1,h2]at h<;>first|exact⟨rfl,rfl⟩|(exact absurd h (by decide))
structure KN(m:List (ByteArray×Int))(S T:List ByteArray):Prop where
 val:∀s,hJ m s 0=bif dg S s then 1 else bif dg T s then 2 else 0
 len:m.length<=S.length+T.length
 dis:∀s,dg T s=true->dg S s=false
section
variable {m:asn (aso×Int)} {S T:asn aso}
theorem KN.ne0(h:KN m S T)(s:aso):(hJ m s 0 !=0)=dg (S++T) s:=by
 rw[h.val,l4];cases dg S s<;>cases dg T s<;>rfl
theorem KN.ne1(h:KN m S T)(s:aso):(hJ m s 0 !=1)= !dg S s:=by
 rw[h.val];cases dg S s<;>cases dg T s<;>rfl
theorem KN.FP(h:KN m S T)(s:aso):(hJ m s 0==1)=dg S s:=by
 rw[h.val];cases dg S s<;>cases dg T s<;>rfl
theorem KN.ne2(h:KN m S T)(s:aso):(hJ m s 0 !=2)= !dg T s:=by
 have:=h.dis s;rw[h.val];cases e1:dg S s<;>cases e2:dg T s<;>first|rfl|(rw[e1]at this;exact absurd (this e2) (by decide))
theorem Jy{V:Type}(k:aso)(v:V)(m:asn (aso×V))(s:aso)(d:V):hJ ((k,v)::m) s d=bif bL k==bL s then v else hJ m s d:=rfl
theorem KN.V1(h:KN m S T){s:aso}(hs:dg (S++T) s=false):KN ((s,2)::m) S (T++[s]):=by
 rw[l4,asm]at hs;refine⟨λx=> ?_,by have:=h.len;simp only[arB,arz,arK];omega,λx hx=> ?_⟩
 rotate_left
 ·rw[l4,FU]at hx;cases e:bL s==bL x with
  |true=>rw[acy e];exact hs.1
  |false=>rw[e,Bool.or_false]at hx;exact h.dis x hx
 rw[Jy,h.val,l4,FU];cases e:bL s==bL x with
 |true=>rw[acy e,hs.1];cases dg T x<;>rfl
 |false=>cases dg S x<;>cases dg T x<;>rfl
theorem KN.wm(h:KN m S [])(s:aso):KN ((s,1)::m) (S++[s]) []:=by
 refine⟨λx=> ?_,by have:=h.len;simp only[arB,arz,arK]at*;omega,λx hx=>by cases hx⟩;rw[Jy,h.val,l4,FU];cases e:bL s==bL x<;>cases dg S x<;>rfl
theorem KN.nil:KN [] [] []:=⟨λ_=>rfl,arJ _,λ_ h=>by cases h⟩
theorem PG(N:Nat)(hN:16<N)(s:aso)(k:Int)(p:bp)(h:KN m S T)(hl:S.length+T.length<9223372036854775807):
 Bg N s k p m=some (jQ (S++T) s,bif jQ (S++T) s==0 then(s,k)::m else m):=by
 unfold Bg jQ;rw[KG N s hN,arx,h.ne0,show Nat.blt m.length 9223372036854775807=true from Nat.ble_eq_true_of_le (by have:=h.len;omega)];cases ia s<;>cases dg (S++T) s<;>rfl
def zu(V:asn aso)(l:aH):Bool:=l.xL.all λm=>dg V m.aC
def iW(S:asn aso)(l:aH):Int:=bif eH l then bif zu S l then 0 else 9 else 1
theorem adw(N:Nat)(h:KN m S T):∀(l:asn bB)(k:Nat),K1 N m l k=some (bif l.all (λm=>dg S m.aC)then 0 else 9)
 |[],_=>rfl
 |x::l,k=>by
  rw[K1,h.ne1,asi,adw N h l];cases dg S x.aC<;>rfl
theorem PM(N:Nat)(hN:16<N)(l:aH)(p:bp)(hl:iC l)(h:KN m S T):AO N l p m=some (iW S l):=by
 unfold AO iW;rw[CI N hN l hl,arx,adw N h];cases eH l<;>rfl
theorem UI(N:Nat)(V W:asn aso):∀(l:asn bB)(k:Nat),LD N V W l k=some (l.all λm=>dg (V++W) m.aC)
 |[],_=>rfl
 |x::l,k=>by
  rw[LD,LJ,LJ,asi,UI N V W l,l4];cases dg V x.aC<;>cases dg W x.aC<;>rfl
theorem Ou(N:Nat)(V W:asn aso)(l:aH):C4 N l V W=some (zu (V++W) l):=UI N V W l.xL 0
theorem OR(N:Nat)(hN:16<N)(l:aH)(hl:iC l)(S:asn aso):g_brocaderef17_form N l S=some (iW S l):=by
 unfold g_brocaderef17_form iW;rw[Hr N hN l hl,arx,Ou,arx];rw[List.nil_append];cases eH l<;>cases zu S l<;>rfl
theorem Fu(n:Nat):decide ((n:Int)>6)= !decide (n<=6):=kP n 6
theorem aju(N:Nat)(t:aE)(n:Nat):yt N t [(n:Int)]=some (bif cZ t then bif decide (n<=6)then 0 else 11 else 10):=by
 unfold yt;rw[oV,arx,show Gd N [(n:Int)]=some (n:Int)from rfl,arx,Fu];cases cZ t<;>cases decide (n<=6)<;>rfl
theorem ao3(N:Nat)(t:aE)(n k:Nat):yt N t [(n:Int),(k:Int)]=some (bif cZ t then bif decide (n<=6)&&decide (k<=6)then 0 else 11 else 10):=by
 unfold yt;rw[oV,arx,show Gd N [(n:Int),(k:Int)]=some (if(k:Int)>(n:Int)then(k:Int)else(n:Int))from rfl,arx,MS,Fu];have:decide (max n k<=6)=(decide (n<=6)&&decide (k<=6)):=by
  rw[Bool.eq_iff_iff,arA,decide_eq_true_iff,decide_eq_true_iff,decide_eq_true_iff];omega
 rw[this];cases cZ t<;>cases (decide (n<=6)&&decide (k<=6))<;>rfl
def gM{α:Type}(f:α->Int):asn α->Int
 |[]=>0
 |x::l=>bif f x !=0 then f x else gM f l
def CV(S T:asn aso)(x:dh):Int:=bif jQ (S++T) x.aC !=0 then jQ (S++T) x.aC else bif cZ x.ay then bif decide (x.bI.length<=6)then gM (iW S) x.bI else 11 else 10
theorem Z6(N:Nat)(hN:16<N)(p:bp)(q:Int×asn (aso×Int))(h:KN q.2 S T):∀(l:asn aH)(k:Nat),(∀x∈l,iC x)->Ic N q p l k=some (gM (iW S) l,q.2)
 |[],_,_=>rfl
 |x::l,k,hx=>by
  rw[Ic,PM N hN x p (hx x arE) h,arx,gM];cases iW S x !=0 with
  |true=>rfl
  |false=>exact Z6 N hN p q h l (k+1) λy hy=>hx y (arH _ hy)
theorem lN{a:Int}(h:(a !=0)=false):a=0:=by
 rw[bne_eq_false_iff_eq]at h;exact h
theorem ahF(N:Nat)(hN:16<N)(x:dh)(p:bp)(hx:∀y∈x.bI,iC y)(h:KN m S T)(hl:S.length+T.length<9223372036854775807):
 ∃m',HZ N x p m=some (CV S T x,m')/\(CV S T x=0->KN m' S (T++[x.aC])):=by
 unfold HZ CV;rw[PG N hN x.aC 2 p h hl,arx,aju];simp only[];cases e:jQ (S++T) x.aC !=0 with
 |true=>exact⟨_,rfl,λh0=>by rw[cond_true]at h0;rw[h0]at e;cases e⟩
 |false=>
  have e0:=lN e;have k:=h.V1 (TF e0).2;rw[e0];simp only[ash,cond_true,cond_false];cases cZ x.ay with
  |false=>exact⟨_,rfl,λh0=>by cases h0⟩
  |true=>
   cases decide (x.bI.length<=6)with
   |false=>exact⟨_,rfl,λh0=>by cases h0⟩
   |true=>exact⟨_,Z6 N hN p (0,(x.aC,2)::m) k x.bI 0 hx,λ_=>k⟩
theorem XS(N:Nat)(hN:16<N)(S:asn aso):∀(l:asn aH)(k:Nat),(∀x∈l,iC x)->Kb N S l k=some (gM (iW S) l)
 |[],_,_=>rfl
 |x::l,k,hx=>by
  rw[Kb,OR N hN x (hx x arE),arx,gM];cases iW S x !=0 with
  |true=>rfl
  |false=>exact XS N hN S l (k+1) λy hy=>hx y (arH _ hy)
theorem aj8(N:Nat)(hN:16<N)(x:dh)(S T:asn aso)(hx:∀y∈x.bI,iC y):MJ N x S (S++T)=some (CV S T x):=by
 unfold MJ CV;rw[MW N hN,arx,qJ,arx,Fu,XS N hN S _ _ hx];cases jQ (S++T) x.aC !=0<;>cases cZ x.ay<;>cases decide (x.bI.length<=6)<;>rfl
def sm(S:asn aso):asn aso->asn cT->Int
 |_,[]=>0
 |O,a::l=>bif jQ (S++O) a.aC !=0 then jQ (S++O) a.aC else bif iW S a.eZ !=0 then iW S a.eZ else sm S (O++[a.aC]) l
structure ON(w:List (ByteArray×Bool))(O:List ByteArray):Prop where
 val:∀s,hJ w s false=dg O s
 len:w.length<=O.length
theorem ON.add{w:asn (aso×Bool)}{O:asn aso}(h:ON w O)(s:aso):ON ((s,true)::w) (O++[s]):=by
 refine⟨λx=> ?_,by have:=h.len;simp only[arB,arz,arK];omega⟩;rw[Jy,h.val,l4,FU];cases bL s==bL x<;>cases dg O x<;>rfl
theorem ady(N:Nat)(hN:16<N)(p:bp)(h:KN m S T):∀(l:asn cT)(k:Nat)(w:asn (aso×Bool))(O:asn aso),ON w O->(∀x∈l,iC x.eZ)->O.length+l.length<9223372036854775807->
 NT N m p l k w=some (sm S O l)
 |[],_,_,_,_,_,_=>rfl
 |a::l,k,w,O,hw,hx,hl=>by
  have qm:O.length+l.length+1<9223372036854775807:=by simp only[arB]at hl;omega
  rw[NT,KG N _ hN,arx,hw.val,h.FP,PM N hN _ p (hx a arE) h,arx,sm,
    show Nat.blt w.length 9223372036854775807=true from Nat.ble_eq_true_of_le (by have:=hw.len;omega)]
  have ih:=ady N hN p h l (k+1) _ _ (hw.add a.aC) (λy hy=>hx y (arH _ hy)) (by simp only[arz,arB,arK];omega);unfold jQ;dsimp only;rw[l4,ih];cases ia a.aC<;>cases dg S a.aC<;>cases dg O a.aC<;>first|rfl|(cases iW S a.eZ !=0<;>rfl)
theorem Xu(N:Nat)(hN:16<N)(S:asn aso):∀(l:asn cT)(k:Nat)(O:asn aso),(∀x∈l,iC x.eZ)->S.length+O.length+l.length<1000000000->
 M7 N S l k (S++O)=some (sm S O l)
 |[],_,_,_,_=>rfl
 |a::l,k,O,hx,hl=>by
  have qm:S.length+O.length+l.length+1<1000000000:=by simp only[arB]at hl;omega
  rw[M7,MW N hN,arx,OR N hN _ (hx a arE),arx,sm,
    show Nat.ble (((S++O).length+1)*16) 140737488355328=true from Nat.ble_eq_true_of_le (by rw[arz];omega)]
  have ih:=Xu N hN S l (k+1) (O++[a.aC]) (λy hy=>hx y (arH _ hy)) (by simp only[arz,arB,arK];omega);rw[<-arP]at ih;dsimp only;rw[ih];cases jQ (S++O) a.aC !=0<;>cases iW S a.eZ !=0<;>rfl
theorem apS(N:Nat)(hN:16<N)(S:asn aso)(l:asn cT)(hx:∀x∈l,iC x.eZ)(hl:S.length+l.length<1000000000):Jk N l S=some (sm S [] l):=by
 unfold Jk;have:=Xu N hN S l 0 [] hx (by simp only[arK];omega);rw[arT]at this;rw[this,show Nat.ble ((0+S.length)*16) 140737488355328=true from Nat.ble_eq_true_of_le (by omega)];rfl
theorem CU{n:Nat}(h:n<=9223372036854775807):aI (n:Int)=(n:Int):=vF (by omega) (by omega)
theorem UO(N:Nat)(a b:asn cT)(h:a.length+b.length<1000000000):Cp N [a,b]=some (a++b):=by
 unfold Cp;rw[uj,show aI ((0:Int)+(a.length:Int))=((a.length:Nat):Int) by rw[Int.zero_add,CU (by omega)],show decide ((a.length:Int)<0)=false from asg (by omega)];simp only[cond_false];rw[uj,show aI ((a.length:Int)+(b.length:Int))=((a.length+b.length:Nat):Int) by rw[<-Int.natCast_add,CU (by omega)],show decide (((a.length+b.length:Nat):Int)<0)=false from asg (by omega)];simp only[cond_false];rw[uj];unfold T7;rw[show decide ((0:Int)<=((a.length+b.length:Nat):Int))=true from asf (by omega),arZ,show Nat.ble ((a.length+b.length)*48) 140737488355328=true from Nat.ble_eq_true_of_le (by omega)];simp only[Bool.and_self,cond_true,arx];rw[xS];rw[show Nat.ble ((([]:asn cT).length+a.length)*48) 140737488355328=true from Nat.ble_eq_true_of_le (by simp only[arK];omega)];simp only[cond_true,List.nil_append];rw[xS];rw[show Nat.ble ((a.length+b.length)*48) 140737488355328=true from Nat.ble_eq_true_of_le (by omega)];rfl
theorem aep(N:Nat)(hN:16<N)(d:bR)(p:bp)(h:KN m S T)(hx:∀x∈d.bI++d.cl,iC x.eZ)(hl:d.bI.length+d.cl.length<1000000000):
 Ja N d p m=some (sm S [] (d.bI++d.cl)):=by
 unfold Ja;rw[UO N _ _ hl,arx];exact ady N hN p h _ 0 [] [] ⟨λ_=>rfl,arJ _⟩ hx (by simp only[arz,arK];omega)
end
def He(d:bR):Int:=bif d.dy==0 then bif d.cl.length==0 then 0 else 11 else bif decide (1<=d.dy)&&decide (d.dy<=4)then bif d.cl.length==0 then 11 else 0 else bif d.dy==5 then bif d.cl.length==0&& !(d.bI.length==0)then 0 else 11 else 1
theorem ac2(f:Int):f=0\/f=1\/f=2\/f=3\/f=4\/f=5\/(f<0\/5<f):=by omega
theorem ala(N:Nat)(d:bR):JN N d=some (He d):=by
 unfold JN He Av;rw[JA,oO,oO];rcases ac2 d.dy with h|h|h|h|h|h|h
 ·rw[h];cases d.cl.length==0<;>rfl
 ·rw[h];cases d.cl.length==0<;>rfl
 ·rw[h];cases d.cl.length==0<;>rfl
 ·rw[h];cases d.cl.length==0<;>rfl
 ·rw[h];cases d.cl.length==0<;>rfl
 ·rw[h];cases d.cl.length==0<;>cases d.bI.length==0<;>rfl
 ·have e:∀k:Int,0<=k->k<=5->(d.dy==k)=false:=λk h1 h2=>beq_eq_false_iff_ne.2 (by omega);have e2:(decide (1<=d.dy)&&decide (d.dy<=4))=false:=by
   rw[Bool.and_eq_false_iff,decide_eq_false_iff_not,decide_eq_false_iff_not];omega
  rw[e 0 (by decide) (by decide),e 1 (by decide) (by decide),e 2 (by decide) (by decide),e 3 (by decide) (by decide),e 4 (by decide) (by decide),e 5 (by decide) (by decide),e2];rfl
theorem aqZ(N:Nat)(d:bR):Jd N d=some (He d):=by
 unfold Jd He;rw[oO,oO];rcases ac2 d.dy with h|h|h|h|h|h|h
 ·rw[h];cases d.cl.length==0<;>rfl
 ·rw[h];cases d.cl.length==0<;>rfl
 ·rw[h];cases d.cl.length==0<;>rfl
 ·rw[h];cases d.cl.length==0<;>rfl
 ·rw[h];cases d.cl.length==0<;>rfl
 ·rw[h];cases d.cl.length==0<;>cases d.bI.length==0<;>rfl
 ·have e:∀k:Int,0<=k->k<=5->(d.dy==k)=false:=λk h1 h2=>beq_eq_false_iff_ne.2 (by omega);have e2:(decide (1<=d.dy)&&decide (d.dy<=4))=false:=by
   rw[Bool.and_eq_false_iff,decide_eq_false_iff_not,decide_eq_false_iff_not];omega
  have e3:(bif decide (d.dy<0)then some true else some (decide (d.dy>5)))=some true:=by
   rcases h with h|h
   ·rw[asf h];rfl
   ·rw[show decide (d.dy>5)=true from asf h];cases decide (d.dy<0)<;>rfl
  rw[e3,e 0 (by decide) (by decide),e 5 (by decide) (by decide),e2];rfl
def iU(B:Nat)(l:aH):Prop:=l.xL.length<=B
theorem iU.ok{l:aH}(h:iU 1000000000 l):iC l:=arQ h (by decide)
theorem fI{n k:Nat}(h:n<=k):Nat.ble n k=true:=Nat.ble_eq_true_of_le h
theorem Y4(N:Nat):∀(l:asn cT)(k:Nat)(acc:asn aso),acc.length+l.length<=1000000000->Di N l k acc=some (acc++l.map (·.aC))
 |[],_,acc,_=>by rw[Di,List.map_nil,arT]
 |a::l,k,acc,h=>by
  simp only[arB]at h;rw[Di,fI (by omega),cond_true];dsimp only;rw[Y4 N l (k+1) _ (by simp only[arz,arB,arK];omega)];rw[arX,arP];rfl
theorem aj3(N:Nat)(d:bR)(h:d.bI.length+d.cl.length<1000000000):NF N d=some ((d.bI++d.cl).map (·.aC)):=by
 unfold NF;rw[UO N _ _ h,arx,Y4 N _ _ _ (by simp only[arz,arK];omega),List.nil_append]
theorem acn(N:Nat):∀(l:asn cT)(k:Nat)(acc:asn aso),acc.length+l.length<=1000000000->Fv N l k acc=some (acc++l.map (·.aC))
 |[],_,acc,_=>by rw[Fv,List.map_nil,arT]
 |a::l,k,acc,h=>by
  simp only[arB]at h;rw[Fv,fI (by omega),cond_true];dsimp only;rw[acn N l (k+1) _ (by simp only[arz,arB,arK];omega)];rw[arX,arP];rfl
theorem aaX(N:Nat)(d:bR):∀(l:asn cT)(k:Nat)(acc:asn aso),acc.length+l.length+d.cl.length<=1000000000->HC N d l k acc=some (acc++(l++d.cl).map (·.aC))
 |[],_,acc,h=>by rw[HC,acn N _ _ _ (by simp only[arK]at h;omega),List.nil_append]
 |a::l,k,acc,h=>by
  simp only[arB]at h;rw[HC,fI (by omega),cond_true];dsimp only;rw[aaX N d l (k+1) _ (by simp only[arz,arB,arK];omega)];rw[List.cons_append,arX,arP];rfl
theorem agR(N:Nat)(d:bR)(h:d.bI.length+d.cl.length<1000000000):HV N d=some ((d.bI++d.cl).map (·.aC)):=by
 unfold HV;rw[aaX N d _ _ _ (by simp only[arK];omega),List.nil_append]
theorem K4(N:Nat)(l:aH)(h:iU 1000000000 l):xe N l=some l:=by
 unfold xe DP;rw[fI (by have:=h;unfold iU at this;omega)];rfl
theorem abt(N:Nat):∀(l:asn aH)(k:Nat)(acc:asn aH),acc.length+l.length<=1000000000->(∀x∈l,iU 1000000000 x)->C8 N l k acc=some (acc++l)
 |[],_,acc,_,_=>by rw[C8,arT]
 |a::l,k,acc,h,hx=>by
  simp only[arB]at h;rw[C8,K4 N a (hx a arE),arx,fI (by omega),cond_true];dsimp only;rw[abt N l (k+1) _ (by simp only[arz,arB,arK];omega) λy hy=>hx y (arH _ hy)];rw[arP];rfl
theorem WZ(N:Nat)(l:asn aH)(h:l.length<=1000000000)(hx:∀x∈l,iU 1000000000 x):GQ N l=some l:=by
 unfold GQ;rw[abt N l 0 [] (by simp only[arK];omega) hx,List.nil_append]
def qi(s:aso)(d:bR):Bool:=bL d.aC==bL s
def Cy(D:asn bR)(s:aso)(k:Nat):Int:=match D.findIdx? (qi s)with|some i=>((k+i:Nat):Int)|none=> -1
theorem aoE(d:bR)(D:asn bR)(s:aso)(k:Nat):Cy (d::D) s k=bif qi s d then(k:Int)else Cy D s (k+1):=by
 unfold Cy;rw[List.findIdx?_cons];cases qi s d with
 |true=>rfl
 |false=>
  cases D.findIdx? (qi s)with
  |none=>rfl
  |some i=>simp only[cond_false,Bool.false_eq_true,if_false,Option.map_some];rw[Nat.add_assoc,Nat.add_comm 1 i]
theorem ZP(N:Nat)(s:aso):∀(l:asn bR)(k:Nat),Lv N s l k=some (Cy l s k)
 |[],_=>rfl
 |d::l,k=>by
  rw[Lv,aoE,show Uy N d s=some (qi s d)from rfl,arx,ZP N s l];cases qi s d<;>rfl
theorem apF(N:Nat)(p:bp)(s:aso):Nw N p s=some (Cy p.aU s 0):=by
 unfold Nw Od;rw[ZP];rfl
theorem VP{α:Type}(f:α->Bool):∀l:asn α,(l.findIdx? f=none/\l.find? f=none)\/∃i d,l.findIdx? f=some i/\l[i]?=some d/\l.find? f=some d/\f d=true
 |[]=> .inl ⟨rfl,rfl⟩
 |x::l=>by
  rw[List.findIdx?_cons,List.find?_cons];cases e:f x with
  |true=>exact .inr ⟨0,x,rfl,rfl,rfl,e⟩
  |false=>
   simp only[Bool.false_eq_true,if_false];rcases VP f l with⟨h1,h2⟩|⟨i,d,h1,h2,h3,h4⟩
   ·exact .inl ⟨by rw[h1];rfl,h2⟩
   ·exact .inr ⟨i+1,d,by rw[h1];rfl,by rw[ar9];exact h2,h3,h4⟩
def fS(P:asn dh)(D:asn bR)(s:aso):aE×asn aH×Bool:=
 match P.find? (λx=>bL x.aC==bL s)with
 |some x=>(x.ay,x.bI,true)
 |none=>match D.find? (qi s)with
  |some d=>(d.ay,d.bI.map (·.eZ),true)
  |none=>(cY,[],false)
theorem abW(N:Nat)(d:bR):∀(l:asn cT)(k:Nat)(acc:asn aH),acc.length+l.length<=1000000000->(∀x∈l,iU 1000000000 x.eZ)->Du N d l k acc=some (d.ay,acc++l.map (·.eZ),true)
 |[],_,acc,_,_=>by rw[Du,List.map_nil,arT]
 |a::l,k,acc,h,hx=>by
  simp only[arB]at h;rw[Du,K4 N _ (hx a arE),arx,fI (by omega),cond_true];dsimp only;rw[abW N d l (k+1) _ (by simp only[arz,arB,arK];omega) λy hy=>hx y (arH _ hy)];rw[arX,arP];rfl
theorem acL(N:Nat)(d:bR):∀(l:asn cT)(k:Nat)(acc:asn aH),acc.length+l.length<=1000000000->F5 N d l k acc=some (d.ay,acc++l.map (·.eZ),true)
 |[],_,acc,_=>by rw[F5,List.map_nil,arT]
 |a::l,k,acc,h=>by
  simp only[arB]at h;rw[F5,fI (by omega),cond_true];dsimp only;rw[acL N d l (k+1) _ (by simp only[arz,arB,arK];omega)];rw[arX,arP];rfl
structure qd(P:List dh):Prop where
 len:∀x∈P,x.bI.length<=1000000000
 mv:∀x∈P,∀y∈x.bI,iU 1000000000 y
structure jj(D:List bR):Prop where
 len:∀d∈D,d.bI.length+d.cl.length<900000000
 mv:∀d∈D,∀y∈d.bI++d.cl,iU 1000000000 y.eZ
theorem jj.Ot{D:asn bR}(h:jj D){d:bR}(hd:d∈D):∀y∈d.bI,iU 1000000000 y.eZ:=λy hy=>h.mv d hd y (List.mem_append_left _ hy)
theorem AW{α:Type}{l:asn α}{i:Nat}{d:α}(h:l[i]?=some d):d∈l:=arL h
theorem UT(N:Nat)(p:bp)(s:aso)(hD:jj p.aU):∀(l:asn dh)(k:Nat),qd l->Ff N p s l k=some (fS l p.aU s)
 |[],k,_=>by
  rw[Ff,apF,arx];unfold fS Cy;rw[List.find?_nil];rcases VP (qi s) p.aU with⟨h1,h2⟩|⟨i,d,h1,h2,h3,_⟩
  ·rw[h1,h2];rfl
  ·rw[h1,h3];simp only[arS];rw[show decide ((i:Int)>=0)=true from asf (by omega),arZ,h2];simp only[cond_true,arx];rw[abW N d _ _ _ (by have:=hD.len d (AW h2);simp only[arK];omega) (hD.Ot (AW h2)),List.nil_append]
 |x::l,k,hP=>by
  rw[Ff,UT N p s hD l (k+1) ⟨λy hy=>hP.len y (arH _ hy),λy hy=>hP.mv y (arH _ hy)⟩];unfold fS;rw[List.find?_cons];cases bL x.aC==bL s with
  |true=>simp only[cond_true];rw[WZ N _ (hP.len x arE) (hP.mv x arE)];rfl
  |false=>rfl
theorem WM(N:Nat)(p:bp)(s:aso)(hP:qd p.bA)(hD:jj p.aU):MN N p s=some (fS p.bA p.aU s):=UT N p s hD p.bA 0 hP
theorem acN(N:Nat)(s:aso):∀(D:asn bR)(k:Nat),jj D->Jt N s D k=some (fS [] D s)
 |[],_,_=>rfl
 |d::D,k,h=>by
  rw[Jt,acN N s D (k+1) ⟨λy hy=>h.len y (arH _ hy),λy hy=>h.mv y (arH _ hy)⟩];unfold fS;rw[List.find?_nil,List.find?_cons];unfold qi;cases bL d.aC==bL s with
  |true=>
   simp only[cond_true];rw[acL N d _ _ _ (by have:=h.len d arE;simp only[arK];omega),List.nil_append]
  |false=>rfl
theorem adi(N:Nat)(s:aso)(p:bp)(hD:jj p.aU):∀(l:asn dh)(k:Nat),Hf N s p l k=some (fS l p.aU s)
 |[],k=>by rw[Hf,acN N s _ _ hD]
 |x::l,k=>by
  rw[Hf,adi N s p hD l];unfold fS;rw[List.find?_cons];cases bL x.aC==bL s<;>rfl
theorem SB(N:Nat)(p:bp)(s:aso)(hD:jj p.aU):Ht N p s=some (fS p.bA p.aU s):=adi N s p hD p.bA 0
structure VN(m:List (ByteArray×Int))(V:List ByteArray):Prop where
 val:∀s,(hJ m s 0==0)= !dg V s
 len:m.length<=V.length
theorem VN.add{m:asn (aso×Int)}{V:asn aso}(h:VN m V)(s:aso)(k:Int)(hk:(k==0)=false):VN ((s,k)::m) (V++[s]):=by
 refine⟨λx=> ?_,by have:=h.len;simp only[arB,arz,arK];omega⟩;rw[Jy,l4,FU];cases e:bL s==bL x with
 |true=>rw[cond_true,hk,Bool.or_true];rfl
 |false=>rw[cond_false,h.val,Bool.or_false]
def oB(V:asn aso)(l:aH):Int:=bif zu V l then 0 else 9
theorem YB(N:Nat){m:asn (aso×Int)}{V:asn aso}(h:VN m V):∀(l:asn bB)(k:Nat),NS N m l k=some (bif l.all (λm=>dg V m.aC)then 0 else 9)
 |[],_=>rfl
 |x::l,k=>by
  rw[NS,h.val,asi,YB N h l];cases dg V x.aC<;>rfl
theorem Pe(N:Nat){m:asn (aso×Int)}{V:asn aso}(h:VN m V)(l:aH)(p:bp):Hk N l p m=some (oB V l):=YB N h l.xL 0
def w6(V:asn aso)(P:asn dh)(D:asn bR)(x:aZ):Int:=
 bif bL x.bS==[]then oB V x.aM else bif (fS P D x.bS).2.2 then bif (fS P D x.bS).1.aO !=3 then 10 else bif x.bH.length==(fS P D x.bS).2.1.length then gM (oB V) x.bH else 11 else 9
theorem tH(a b:Nat):((a:Int) !=(b:Int))= !(a==b):=UY a b
theorem abG(N:Nat){m:asn (aso×Int)}{V:asn aso}(h:VN m V)(p:bp):∀(l:asn aH)(k:Nat),MM N p m l k=some (gM (oB V) l)
 |[],_=>rfl
 |x::l,k=>by
  rw[MM,Pe N h,arx,gM,abG N h p l];cases oB V x !=0<;>rfl
theorem aoH(N:Nat){m:asn (aso×Int)}{V:asn aso}(h:VN m V)(p:bp)(hP:qd p.bA)(hD:jj p.aU)(x:aZ):Mj N x p m=some (w6 V p.bA p.aU x):=by
 unfold Mj w6;rw[td,Pe N h,WM N p _ hP hD,arx,arx,tH,abG N h p];cases bL x.bS==[]<;>cases (fS p.bA p.aU x.bS).2.2<;>cases (fS p.bA p.aU x.bS).1.aO !=3<;>cases x.bH.length==(fS p.bA p.aU x.bS).2.1.length<;>rfl
def wY(V:asn aso)(P:asn dh)(D:asn bR)(e:an):Int:=
 bif (fS P D e.aC).2.2 then bif e.xIdx.length==(fS P D e.aC).2.1.length then gM (w6 V P D) e.xIdx else 11 else 9
def ye(t:aE)(x:Int):aE×Int:=(bif x !=0 then cY else t,x)
theorem Z9(N:Nat){m:asn (aso×Int)}{V:asn aso}(h:VN m V)(p:bp)(hP:qd p.bA)(hD:jj p.aU)(q:aE×asn aH×Bool):∀(l:asn aZ)(k:Nat),Kp N q p m l k=some (ye q.1 (gM (w6 V p.bA p.aU) l))
 |[],_=>rfl
 |x::l,k=>by
  rw[Kp,aoH N h p hP hD,arx,gM,Z9 N h p hP hD q l];unfold ye;cases e:w6 V p.bA p.aU x !=0 with
  |true=>simp only[cond_true];rw[e];rfl
  |false=>rfl
theorem an1(N:Nat){m:asn (aso×Int)}{V:asn aso}(h:VN m V)(p:bp)(hP:qd p.bA)(hD:jj p.aU)(e:an):Nx N e p m=some (ye (fS p.bA p.aU e.aC).1 (wY V p.bA p.aU e)):=by
 unfold Nx wY;rw[WM N p _ hP hD,arx,tH,Z9 N h p hP hD];cases (fS p.bA p.aU e.aC).2.2<;>cases e.xIdx.length==(fS p.bA p.aU e.aC).2.1.length<;>rfl
theorem Z3(N:Nat)(V:asn aso)(p:bp):∀(l:asn aH)(k:Nat),N1 N V p l k=some (gM (oB (V++p.bO)) l)
 |[],_=>rfl
 |x::l,k=>by
  rw[N1,Ou,arx,gM,Z3 N V p l];unfold oB;cases zu (V++p.bO) x<;>rfl
theorem Qq(N:Nat)(V:asn aso)(p:bp)(l:asn aH):K8 N p V l=some (gM (oB (V++p.bO)) l):=Z3 N V p l 0
theorem Ve(N:Nat)(V:asn aso)(p:bp)(hD:jj p.aU)(q:aE×asn aH×Bool):∀(l:asn aZ)(k:Nat),HF N q V p l k=some (ye q.1 (gM (w6 (V++p.bO) p.bA p.aU) l))
 |[],_=>rfl
 |x::l,k=>by
  rw[HF,td,Ou,SB N p _ hD,arx,arx,tH,Qq,arx,gM,Ve N V p hD q l];unfold ye w6 oB;rw[show(x.bH.length==(fS p.bA p.aU x.bS).2.1.length)=((fS p.bA p.aU x.bS).2.1.length==x.bH.length)from Bool.eq_iff_iff.2 (by rw[beq_iff_eq,beq_iff_eq];exact eq_comm)];cases bL x.bS==[]with
  |true=>cases zu (V++p.bO) x.aM<;>rfl
  |false=>
   cases (fS p.bA p.aU x.bS).2.2 with
   |false=>rfl
   |true=>
    cases (fS p.bA p.aU x.bS).1.aO !=3 with
    |true=>rfl
    |false=>
     cases (fS p.bA p.aU x.bS).2.1.length==x.bH.length with
     |false=>rfl
     |true=>
      simp only[cond_true,cond_false,Bool.not_true];cases e:gM (λl=>bif zu (V++p.bO) l then 0 else 9) x.bH !=0 with
      |true=>simp only[cond_true];first|rw[e];rfl|simp [e]
      |false=>rfl
theorem Zd(N:Nat)(V:asn aso)(p:bp)(hD:jj p.aU)(e:an):Mg N p V e=some (ye (fS p.bA p.aU e.aC).1 (wY (V++p.bO) p.bA p.aU e)):=by
 unfold Mg wY;rw[SB N p _ hD,arx,tH,Ve N V p hD];rw[show((fS p.bA p.aU e.aC).2.1.length==e.xIdx.length)=(e.xIdx.length==(fS p.bA p.aU e.aC).2.1.length)from Bool.eq_iff_iff.2 (by rw[beq_iff_eq,beq_iff_eq];exact eq_comm)];cases (fS p.bA p.aU e.aC).2.2<;>cases e.xIdx.length==(fS p.bA p.aU e.aC).2.1.length<;>rfl
set_option maxRecDepth 100000
theorem rP(n:Int):(Int64.ofInt n).toInt=IntKind.i64.wrap n:=by
 have h:=fM n;unfold aw aW aI at h;injection h with h;injection h with h;injection h with _ h;exact h.symm
theorem EX(a b:Int64):(a+b).toInt=IntKind.i64.wrap (a.toInt+b.toInt):=by
 have h:=mY a b;unfold aw aW aI at h;injection h with h;injection h with h;injection h with _ h;exact h.symm
theorem KY(a b:Int64):(a*b).toInt=IntKind.i64.wrap (a.toInt*b.toInt):=by
 have h:=eY a b;unfold aw aW aI at h;injection h with h;injection h with h;injection h with _ h;exact h.symm
theorem I7(a b:Int64):(a-b).toInt=IntKind.i64.wrap (a.toInt-b.toInt):=by
 have h:=jX a b;unfold aw aW aI at h;injection h with h;injection h with h;injection h with _ h;exact h.symm
theorem kg(a:Int64): -9223372036854775808<=a.toInt/\a.toInt<=9223372036854775807:=ur.1 (aps a)
theorem AS{a b:Int64}(h:a.toInt=b.toInt):a=b:=Int64.toInt_inj.1 h
theorem Ni(a b:Int64):Int64.ofInt (a.toInt+b.toInt)=a+b:=AS (by rw[rP,EX])
theorem MI(a b:Int64):Int64.ofInt (a.toInt*b.toInt)=a*b:=AS (by rw[rP,KY])
theorem PT(x:Int)(h:0<=x/\x<18446744073709551616):IntKind.u64.wrap ((BitVec.ofInt IntKind.u64.bits x&&&BitVec.ofInt IntKind.u64.bits 4294967295).toNat:Int)=x%4294967296:=by
 obtain⟨n,rfl⟩:=Int.eq_ofNat_of_zero_le h.1;have e:(BitVec.ofInt IntKind.u64.bits (n:Int)&&&BitVec.ofInt IntKind.u64.bits 4294967295).toNat=n%4294967296:=by
  show(BitVec.ofInt 64 (n:Int)&&&BitVec.ofInt 64 4294967295).toNat=_;rw[BitVec.toNat_and];have h1:(BitVec.ofInt 64 (n:Int)).toNat=n:=by
   rw[BitVec.toNat_ofInt];omega
  have h2:(BitVec.ofInt 64 (4294967295:Int)).toNat=2^32-1:=by decide
  rw[h1,h2,Nat.and_two_pow_sub_one_eq_mod]
 rw[e,IntKind.wrap_u64];omega
theorem aiA(x:Int):x.fdiv (2^min (32:Int).toNat IntKind.u64.bits)=x / 4294967296:=by
 show x.fdiv 4294967296=_;rw[Int.fdiv_eq_ediv_of_nonneg _ (by omega)]
theorem aif(a b:Int)(ha:0<=a/\a<18446744073709551616)(hb:0<=b/\b<18446744073709551616):
 let ah:=a / 4294967296
 let al:=a%4294967296
 let bh:=b / 4294967296
 let bl:=b%4294967296
 let W:=IntKind.u64.wrap
 let low:=W (al*bl)
 let yc:=W (W (ah*bl)+low / 4294967296)
 let Kr:=W (W (al*bh)+yc%4294967296)
 W (W (W (ah*bh)+yc / 4294967296)+Kr / 4294967296)=a*b / 18446744073709551616:=by
 intro ah al bh bl W low yc Kr;have h1:0<=ah/\ah<=4294967295:=by omega
 have h2:0<=al/\al<=4294967295:=by omega
 have h3:0<=bh/\bh<=4294967295:=by omega
 have h4:0<=bl/\bl<=4294967295:=by omega
 have pb:∀{x y:Int},(0<=x/\x<=4294967295)->(0<=y/\y<=4294967295)->0<=x*y/\x*y<=18446744065119617025:=λhx hy=>
  ⟨Int.mul_nonneg hx.1 hy.1,Int.le_trans (Int.mul_le_mul hx.2 hy.2 hy.1 (by omega)) (by decide)⟩
 have p1:=pb h1 h3;have p2:=pb h1 h4;have p3:=pb h2 h3;have p4:=pb h2 h4;have e:a*b=18446744073709551616*(ah*bh)+4294967296*(ah*bl)+4294967296*(al*bh)+al*bl:=by
  have ea:a=4294967296*ah+al:=by omega
  have eb:b=4294967296*bh+bl:=by omega
  have:∀x y z w:Int,(4294967296*x+y)*(4294967296*z+w)=18446744073709551616*(x*z)+4294967296*(x*w)+4294967296*(y*z)+y*w:=λx y z w=>by
   rw[Int.add_mul,Int.mul_add,Int.mul_add];rw[show 4294967296*x*(4294967296*z)=18446744073709551616*(x*z)from by
     rw[Int.mul_assoc,Int.mul_left_comm x,<-Int.mul_assoc];rfl]
   rw[Int.mul_assoc 4294967296 x w,Int.mul_left_comm y];omega
  rw[<-this,<-ea,<-eb]
 generalize hP:ah*bh=P at*;generalize hQ:ah*bl=Q at*;generalize hR:al*bh=R at*;generalize hT:al*bl=T at*;have w1:low=T:=by show IntKind.u64.wrap _=_;rw[IntKind.wrap_u64];omega
 have w2:yc=Q+T / 4294967296:=by show IntKind.u64.wrap (IntKind.u64.wrap _+low / _)=_;rw[IntKind.wrap_u64,IntKind.wrap_u64,w1];omega
 have w3:Kr=R+yc%4294967296:=by show IntKind.u64.wrap (IntKind.u64.wrap _+yc%_)=_;rw[IntKind.wrap_u64,IntKind.wrap_u64];omega
 show IntKind.u64.wrap (IntKind.u64.wrap (IntKind.u64.wrap P+yc / 4294967296)+Kr / 4294967296)=_;rw[IntKind.wrap_u64,IntKind.wrap_u64,IntKind.wrap_u64,e,w3,w2];omega
theorem aiR(n:Int):0<=IntKind.u64.wrap n/\IntKind.u64.wrap n<18446744073709551616:=by rw[IntKind.wrap_u64];omega
theorem afw(N:Nat)(a b:Int)(ha:0<=a/\a<18446744073709551616)(hb:0<=b/\b<18446744073709551616):K7 N a b=some (a*b / 18446744073709551616,a*b%18446744073709551616):=by
 unfold K7;simp only[PT _ ha,PT _ hb,PT _ (aiR _),aiA];rw[aif a b ha hb,IntKind.wrap_u64 (a*b)]
theorem Zl(N:Nat)(a:Int64):DV N a=some (a.toInt.natAbs:Int):=by
 unfold DV;have:=kg a;rw[IntKind.wrap_u64,IntKind.wrap_u64];by_cases h:a.toInt<0
 ·rw[asf h,cond_true];congr 1;omega
 ·rw[asg h,cond_false];congr 1;omega
theorem af3(a b:Int):(a.natAbs:Int)*b.natAbs=if(decide (a<0)==decide (b<0))=true then a*b else-(a*b):=by
 by_cases h1:a<0<;>by_cases h2:b<0
 ·rw[show(a.natAbs:Int)= -a by omega,show(b.natAbs:Int)= -b by omega,Int.neg_mul_neg];simp [h1,h2]
 ·rw[show(a.natAbs:Int)= -a by omega,show(b.natAbs:Int)=b by omega,Int.neg_mul];simp [h1,h2]
 ·rw[show(a.natAbs:Int)=a by omega,show(b.natAbs:Int)= -b by omega,Int.mul_neg];simp [h1,h2]
 ·rw[show(a.natAbs:Int)=a by omega,show(b.natAbs:Int)=b by omega];simp [h1,h2]
def qU(a b:Int64):Int64×Bool:=bif ep (a.toInt*b.toInt)then(a*b,true)else(0,false)
theorem U1(N:Nat)(a b:Int64):Hc N a b=some (qU a b):=by
 unfold Hc qU;have ha:=kg a;have hb:=kg b;rw[Zl,Zl,arx,arx,afw N _ _ (by omega) (by omega),arx];dsimp only;have h0:0<=(a.toInt.natAbs:Int)*b.toInt.natAbs:=Int.mul_nonneg (by omega) (by omega);have hu:(a.toInt.natAbs:Int)*b.toInt.natAbs<=85070591730234615865843651857942052864:=
  Int.le_trans (Int.mul_le_mul (show(a.toInt.natAbs:Int)<=9223372036854775808 by omega) (show(b.toInt.natAbs:Int)<=9223372036854775808 by omega) (by omega) (by omega)) (by decide)
 have hm:=af3 a.toInt b.toInt;have hw:=MI a b;generalize a*b=c at*;generalize (a.toInt.natAbs:Int)*b.toInt.natAbs=q at*;generalize a.toInt*b.toInt=z at*;have key:(bif (q / 18446744073709551616 !=0)then some true else(bif (decide (q%18446744073709551616>9223372036854775808))then some true else(bif (q%18446744073709551616==9223372036854775808)then some (!(!((decide (a.toInt<0))==(decide (b.toInt<0)))))else some false)))=some (!ep z):=by
  have:ep z=(q / 18446744073709551616==0&&(decide (q%18446744073709551616<=9223372036854775808)&&(!(q%18446744073709551616==9223372036854775808)|| !(decide (a.toInt<0)==decide (b.toInt<0))))):=by
   rw[Bool.eq_iff_iff,ur];cases hs:decide (a.toInt<0)==decide (b.toInt<0)with
   |true=>
    rw[hs,if_pos rfl]at hm;simp only[arA,Bool.or_eq_true,Bool.not_eq_true',beq_iff_eq,decide_eq_true_iff,beq_eq_false_iff_ne,Bool.not_true,Bool.false_eq_true,or_false];omega
   |false=>
    rw[hs,if_neg (by decide)]at hm;simp only[arA,Bool.or_eq_true,Bool.not_eq_true',beq_iff_eq,decide_eq_true_iff,beq_eq_false_iff_ne,Bool.not_false,or_true,and_true];omega
  rw[this,show(q / 18446744073709551616 !=0)= !(q / 18446744073709551616==0)from rfl,ED];cases q / 18446744073709551616==0<;>cases decide (q%18446744073709551616<=9223372036854775808)<;>cases q%18446744073709551616==9223372036854775808<;>cases decide (a.toInt<0)==decide (b.toInt<0)<;>rfl
 rw[key,arx];cases hf:ep z with
 |false=>rfl
 |true=>
  rw[ur]at hf;simp only[Bool.not_true,cond_false,cond_true];cases hs:decide (a.toInt<0)==decide (b.toInt<0)with
  |true=>
   rw[hs,if_pos rfl]at hm;rw[cond_true,<-hw,show q%18446744073709551616=z by omega]
  |false=>
   rw[hs,if_neg (by decide)]at hm;rw[cond_false,<-hw]
   congr 2
   refine AS ?_;rw[rP,rP,IntKind.wrap_i64,IntKind.wrap_i64,IntKind.wrap_u64];omega
theorem api{a b:Int}(hb:b≠0):(a*b).tdiv b=a:=Int.mul_tdiv_cancel _ hb
theorem akN{a b c:Int}(ha: -9223372036854775808<=a/\a<=9223372036854775807)(hb: -9223372036854775808<=b/\b<=9223372036854775807)(hc:c=IntKind.i64.wrap (a*b))(pc:b≠0)(h:c.tdiv b=a):c=a*b:=by
 have h1:=Int.tmod_add_mul_tdiv c b;rw[h]at h1;have h2:(c.tmod b).natAbs<b.natAbs:=by
  rw[Int.natAbs_tmod];exact Nat.mod_lt _ (by omega)
 rw[IntKind.wrap_i64]at hc;rw[Int.mul_comm b a]at h1;generalize a*b=z at*;omega
theorem adg(N:Nat)(a b:Int64):Dh N a b=some (qU a b):=by
 unfold Dh qU;have ha:=kg a;have hb:=kg b;rw[show(bif a.toInt==0 then some true else some (b.toInt==0))=some (a.toInt==0||b.toInt==0) by cases a.toInt==0<;>rfl,arx];by_cases h0:a.toInt=0\/b.toInt=0
 ·have:(a.toInt==0||b.toInt==0)=true:=by rw[Bool.or_eq_true,beq_iff_eq,beq_iff_eq];exact h0
  have hz:a.toInt*b.toInt=0:=Int.mul_eq_zero.2 h0;rw[this,hz,<-MI a b,hz];rfl
 ·have h1:a.toInt≠0:=λh=>h0 (.inl h);have h2:b.toInt≠0:=λh=>h0 (.inr h);have:(a.toInt==0||b.toInt==0)=false:=by rw[asm,beq_eq_false_iff_ne,beq_eq_false_iff_ne];exact⟨h1,h2⟩
  have kp:(b.toInt !=0)=true:=bne_iff_ne.2 h2;rw[this,kp];simp only[cond_false,cond_true];have key:ep (a.toInt*b.toInt)= !((a.toInt== -1&&b.toInt== -9223372036854775808)||((b.toInt== -1&&a.toInt== -9223372036854775808)||(Int64.ofInt ((a*b).toInt.tdiv b.toInt)).toInt !=a.toInt)):=by
   rw[Bool.eq_iff_iff,ur,Bool.not_eq_true',asm,asm,Bool.and_eq_false_iff,Bool.and_eq_false_iff,bne_eq_false_iff_eq,beq_eq_false_iff_ne,beq_eq_false_iff_ne,beq_eq_false_iff_ne,beq_eq_false_iff_ne,rP];constructor
   ·intro hf;have hc:(a*b).toInt=a.toInt*b.toInt:=by rw[KY,IntKind.wrap_i64];omega
    refine⟨?_,?_,?_⟩
    ·by_cases h3:a.toInt= -1
     ·right;intro h4;rw[h3,h4]at hf;exact absurd hf.2 (by decide)
     ·exact .inl h3
    ·by_cases h3:b.toInt= -1
     ·right;intro h4;rw[h3,h4]at hf;exact absurd hf.2 (by decide)
     ·exact .inl h3
    ·rw[hc,api h2,IntKind.wrap_i64];omega
   ·rintro⟨h3,h4,h5⟩;have hq:(a*b).toInt.tdiv b.toInt=a.toInt:=by
     have hc:=kg (a*b);have hd:((a*b).toInt.tdiv b.toInt).natAbs<=(a*b).toInt.natAbs:=by
      rw[Int.natAbs_tdiv];exact Nat.div_le_self _ _
     rw[IntKind.wrap_i64]at h5;by_cases h6:(a*b).toInt.tdiv b.toInt=9223372036854775808
     ·exfalso;rw[h6]at h5 hd;have su:(a*b).toInt= -9223372036854775808:=by omega
      have hbm:b.toInt= -1:=by
       rw[su]at h6;have h7:=Int.tmod_add_mul_tdiv (-9223372036854775808) b.toInt;rw[h6]at h7;have h8:((-9223372036854775808:Int).tmod b.toInt).natAbs<b.toInt.natAbs:=by
         rw[Int.natAbs_tmod];exact Nat.mod_lt _ (by omega)
       omega
      omega
     ·omega
    have:=akN ha hb (KY a b) h2 hq;have hc:=kg (a*b);omega
  rw[key];cases a.toInt== -1<;>cases b.toInt== -9223372036854775808<;>cases b.toInt== -1<;>cases a.toInt== -9223372036854775808<;>cases (Int64.ofInt ((a*b).toInt.tdiv b.toInt)).toInt !=a.toInt<;>rfl
def NC(a b:Int64):Int64×Bool:=bif ep (a.toInt+b.toInt)then(a+b,true)else(0,false)
theorem aaA(N:Nat)(a b:Int64):EZ N a b=some (a+b,ep (a.toInt+b.toInt)):=by
 unfold EZ;have ha:=kg a;have hb:=kg b
 congr 2
 rw[EX,IntKind.wrap_i64,Bool.eq_iff_iff,ur,beq_iff_eq,decide_eq_decide];omega
theorem VI(N:Nat)(a b:Int64):GY N a b=some (NC a b):=by
 unfold GY NC;have ha:=kg a;have hb:=kg b;have e1:((9223372036854775807:Int64)-b).toInt=IntKind.i64.wrap (9223372036854775807-b.toInt):=I7 _ _;have e2:((-9223372036854775808:Int64)-b).toInt=IntKind.i64.wrap (-9223372036854775808-b.toInt):=I7 _ _;rw[e1,e2,IntKind.wrap_i64,IntKind.wrap_i64];have key:(bif (decide (b.toInt>0))then(bif (decide (a.toInt>(9223372036854775807-b.toInt+9223372036854775808)%18446744073709551616-9223372036854775808))then some true else(bif (decide (b.toInt<0))then some (decide (a.toInt<(-9223372036854775808-b.toInt+9223372036854775808)%18446744073709551616-9223372036854775808))else some false))else(bif (decide (b.toInt<0))then some (decide (a.toInt<(-9223372036854775808-b.toInt+9223372036854775808)%18446744073709551616-9223372036854775808))else some false))=some (!ep (a.toInt+b.toInt)):=by
  have hf:ep (a.toInt+b.toInt)=(decide (-9223372036854775808<=a.toInt+b.toInt)&&decide (a.toInt+b.toInt<=9223372036854775807)):=rfl;rw[hf];by_cases h1:b.toInt>0
  ·rw[asf h1,cond_true,show decide (b.toInt<0)=false from asg (by omega),cond_false,show decide (-9223372036854775808<=a.toInt+b.toInt)=true from asf (by omega),Bool.true_and];by_cases h2:a.toInt+b.toInt<=9223372036854775807
   ·rw[asf h2,asg (by omega)];rfl
   ·rw[asg h2,asf (by omega)];rfl
  ·rw[asg h1,cond_false,show decide (a.toInt+b.toInt<=9223372036854775807)=true from asf (by omega),Bool.and_true];by_cases h3:b.toInt<0
   ·rw[asf h3,cond_true];by_cases h2: -9223372036854775808<=a.toInt+b.toInt
    ·rw[asf h2,asg (by omega)];rfl
    ·rw[asg h2,asf (by omega)];rfl
   ·rw[asg h3,cond_false,asf (by omega)];rfl
 rw[key,arx];cases ep (a.toInt+b.toInt)<;>rfl
def N4(b:Int64)(m:bB):bB:=⟨m.aC,m.dE*b⟩
def qA(b:Int64)(m:bB):Bool:=ep (m.dE.toInt*b.toInt)
theorem SK(a:aH)(b:Int64):kJ a b=bif eH a then bif b.toInt==0 then .ok dq else bif ep (a.xK.toInt*b.toInt)&&a.xL.all (qA b)then .ok ⟨a.xK*b,a.xL.map (N4 b)⟩else .error .range else .error .arg:=by
 unfold kJ;have:(a.xL.map λm=>(⟨m.aC,Int64.ofInt (m.dE.toInt*b.toInt)⟩:bB))=a.xL.map (N4 b):=ar3 λm _=>by rw[MI];rfl
 rw[this,MI];show(if eH a=true then _ else _)=_;cases eH a with
 |false=>rfl
 |true=>
  by_cases h:b.toInt=0
  ·rw[if_pos rfl,if_pos h,h];rfl
  ·rw[if_pos rfl,if_neg h,beq_eq_false_iff_ne.2 h];show(if(ep (a.xK.toInt*b.toInt)&&a.xL.all (qA b))=true then _ else _)=_;cases ep (a.xK.toInt*b.toInt)&&a.xL.all (qA b)<;>rfl
theorem adO(N:Nat)(q:Int64×Bool)(b:Int64):∀(l:asn bB)(k:Nat)(f:Bool)(acc:asn bB),acc.length+l.length<=1000000000->
 D5 N q b l k f acc=some (bif f&&l.all (qA b)then((⟨q.1,acc++l.map (N4 b)⟩:aH),0)else(dq,3))
 |[],_,f,acc,_=>by rw[D5,List.map_nil,arT];cases f<;>rfl
 |m::l,k,f,acc,h=>by
  simp only[arB]at h;rw[D5,U1,arx,fI (by omega),show(bif f then some (qU m.dE b).2 else some false)=some (f&&(qU m.dE b).2) by cases f<;>rfl,arx];simp only[cond_true];rw[adO N q b l (k+1) _ _ (by simp only[arz,arB,arK];omega),asi,arX];unfold qU;rw[show qA b m=ep (m.dE.toInt*b.toInt)from rfl];cases ep (m.dE.toInt*b.toInt)with
  |true=>rw[cond_true,arP];cases f<;>rfl
  |false=>cases f<;>rfl
theorem Tb(N:Nat)(hN:16<N)(a:aH)(b:Int64)(h:iU 1000000000 a):uW N a b=some (sY dq (kJ a b)):=by
 unfold uW;rw[CI N hN a h.ok,arx,U1,arx,adO N _ _ _ _ _ _ (by simp only[arK];exact(arS _).symm▸h),SK];unfold qU;cases eH a with
 |false=>rfl
 |true=>
  cases b.toInt==0 with
  |true=>rfl
  |false=>cases ep (a.xK.toInt*b.toInt)<;>cases a.xL.all (qA b)<;>rfl
theorem QW(N:Nat)(hN:16<N)(a:aH)(h:iC a):Cn N a=some (bif eH a then 0 else 1):=by
 unfold Cn;rw[Hr N hN a h,arx];cases eH a<;>rfl
theorem UJ(N:Nat)(q:Int64×Bool)(b:Int64):∀(l:asn bB)(k:Nat)(acc:asn bB),acc.length+l.length<=1000000000->
 Gb N q b l k acc=some (bif l.all (qA b)then((⟨q.1,acc++l.map (N4 b)⟩:aH),0)else(dq,3))
 |[],_,acc,_=>by rw[Gb,List.map_nil,arT];rfl
 |m::l,k,acc,h=>by
  simp only[arB]at h;rw[Gb,adg,arx,fI (by omega),cond_true];dsimp only;rw[UJ N q b l (k+1) _ (by simp only[arz,arB,arK];omega),asi,arX];unfold qU;rw[show qA b m=ep (m.dE.toInt*b.toInt)from rfl];cases ep (m.dE.toInt*b.toInt)with
  |true=>rw[cond_true,arP];rfl
  |false=>rfl
theorem PK(N:Nat)(hN:16<N)(a:aH)(b:Int64)(h:iU 1000000000 a):ue N a b=some (sY dq (kJ a b)):=by
 unfold ue;rw[QW N hN a h.ok,arx,adg,arx,UJ N _ _ _ _ _ (by simp only[arK];exact(arS _).symm▸h),SK];unfold qU;cases eH a with
 |false=>rfl
 |true=>
  cases b.toInt==0 with
  |true=>rfl
  |false=>cases ep (a.xK.toInt*b.toInt)<;>cases a.xL.all (qA b)<;>rfl
def lz(t:aso×Int×Int):Bool:=ep (t.2.1+t.2.2)
def ko(t:aso×Int×Int):asp bB:=if t.2.1+t.2.2=0 then none else some ⟨t.1,Int64.ofInt (t.2.1+t.2.2)⟩
theorem Zx(k:Int)(l:asn (aso×Int×Int)):IZ k l=bif ep k&&l.all lz then .ok ⟨Int64.ofInt k,l.filterMap ko⟩else .error .range:=by
 unfold IZ;show(if(ep k&&l.all lz)=true then(Except.ok ⟨Int64.ofInt k,l.filterMap ko⟩:X aH)else _)=_;cases ep k&&l.all lz<;>rfl
def O5(acc:asn bB):asp bB->asn bB
 |none=>acc
 |some m=>acc++[m]
theorem Hh(N:Nat)(s:aso)(x y:Int64)(f:Bool)(K:Int64)(acc:asn bB)(h:acc.length<1000000000):
 ∃L,BH N s x y f K acc=some (f&&ep (x.toInt+y.toInt),L)/\L.length<=acc.length+1/\(ep (x.toInt+y.toInt)=true->L=O5 acc (ko (s,x.toInt,y.toInt))):=by
 unfold BH;rw[aaA,arx,fI (by omega),show(bif f then some (x+y,ep (x.toInt+y.toInt)).2 else some false)=some (f&&ep (x.toInt+y.toInt)) by cases f<;>rfl,arx];dsimp only;have e (hf:ep (x.toInt+y.toInt)=true):(x+y).toInt=x.toInt+y.toInt:=by
  rw[ur]at hf;rw[EX,IntKind.wrap_i64];omega
 cases hz:(x+y).toInt !=0 with
 |true=>
  refine⟨_,rfl,by simp,λhf=> ?_⟩;unfold ko;rw[if_neg (by show ¬x.toInt+y.toInt=0;rw[<-e hf];exact bne_iff_ne.1 hz)];show acc++[(⟨s,x+y⟩:bB)]=acc++[⟨s,Int64.ofInt (x.toInt+y.toInt)⟩];rw[Ni]
 |false=>
  refine⟨_,rfl,Nat.le_succ _,λhf=> ?_⟩;unfold ko;rw[if_pos (by show x.toInt+y.toInt=0;rw[<-e hf];exact lN hz)];rfl
theorem aoc(acc:asn bB)(t:aso×Int×Int)(l:asn (aso×Int×Int)):O5 acc (ko t)++l.filterMap ko=acc++(t::l).filterMap ko:=by
 rw[List.filterMap_cons];cases ko t with
 |none=>rfl
 |some m=>show acc++[m]++_=_;rw[arP];rfl
theorem Dg{N:Nat}{K:Int64}{n:Nat}{l r:asn bB}{f f':Bool}{acc L:asn bB}{t:aso×Int×Int}{T:asn (aso×Int×Int)}
 (ih:∀f acc,acc.length+l.length+r.length<=1000000000->∃L,nt N K n l r f acc=some (f&&T.all lz,L)/\(T.all lz=true->L=acc++T.filterMap ko))
 (hf:f'=(f&&lz t)) (hL:L.length+l.length+r.length<=1000000000) (h:lz t=true->L=O5 acc (ko t)):
 ∃L',nt N K n l r f' L=some (f&&(t::T).all lz,L')/\((t::T).all lz=true->L'=acc++(t::T).filterMap ko):=by
 obtain⟨L',h1,h2⟩:=ih f' L hL;refine⟨L',?_,λh3=> ?_⟩
 ·rw[h1,hf,asi,Bool.and_assoc]
 ·rw[asi,arA]at h3;rw[h2 h3.2,h h3.1,aoc]
theorem BQ(N:Nat)(K:Int64):∀(n:Nat)(a b:asn bB)(f:Bool)(acc:asn bB),a.length+b.length<n->acc.length+a.length+b.length<=1000000000->
 ∃L,nt N K n a b f acc=some (f&&(eK a b).all lz,L)/\((eK a b).all lz=true->L=acc++(eK a b).filterMap ko)
 |0,a,b,f,acc,h,_=>absurd h (ar0 _)
 |n+1,[],[],f,acc,_,_=>by
  rw[nt,eK];exact⟨acc,by rw[List.all_nil,Bool.and_true];rfl,λ_=>by rw[List.filterMap_nil,arT]⟩
 |n+1,x::l,[],f,acc,h,hb=>by
  simp only[arB,arK]at h hb;rw[nt,eK];obtain⟨L,e1,e2,e3⟩:=Hh N x.aC x.dE 0 f K acc (by omega);rw[show decide (((x::l).length:Int)>0)=true from asf (by simp only[arB];omega),show((([]:asn bB).length:Int)==0)=true from rfl];simp only[cond_true,arx,List.getElem?_cons_zero,e1,show decide (1<=(x::l).length)=true from asf (by simp only[arB];omega),List.drop_one,List.tail_cons];exact Dg (λf acc hb=>BQ N K n l [] f acc (by simp only[arK];omega) hb) rfl (by simp only[arK];omega) e3
 |n+1,[],y::r,f,acc,h,hb=>by
  simp only[arB,arK]at h hb;rw[nt,eK];obtain⟨L,e1,e2,e3⟩:=Hh N y.aC 0 y.dE f K acc (by omega);rw[show decide (((y::r).length:Int)>0)=true from asf (by simp only[arB];omega),show(((y::r).length:Int)==0)=false from beq_eq_false_iff_ne.2 (by simp only[arB];omega),show decide ((([]:asn bB).length:Int)>0)=false from rfl,show((([]:asn bB).length:Int)==0)=true from rfl];simp only[cond_true,cond_false,arx,List.getElem?_cons_zero,e1,show decide (1<=(y::r).length)=true from asf (by simp only[arB];omega),List.drop_one,List.tail_cons];exact Dg (λf acc hb=>BQ N K n [] r f acc (by simp only[arK];omega) hb) rfl (by simp only[arK];omega) e3
 |n+1,x::l,y::r,f,acc,h,hb=>by
  simp only[arB]at h hb;rw[nt,eK];have p1:∀(z:bB)(l:asn bB),decide (((z::l).length:Int)>0)=true:=λz l=>asf (by simp only[arB];omega);have p2:∀(z:bB)(l:asn bB),(((z::l).length:Int)==0)=false:=λz l=>beq_eq_false_iff_ne.2 (by simp only[arB];omega);have p3:∀(z:bB)(l:asn bB),decide (1<=(z::l).length)=true:=λz l=>asf (by simp only[arB];omega);simp only[p1,p2,cond_true,cond_false,arx,List.getElem?_cons_zero,show Op.bytesLess (bL x.aC) (bL y.aC)=lt x.aC y.aC from rfl,show Op.bytesLess (bL y.aC) (bL x.aC)=lt y.aC x.aC from rfl];cases hxy:lt x.aC y.aC with
  |true=>
   obtain⟨L,e1,e2,e3⟩:=Hh N x.aC x.dE 0 f K acc (by omega);simp only[cond_true,e1,arx,p3,List.drop_one,List.tail_cons,if_true];exact Dg (λf acc hb=>BQ N K n l (y::r) f acc (by simp only[arB];omega) hb) rfl (by simp only[arB];omega) e3
  |false=>
   simp only[cond_false,Bool.false_eq_true,if_false];cases hyx:lt y.aC x.aC with
   |true=>
    obtain⟨L,e1,e2,e3⟩:=Hh N y.aC 0 y.dE f K acc (by omega);simp only[cond_true,e1,arx,p3,List.drop_one,List.tail_cons,if_true];exact Dg (λf acc hb=>BQ N K n (x::l) r f acc (by simp only[arB];omega) hb) rfl (by simp only[arB];omega) e3
   |false=>
    obtain⟨L,e1,e2,e3⟩:=Hh N x.aC x.dE y.dE f K acc (by omega);simp only[cond_true,cond_false,e1,arx,p3,List.drop_one,List.tail_cons,Bool.false_eq_true,if_false];exact Dg (λf acc hb=>BQ N K n l r f acc (by omega) hb) rfl (by omega) e3
theorem We(a b:aH):lM a b=bif eH a&&eH b then bif ep (a.xK.toInt+b.xK.toInt)&&(eK a.xL b.xL).all lz then .ok ⟨a.xK+b.xK,(eK a.xL b.xL).filterMap ko⟩else .error .range else .error .arg:=by
 unfold lM;rw[Zx,Ni];cases eH a&&eH b<;>rfl
theorem abw(N:Nat)(hN:16<N)(a b:aH)(hl:a.xL.length+b.xL.length<=1000000000)(hf:a.xL.length+b.xL.length<N):yn N a b=some (sY dq (lM a b)):=by
 unfold yn J6;have ha:iC a:=arQ (arQ (asd _ _) hl) (by decide);have hb:iC b:=arQ (arQ (Nat.le_add_left _ _) hl) (by decide);rw[CI N hN a ha,CI N hN b hb,arx,arx,aaA,arx,We];dsimp only;obtain⟨L,e1,e2⟩:=BQ N (a.xK+b.xK) N a.xL b.xL (ep (a.xK.toInt+b.xK.toInt)) [] hf (by simp only[arK];omega);rw[e1,arx];cases eH a with
 |false=>rfl
 |true=>
  cases eH b with
  |false=>rfl
  |true=>
   cases h1:ep (a.xK.toInt+b.xK.toInt)with
   |false=>rfl
   |true=>
    cases h2:(eK a.xL b.xL).all lz with
    |false=>rfl
    |true=>rw[e2 h2];rfl
theorem adY(N:Nat)(l:asn aso)(s:aso)(hl:l.length<1000000000):∀(n i:Nat),i<=l.length->l.length-i<n->yk N l l.length s n (i:Int)=some ((l.drop i).any λw=>bL w==bL s)
 |0,i,_,h=>absurd h (ar0 _)
 |n+1,i,hi,h=>by
  rw[yk,show Nat.beq l.length l.length=true from Nat.beq_refl _,cond_true];by_cases hk:i<l.length
  ·rw[show decide ((i:Int)<(l.length:Int))=true from asf (by omega),show decide ((0:Int)<=(i:Int))=true from asf (by omega),cond_true,cond_true,arZ,arC hk,arx,List.drop_eq_getElem_cons hk,asj,uA (by omega)];dsimp only;rw[adY N l s hl n (i+1) (by omega) (by omega)];cases bL l[i]==bL s<;>rfl
  ·rw[show decide ((i:Int)<(l.length:Int))=false from asg (by omega),List.drop_eq_nil_of_le (by omega)];rfl
theorem JJ{α:Type}(p:asn α)(x:α)(q:asn α):(p++x::q)[p.length]?=some x:=by simp
theorem T2{α:Type}(p:asn α)(x y:α)(q:asn α):(p++x::q).set p.length y=p++y::q:=by simp
theorem ao7(x s:aso):(!((Op.bytesLess (bL x) (bL s))||(bL x==bL s)))=lt s x:=by
 show(!(lt x s||same x s))=lt s x;cases h1:lt x s with
 |true=>
  cases h2:lt s x with
  |false=>rfl
  |true=>have:=tV h1 h2;rw[wP]at this;cases this
 |false=>
  cases h2:lt s x with
  |false=>rw[D8 h1 h2,wV.2 rfl];rfl
  |true=>
   cases h3:same x s with
   |false=>rfl
   |true=>rw[wV.1 h3,wP]at h2;cases h2
theorem WS(N:Nat)(s:aso):∀(q post:asn aso)(n k:Nat),q.length<n->q.length+1+post.length=k+1->k<1000000000->
 vK N k n (q.length:Int) (q.reverse++s::post)=some (k+1,(kX q s).reverse++post)
 |[],post,n+1,k,_,hk,_=>by
  rw[vK,show decide ((([]:asn aso).length:Int)>0)=false from rfl];rfl
 |x::q,post,n+1,k,hn,hk,hb=>by
  simp only[arB]at hn hk;have hL:(((x::q).reverse++s::post).length)=k+1:=by simp only[arz,List.length_reverse,arB];omega
  have hw:aI (((x::q).length:Int)-1)=(q.length:Int):=by
   rw[arB,show(((q.length+1:Nat):Int)-1)=((q.length:Nat):Int) by omega];exact CU (by omega)
  have c1:decide (((x::q).length:Int)>0)=true:=asf (by simp only[arB];omega);have c2:decide ((0:Int)<=(q.length:Int))=true:=asf (by omega);have c3:decide ((q.length:Int)<((k+1):Int))=true:=asf (by omega);have c4:decide ((0:Int)<=((x::q).length:Int))=true:=asf (by simp only[arB];omega);have c5:decide (((x::q).length:Int)<((k+1):Int))=true:=asf (by simp only[arB];omega);have e1:(x::q).reverse++s::post=q.reverse++x::s::post:=by rw[List.reverse_cons,arP];rfl
  have g1:((x::q).reverse++s::post)[q.length]?=some x:=by rw[e1];have:=JJ q.reverse x (s::post);rw[List.length_reverse]at this;exact this
  have g2:((x::q).reverse++s::post)[(x::q).length]?=some s:=by have:=JJ (x::q).reverse s post;rw[List.length_reverse]at this;exact this
  have s1:((x::q).reverse++s::post).set (x::q).length x=q.reverse++x::x::post:=by
   have:=T2 (x::q).reverse s x post;rw[List.length_reverse]at this;rw[this,List.reverse_cons,arP];rfl
  have g3:(q.reverse++x::x::post)[q.length]?=some x:=by have:=JJ q.reverse x (x::post);rw[List.length_reverse]at this;exact this
  have s2:(q.reverse++x::x::post).set q.length s=q.reverse++s::x::post:=by have:=T2 q.reverse x s (x::post);rw[List.length_reverse]at this;exact this
  have hL2:(q.reverse++x::x::post).length=k+1:=by simp only[arz,List.length_reverse,arB];omega
  rw[vK,hw,c1,hL,show Nat.beq (k+1) (k+1)=true from Nat.beq_refl _,c2,c3,c4,c5];simp only[cond_true,arZ,g1,g2,arx];rw[ao7,kX];cases aS:lt s x with
  |false=>
   simp only[cond_false,Bool.false_eq_true,if_false];rw[e1,List.reverse_cons,List.reverse_cons,arP,arP];rfl
  |true=>
   simp only[cond_true,if_true,s1,hL2,g3,s2,arx,show Nat.beq (k+1) (k+1)=true from Nat.beq_refl _];rw[WS N s q (x::post) n k (by omega) (by simp only[arB];omega) hb,List.reverse_cons,arP];rfl
theorem are(N:Nat)(l:asn aso)(s:aso)(hl:l.length<1000000)(hN:1000000<N):DC N l.length s l=some ((kW l s).length,kW l s):=by
 unfold DC Ik kW;have h0:=adY N l s (by omega) N 0 (Nat.zero_le _) (by omega);rw[ar7]at h0;rw[show((0:Nat):Int)=0from rfl]at h0;rw[h0,arx];show _=some ((if l.any (λw=>bL w==bL s)=true then l else(kX l.reverse s).reverse).length,_);show _=some (_,(if l.any (λw=>bL w==bL s)=true then l else(kX l.reverse s).reverse));cases l.any λw=>bL w==bL s with
 |true=>rfl
 |false=>
  have hL:(l++[s]).length=l.length+1:=by simp
  rw[hL,show Nat.beq l.length l.length=true from Nat.beq_refl _,show Nat.beq (l.length+1) (l.length+1)=true from Nat.beq_refl _,fI (by omega)];simp only[cond_true,cond_false,Bool.false_eq_true,if_false];have:=WS N s l.reverse [] N l.length (by rw[List.length_reverse];omega) (by rw[List.length_reverse];rfl) (by omega);rw[List.length_reverse,List.reverse_reverse,arT]at this;rw[show aI ((l.length:Int)+1-1)=(l.length:Int) by rw[show((l.length:Int)+1-1)=((l.length:Nat):Int) by omega];exact CU (by omega)];rw[this];have hlen:(kX l.reverse s).reverse.length=l.length+1:=by
    have Ss:∀(q:asn aso),(kX q s).length=q.length+1:=by
     intro q
     induction q with
     |nil=>rfl
     |cons x q ih=>rw[kX];split<;>simp [ih]
    rw[List.length_reverse,Ss,List.length_reverse]
  rw[hlen]
theorem adt(l:asn aso)(s:aso):(kW l s).length<=l.length+1:=by
 have Ss:∀(q:asn aso),(kX q s).length=q.length+1:=by
  intro q
  induction q with
  |nil=>rfl
  |cons x q ih=>rw[kX];split<;>simp [ih]
 unfold kW;split
 ·omega
 ·rw[List.length_reverse,Ss,List.length_reverse];exact arJ _
theorem QL(N:Nat)(hN:1000000<N)(c:Nat->asn aso->asp (asn aso)):∀(l:asn bB)(k:Nat)(L:asn aso),L.length+l.length<1000000->
 ym N c l k L.length L=c ((l.map (·.aC)).foldl kW L).length ((l.map (·.aC)).foldl kW L)
 |[],_,_,_=>rfl
 |m::l,k,L,h=>by
  simp only[arB]at h;rw[ym,are N L m.aC (by omega) hN,arx];dsimp only;rw[QL N hN c l (k+1) (kW L m.aC) (by have:=adt L m.aC;omega)];rfl
theorem QT:∀(l L:asn aso),(l.foldl kW L).length<=L.length+l.length
 |[],_=>arJ _
 |s::l,L=>by
  rw[List.foldl_cons];have h1:=QT l (kW L s);have h2:=adt L s;simp only[arB];omega
theorem amz(N:Nat)(hN:1000000<N)(a b:aH)(h:a.xL.length+b.xL.length<900000):EM N [a,b]=some (vP [a,b]):=by
 unfold EM vP;have ha:=QL N hN (λcD gy=>rp N [b] 1 cD gy) a.xL 0 [] (by simp only[arK];omega);rw[rp];refine Eq.trans ha ?_;have hl:=QT (a.xL.map (·.aC)) [];simp only[arK,arD]at hl;rw[rp,QL N hN _ b.xL 0 _ (by omega)];rw[rp,show Nat.beq _ _=true from Nat.beq_refl _,cond_true];rw[List.flatMap_cons,List.flatMap_cons,List.flatMap_nil,arT,List.foldl_append]
theorem Rp(N:Nat)(s:aso):∀(l:asn bB)(k:Nat),∃c:Int64,IJ N s l k=some c/\c.toInt=jr l s
 |[],_=>⟨0,rfl,rfl⟩
 |m::l,k=>by
  obtain⟨c,h1,h2⟩:=Rp N s l (k+1);rw[IJ,h1,jr];show ∃c',(bif same m.aC s then _ else _)=_/\_;cases same m.aC s with
  |true=>exact⟨_,rfl,rfl⟩
  |false=>exact⟨c,rfl,h2⟩
theorem Oi(N:Nat)(q:Int64×Bool)(a b:aH):∀(l:asn aso)(k:Nat)(acc:asn bB),acc.length+l.length<=1000000000->
 Bb N q a b l k acc=some (bif (l.map λn=>(n,jr a.xL n,jr b.xL n)).all lz then((⟨q.1,acc++(l.map λn=>(n,jr a.xL n,jr b.xL n)).filterMap ko⟩:aH),0)else(dq,3))
 |[],_,acc,_=>by rw[Bb,List.map_nil,List.filterMap_nil,arT];rfl
 |s::l,k,acc,h=>by
  simp only[arB]at h;obtain⟨x,hx,ex⟩:=Rp N s a.xL 0;obtain⟨y,hy,ey⟩:=Rp N s b.xL 0;rw[Bb];unfold Ia;rw[hx,hy,arx,arx,VI,arx,fI (by omega),arX,asi,<-ex,<-ey];simp only[cond_true];rw[Oi N q a b l (k+1) acc (by omega),Oi N q a b l (k+1) _ (by simp only[arz,arB,arK];omega)];unfold NC;rw[show lz (s,x.toInt,y.toInt)=ep (x.toInt+y.toInt)from rfl];cases hf:ep (x.toInt+y.toInt)with
  |false=>rfl
  |true=>
   simp only[cond_true,Bool.true_and];have e:(x+y).toInt=x.toInt+y.toInt:=by
    rw[ur]at hf;rw[EX,IntKind.wrap_i64];omega
   rw[List.filterMap_cons];cases hz:(x+y).toInt !=0 with
   |true=>
    have hk:ko (s,x.toInt,y.toInt)=some ⟨s,x+y⟩:=by
     unfold ko;rw[if_neg (by show ¬x.toInt+y.toInt=0;rw[<-e];exact bne_iff_ne.1 hz),Ni]
    rw[hk,cond_true,arP];rfl
   |false=>
    have hk:ko (s,x.toInt,y.toInt)=none:=by
     unfold ko;rw[if_pos (by show x.toInt+y.toInt=0;rw[<-e];exact lN hz)]
    rw[hk];rfl
theorem abV(N:Nat)(hN:1000000<N)(a b:aH)(hl:a.xL.length+b.xL.length<900000):wq N a b=some (sY dq (lM a b)):=by
 unfold wq;have ha:iC a:=arQ (arQ (asd _ _) (Nat.le_of_lt hl)) (by decide);have hb:iC b:=arQ (arQ (Nat.le_add_left _ _) (Nat.le_of_lt hl)) (by decide);have hn:(vP [a,b]).length<=900000:=by
  unfold vP;have:=QT ([a,b].flatMap λx=>x.xL.map (·.aC)) [];simp only[List.flatMap_cons,List.flatMap_nil,arT,arz,arD,arK]at this ⊢;omega
 rw[QW N (by omega) a ha,QW N (by omega) b hb,arx,arx,VI,arx,amz N hN a b hl,arx,Oi N _ _ _ _ _ _ (by simp only[arK];omega),<-ap4];unfold O8 NC;rw[Zx,Ni];cases eH a with
 |false=>rfl
 |true=>
  cases eH b with
  |false=>rfl
  |true=>
   cases ep (a.xK.toInt+b.xK.toInt)with
   |false=>rfl
   |true=>cases ((vP [a,b]).map λn=>(n,jr a.xL n,jr b.xL n)).all lz<;>rfl
def sV(e:an):Prop:=∀x∈cW e,mr x=true/\nw x=true
theorem sV.arg{e x:an}(h:sV e)(hx:x∈e.ax):sV x:=λy hy=>h y (mA hx hy)
theorem sV.len{e:an}(h:sV e):(e.ax.length:Int)=kK e.ar:=by
 have:=(h e arE).1;unfold mr at this;rw[arA,beq_iff_eq]at this;exact this.1
theorem sV.op{e:an}(h:sV e):1<=e.ar/\e.ar<=18:=by
 have:=(h e arE).2;unfold nw at this;simp only[arA,decide_eq_true_eq]at this;exact⟨this.1,this.2.1⟩
theorem ab7:∀l:asn an,jY l=0->∀x∈l,lh x=0
 |[],_,x,hx=>by cases hx
 |y::l,h,x,hx=>by
  rw[jY]at h;cases e:lh y !=0 with
  |true=>rw[e,cond_true]at h;rw[h]at e;cases e
  |false=>
   rw[e,cond_false]at h;rcases ar2.1 hx with rfl|hx
   ·exact lN e
   ·exact ab7 l h x hx
theorem adp{e:an}(h:ig e=0):∀x∈cW e,lh x=0:=λx hx=>by
 unfold ig at h;cases h1:decide (40<iM 40 e)with
 |true=>rw[h1]at h;cases h
 |false=>
  cases h2:decide (2000<(cW e).length)with
  |true=>rw[h1,h2]at h;cases h
  |false=>rw[h1,h2]at h;exact ab7 (cW e) h x hx
theorem acY{x:an}(h:lh x=0):nw x=true/\qb x=true/\mr x=true/\lQ x=true/\sM x=true:=by
 unfold lh at h;cases p:nw x<;>cases q:qb x<;>cases r:mr x<;>cases s:lQ x<;>cases t:sM x<;>rw[p,q,r,s,t]at h<;>first|exact⟨rfl,rfl,rfl,rfl,rfl⟩|(exact absurd h (by decide))
theorem an0{e:an}(h:ig e=0):sV e:=λx hx=>⟨(acY (adp h x hx)).2.2.1,(acY (adp h x hx)).1⟩
section
variable {α:Type}
theorem amw{l:asn α}(h:(l.length:Int)=1):∃a,l=[a]:=by
 match l,h with
 |[a],_=>exact⟨a,rfl⟩
 |[],h=>simp at h
 |a::b::l,h=>simp at h;omega
theorem aol{l:asn α}(h:(l.length:Int)=2):∃a b,l=[a,b]:=by
 match l,h with
 |[a,b],_=>exact⟨a,b,rfl⟩
 |[],h=>simp at h
 |[a],h=>simp at h
 |a::b::c::l,h=>simp at h;omega
theorem ahW{l:asn α}(h:(l.length:Int)=3):∃a b c,l=[a,b,c]:=by
 match l,h with
 |[a,b,c],_=>exact⟨a,b,c,rfl⟩
 |[],h=>simp at h
 |[a],h=>simp at h
 |[a,b],h=>simp at h
 |a::b::c::d::l,h=>simp at h;omega
end
def yW(a b:asp (aE×Int)):Prop:=∃t t' x,a=some (t,x)/\b=some (t',x)/\(x=0->t=t')
theorem ZW{α:Type}(f:α->Int)(x:α):gM f [x]=f x:=by
 rw[gM,gM];cases e:f x !=0 with
 |true=>rfl
 |false=>exact(lN e).symm
theorem aqX{op:Int}(h1:1<=op)(h2:op<=18):(op=1\/op=2\/op=3\/op=8\/op=11\/op=12)\/(op=4\/op=5\/op=6\/op=7\/op=9\/op=10)\/(op=13\/op=14\/op=15)\/(op=16\/op=17\/op=18):=by omega
section
variable {N:Nat} {m:asn (aso×Int)} {vars:asn aso} {p p':bp}
theorem an5(hV:VN m (vars++p'.bO))(hP:p.bA=p'.bA)(yv:p.aU=p'.aU)(Bh:qd p.bA)(oF:jj p.aU)(e:an)(h1:1<=e.ar)(h2:e.ar<=18)(acc:asn aE)(hl:(acc.length:Int)=kK e.ar)
 (r1:an->bp->asn (aso×Int)->asp (aE×Int)) (r2:bp->asn aso->an->asp (aE×Int)) (k:Nat):
 yW (wU N e p m r1 [] k acc) (oM N e p' vars r2 [] k acc):=by
 rw[wU,oM];unfold KR Fg GP DT;rcases aqX h1 h2 with(h|h|h|h|h|h)|(h|h|h|h|h|h)|(h|h|h)|(h|h|h)
 ·rw[h];exact⟨_,_,_,rfl,rfl,λ_=>rfl⟩
 ·rw[h,Pe N hV,Qq,ZW];exact⟨_,_,_,rfl,rfl,λ_=>rfl⟩
 ·rw[h,an1 N hV p Bh oF,Zd N vars p' (yv▸oF),hP,yv];exact⟨_,_,_,rfl,rfl,λ_=>rfl⟩
 ·rw[h]at hl;obtain⟨a,rfl⟩:=amw hl;rw[h];exact⟨_,_,_,rfl,rfl,λ_=>rfl⟩
 ·rw[h]at hl;obtain⟨a,b,c,rfl⟩:=ahW hl;rw[h];show yW (Option.bind (bif _ then _ else _) _) (bif _ then _ else _);cases ((b.aO==c.aO)&&((b.bo==c.bo)&&((b.bE==c.bE)&&((b.bN==c.bN)&&((b.bM==c.bM)&&true)))))with
  |true=>exact⟨_,_,_,rfl,rfl,λ_=>rfl⟩
  |false=>exact⟨_,_,_,rfl,rfl,λh=>by cases h⟩
 ·rw[h];exact⟨_,_,_,rfl,rfl,λ_=>rfl⟩
 all_goals first
  |(rw[h];exact⟨_,_,_,rfl,rfl,λ_=>rfl⟩)
  |(rw[h]at hl
    obtain⟨a,b,rfl⟩:=aol hl;rw[h];show yW (Option.bind (bif _ then _ else _) _) (bif _ then _ else _);cases ((a.aO==b.aO)&&((a.bo==b.bo)&&((a.bE==b.bE)&&((a.bN==b.bN)&&((a.bM==b.bM)&&true)))))with
    |true=>exact⟨_,_,_,rfl,rfl,λ_=>rfl⟩
    |false=>exact⟨_,_,_,rfl,rfl,λh=>by cases h⟩)
theorem aap(e:an)(r1:an->bp->asn (aso×Int)->asp (aE×Int))(r2:bp->asn aso->an->asp (aE×Int)):
 ∀(l:asn an)(k:Nat)(acc:asn aE),acc.length+l.length<=1000000000->(∀x∈l,yW (r1 x p m) (r2 p' vars x))->
  (∀(rL:asn aE)(k':Nat),rL.length=acc.length+l.length->yW (wU N e p m r1 [] k' rL) (oM N e p' vars r2 [] k' rL))->
  yW (wU N e p m r1 l k acc) (oM N e p' vars r2 l k acc)
 |[],k,acc,_,_,he=>he acc k rfl
 |x::l,k,acc,hb,hx,he=>by
  rw[wU,oM];obtain⟨t,t',z,e1,e2,e3⟩:=hx x arE;rw[e1,e2,arx,arx];dsimp only;cases hz:z !=0 with
  |true=>exact⟨_,_,_,rfl,rfl,λ_=>rfl⟩
  |false=>
   obtain rfl:=e3 (lN hz);simp only[arB]at hb;rw[fI (by omega)];exact aap e r1 r2 l (k+1) (acc++[t]) (by simp only[arz,arB,arK];omega) (λy hy=>hx y (arH _ hy)) λrL k' h'=>he rL k' (by simp only[arz,arB,arK]at*;omega)
theorem W0(hV:VN m (vars++p'.bO))(hP:p.bA=p'.bA)(yv:p.aU=p'.aU)(Bh:qd p.bA)(oF:jj p.aU):
 ∀(d:Nat)(e:an),SizeOf.sizeOf e<d->sV e->yW (yC N d e p m) (sQ N d p' vars e)
 |0,_,h,_=>absurd h (ar0 _)
 |d+1,e,h,hr=>by
  rw[yC,sQ];have hlen:=hr.len;have h3:(e.ax.length:Int)<=3:=by
    rw[hlen];unfold kK;cases (e.ar==1||(e.ar==2||e.ar==3))<;>cases (e.ar==8||(e.ar==12||e.ar==18))<;>cases e.ar==11<;>decide
  refine aap e _ _ e.ax 0 [] (by simp only[arK];omega) (λx hx=>W0 hV hP yv Bh oF d x (by have:=gY hx;omega) (hr.arg hx)) λrL k' h'=> ?_;exact an5 hV hP yv Bh oF e hr.op.1 hr.op.2 rL (by rw[h',<-hlen];simp only[arK,arS]) _ _ k'
end
theorem apg{m:asn (aso×Int)}{V W:asn aso}(h:VN m V)(e:∀s,dg W s=dg V s)(hl:V.length<=W.length):VN m W:=⟨λs=>by rw[h.val,e],arQ h.len hl⟩
theorem Zq(N:Nat)(e:an)(p:bp):∀(l:asn aso)(k:Nat)(m:asn (aso×Int))(V:asn aso),VN m V->V.length+l.length<1000000000->∃m' k',VN m' (V++l)/\w9 N e p l k m=w9 N e p [] k' m'
 |[],k,m,V,h,_=>⟨m,k,by rw[arT];exact h,rfl⟩
 |s::l,k,m,V,h,hb=>by
  simp only[arB]at hb;rw[w9,show Nat.blt m.length 9223372036854775807=true from Nat.ble_eq_true_of_le (by have:=h.len;omega),cond_true];obtain⟨m',k',h1,h2⟩:=Zq N e p l (k+1) _ _ (h.add s 3 rfl) (by simp only[arz,arB,arK];omega);exact⟨m',k',by rw[arP]at h1;exact h1,h2⟩
theorem aak(N:Nat)(e:an)(p:bp)(vars:asn aso):∀(l:asn aso)(k:Nat)(m:asn (aso×Int))(V:asn aso),VN m V->V.length+l.length<1000000000->∃m',VN m' (V++l)/\J0 N e p vars l k m=w9 N e p vars 0 m'
 |[],k,m,V,h,_=>⟨m,by rw[arT];exact h,rfl⟩
 |s::l,k,m,V,h,hb=>by
  simp only[arB]at hb;rw[J0,show Nat.blt m.length 9223372036854775807=true from Nat.ble_eq_true_of_le (by have:=h.len;omega),cond_true];obtain⟨m',h1,h2⟩:=aak N e p vars l (k+1) _ _ (h.add s 1 rfl) (by simp only[arz,arB,arK];omega);exact⟨m',by rw[arP]at h1;exact h1,h2⟩
theorem ahM(N:Nat)(hN:2147483648<N)(p p':bp)(vars:asn aso)(e:an)(hs:SizeOf.sizeOf e<N)(h:pQ e)(hS:p.bO=p'.bO)(hP:p.bA=p'.bA)(yv:p.aU=p'.aU)(Bh:qd p.bA)(oF:jj p.aU)
 (hl:p.bO.length+vars.length<1000000000):∃t x,HK N p vars e=some (t,x)/\Bi N p' vars e=some (t,x)/\(x=0->ig e=0):=by
 unfold HK Bi;rw[aaS N hN e h,acA N hN e hs h,arx,arx];cases hv:ig e !=0 with
 |true=>exact⟨_,_,rfl,rfl,λh0=>h0⟩
 |false=>
  have hv:=lN hv;simp only[cond_false];rw[TU,J9,arx,arx];cases fc e with
  |true=>exact⟨_,_,rfl,rfl,λh0=>by cases h0⟩
  |false=>
   simp only[cond_false];obtain⟨m1,h1,e1⟩:=aak N e p vars p.bO 0 [] [] ⟨λ_=>rfl,arJ _⟩ (by simp only[arK];omega);obtain⟨m2,k2,h2,e2⟩:=Zq N e p vars 0 m1 _ h1 (by simp only[arK,List.nil_append];omega);rw[e1,e2,w9];have hV:VN m2 (vars++p'.bO):=apg h2 (λs=>by rw[List.nil_append,l4,l4,hS,Bool.or_comm]) (by rw[hS];simp only[arz,List.nil_append];omega);unfold QY DY;obtain⟨t,t',x,a1,a2,a3⟩:=W0 (N:=N) hV hP yv Bh oF N e hs (an0 hv);rw[a1,a2,arx,arx];dsimp only;cases hx:x !=0 with
   |true=>exact⟨_,_,rfl,rfl,λ_=>hv⟩
   |false=>obtain rfl:=a3 (lN hx);exact⟨_,_,rfl,rfl,λ_=>hv⟩
theorem CP{y:an}:∀{l:asn an},y∈jU l->∃x∈l,y∈cW x
 |[],h=>by rw[jU]at h;cases h
 |x::l,h=>by
  rw[Ax]at h;rcases asa.1 h with h|h
  ·exact⟨x,arE,h⟩
  ·obtain⟨z,h1,h2⟩:=CP h;exact⟨z,arH _ h1,h2⟩
theorem aio{t t':aE}{x:Int}(h:ye t x=(t',0)):x=0:=congrArg Prod.snd h
theorem WU(N:Nat)(e:an)(p:bp)(vars:asn aso)(rec:bp->asn aso->an->asp (aE×Int)):
 ∀(l:asn an)(k:Nat)(acc:asn aE)(t:aE),oM N e p vars rec l k acc=some (t,0)->
  (∀x∈l,∃t',rec p vars x=some (t',0))/\∃k' rL,oM N e p vars rec [] k' rL=some (t,0)
 |[],k,acc,t,h=>⟨λ_ hx=>(by cases hx),k,acc,h⟩
 |x::l,k,acc,t,h=>by
  rw[oM]at h;cases hr:rec p vars x with
  |none=>rw[hr]at h;cases h
  |some q=>
   rw[hr,arx]at h;cases hz:q.2 !=0 with
   |true=>rw[hz,cond_true]at h;rw[(Prod.mk.inj (arR h)).2]at hz;cases hz
   |false=>
    rw[hz,cond_false]at h;cases hb:Nat.ble ((acc.length+1)*40) 140737488355328 with
    |false=>rw[hb]at h;cases h
    |true=>
     rw[hb,cond_true]at h;obtain⟨h1,h2⟩:=WU N e p vars rec l (k+1) (acc++[q.1]) t h;refine⟨λy hy=> ?_,h2⟩;rcases ar2.1 hy with rfl|hy
     ·exact⟨q.1,by rw[hr,<-lN hz]⟩
     ·exact h1 y hy
theorem US(N:Nat)(p:bp)(vars:asn aso)(oF:jj p.aU):∀(d:Nat)(e:an)(t:aE),sQ N d p vars e=some (t,0)->∀y∈cW e,(y.ar=3->wY (vars++p.bO) p.bA p.aU y=0)/\(y.ar=2->oB (vars++p.bO) y.aM=0)
 |0,e,t,h=>by cases h
 |d+1,e,t,h=>by
  rw[sQ]at h;obtain⟨h1,k',rL,h2⟩:=WU N e p vars _ _ _ _ _ h;intro y hy;rcases ar2.1 hy with rfl|hy
  ·refine⟨λfJ=> ?_,λfJ=> ?_⟩
   ·rw[oM,fJ,Zd N vars p oF]at h2;exact aio (arR h2)
   ·rw[oM,fJ,Qq,ZW]at h2;have h3:=congrArg Prod.snd (arR h2);exact h3
  ·obtain⟨x,hx,hy⟩:=CP hy;obtain⟨t',h3⟩:=h1 x hx;exact US N p vars oF d x t' h3 y hy
theorem anO(N:Nat)(p:bp)(vars:asn aso)(oF:jj p.aU)(e:an)(t:aE)(h:Bi N p vars e=some (t,0)):∀y∈cW e,(y.ar=3->wY (vars++p.bO) p.bA p.aU y=0)/\(y.ar=2->oB (vars++p.bO) y.aM=0):=by
 unfold Bi at h;cases e1:Af N e with
 |none=>rw[e1]at h;cases h
 |some a=>
  rw[e1,arx]at h;cases h1:a !=0 with
  |true=>rw[h1,cond_true]at h;rw[(Prod.mk.inj (arR h)).2]at h1;cases h1
  |false=>
   rw[h1,cond_false,J9,arx]at h;cases h2:fc e with
   |true=>rw[h2]at h;cases h
   |false=>
    rw[h2,cond_false]at h;cases e3:DY N p vars e with
    |none=>rw[e3]at h;cases h
    |some q=>
     rw[e3,arx]at h;cases h4:q.2 !=0 with
     |true=>rw[h4,cond_true]at h;rw[(Prod.mk.inj (arR h)).2]at h4;cases h4
     |false=>exact US N p vars oF N e q.1 (by unfold DY at e3;rw[e3,<-lN h4])
structure Bd(N:Nat)(p:bp):Prop where
 s:p.bO.length<=1000
 w:p.dj.length<=1000
 q:p.bA.length<=1000
 d:p.aU.length<=1000
 o:p.dz.length<=1000
 P:qd p.bA
 D:jj p.aU
 W:∀c∈p.dj,iU 1000000000 c.aM
 E:∀d∈p.aU,pQ d.cr/\SizeOf.sizeOf d.cr<N
def ad0(d:bR):asn aso:=(d.bI++d.cl).map (·.aC)
structure Q9(p:bp)(k:Nat)(d:bR):Prop where
 par:dg (p.bA.map (·.aC)) d.aC=false
 body:ig d.cr=0
 arp:sm p.bO [] (d.bI++d.cl)=0
 reads:∀y∈cW d.cr,y.ar=3->wY (ad0 d++p.bO) p.bA (p.aU.take k) y=0
 uv:∀y∈cW d.cr,y.ar=2->oB (ad0 d++p.bO) y.aM=0
 len:d.bI.length<=6/\d.cl.length<=6
 ari:dg ((p.aU.take k).map (·.aC)) d.aC=false
theorem UR{D:asn bR}(h:jj D)(k:Nat):jj (D.take k):=⟨λd hd=>h.len d (List.mem_of_mem_take hd),λd hd=>h.mv d (List.mem_of_mem_take hd)⟩
section
variable {N:Nat} {p:bp}
theorem akH(hN:2147483648<N)(B:Bd N p){m:asn (aso×Int)}{T:asn aso}{k:Nat}{d:bR}(h:KN m p.bO T)(hd:p.aU[k]?=some d)(hT:T.length<=1000000)(hq:∀s,dg (p.bA.map (·.aC)++(p.aU.take k).map (·.aC)) s=true->dg T s=true):
 ∃x m',I9 N (k:Int) p m=some (x,m')/\HU N p (k:Int) (p.bO++T)=some x/\(x=0->KN m' p.bO (T++[d.aC])/\Q9 p k d):=by
 have lB:=AW hd;have ars:=B.D.len d lB;have hlen:d.bI.length+d.cl.length<1000000000:=by omega
 have Yx:∀x∈d.bI++d.cl,iC x.eZ:=λx hx=>(B.D.mv d lB x hx).ok;have hs:=B.s;unfold I9 HU;rw[show decide ((0:Int)<=(k:Int))=true from asf (by omega),arZ,hd,cond_true,cond_true,arx,arx,
  PG N (by omega) _ 2 p h (by omega),MW N (by omega),arx,arx,ao3,qJ,arx,arx,Fu,Fu]
 dsimp only;cases e:jQ (p.bO++T) d.aC !=0 with
 |true=>exact⟨_,_,rfl,rfl,λh0=>by rw[h0]at e;cases e⟩
 |false=>
  have e0:=lN e;have k1:=h.V1 (TF e0).2;rw[e0];simp only[cond_false,ash,cond_true];cases cZ d.ay with
  |false=>exact⟨_,_,rfl,rfl,λh0=>by cases h0⟩
  |true=>
   simp only[cond_true];rw[show(bif !decide (d.bI.length<=6)then some true else some !decide (d.cl.length<=6))=some (!(decide (d.bI.length<=6)&&decide (d.cl.length<=6))) by cases decide (d.bI.length<=6)<;>cases decide (d.cl.length<=6)<;>rfl,arx];cases e6:decide (d.bI.length<=6)&&decide (d.cl.length<=6)with
   |false=>exact⟨_,_,rfl,rfl,λh0=>by cases h0⟩
   |true=>
    rw[arA,decide_eq_true_eq,decide_eq_true_eq]at e6;simp only[cond_true,Bool.not_true,cond_false];rw[fI (by omega),fI (by omega),aep N (by omega) d p k1 Yx hlen,apS N (by omega) _ _ Yx (by simp only[arz];omega)];simp only[arx,cond_true,bne_self_eq_false,cond_false];cases ea:sm p.bO [] (d.bI++d.cl) !=0 with
    |true=>exact⟨_,_,rfl,rfl,λh0=>by rw[h0]at ea;cases ea⟩
    |false=>
     simp only[cond_false];rw[ala,aqZ,arx,arx];cases ef:He d !=0 with
     |true=>exact⟨_,_,rfl,rfl,λh0=>by rw[h0]at ef;cases ef⟩
     |false=>
      simp only[cond_false];have hk:k<p.aU.length:=by
       by_cases hk:k<p.aU.length
       ·exact hk
       ·rw[ar4 (by omega)]at hd;cases hd
      rw[show decide (k<=p.aU.length)=true from asf (by omega),cond_true,cond_true,aj3 N d hlen,agR N d hlen,arx,arx,ar7];obtain⟨t,x,a1,a2,a3⟩:=ahM N hN ⟨p.bO,p.dj,p.bA,p.aU.take k,p.dz⟩ ⟨p.bO,[],p.bA,p.aU.take k,[]⟩ ((d.bI++d.cl).map (·.aC)) d.cr (B.E d lB).2 (B.E d lB).1 rfl rfl rfl B.P (UR B.D k)
        (by simp only[arD,arz];omega)
      rw[a1,a2,arx,arx];dsimp only;cases ex:x !=0 with
      |true=>exact⟨_,_,rfl,rfl,λh0=>by rw[h0]at ex;cases ex⟩
      |false=>
       have x0:=lN ex;simp only[cond_false];cases ((t.aO==d.ay.aO)&&((t.bo==d.ay.bo)&&((t.bE==d.ay.bE)&&((t.bN==d.ay.bN)&&((t.bM==d.ay.bM)&&true)))))with
       |false=>exact⟨_,_,rfl,rfl,λh0=>by cases h0⟩
       |true=>
        have fX:dg (p.bA.map (·.aC)++(p.aU.take k).map (·.aC)) d.aC=false:=by
         cases eq:dg (p.bA.map (·.aC)++(p.aU.take k).map (·.aC)) d.aC with
         |false=>rfl
         |true=>
          have:=(TF e0).2;rw[l4,hq _ eq,Bool.or_true]at this;cases this
        rw[l4,asm]at fX;rw[x0]at a2;have tr:=anO N _ _ (UR B.D k) d.cr t a2;exact⟨_,_,rfl,rfl,λ_=>⟨k1,fX.1,a3 x0,lN ea,λy hy=>(tr y hy).1,λy hy=>(tr y hy).2,e6,fX.2⟩⟩
def Fw(p:bp):Bool:=decide (p.bO.length<=64)&&(decide (p.bA.length<=64)&&(decide (p.aU.length<=64)&&(decide (p.dz.length<=64)&&decide (p.dj.length<=256))))
theorem akC:K5 N p=some (Fw p):=by
 unfold K5 Fw;simp only[MS];rw[show decide (((max (max (max p.bO.length p.bA.length) p.aU.length) p.dz.length:Nat):Int)<=64)=decide (max (max (max p.bO.length p.bA.length) p.aU.length) p.dz.length<=64)from wQ _ 64,show decide ((p.dj.length:Int)<=256)=decide (p.dj.length<=256)from wQ _ 256];rw[show decide (max (max (max p.bO.length p.bA.length) p.aU.length) p.dz.length<=64)=(decide (p.bO.length<=64)&&(decide (p.bA.length<=64)&&(decide (p.aU.length<=64)&&decide (p.dz.length<=64)))) by
  rw[Bool.eq_iff_iff];simp only[arA,decide_eq_true_iff];omega]
 cases decide (p.bO.length<=64)<;>cases decide (p.bA.length<=64)<;>cases decide (p.aU.length<=64)<;>cases decide (p.dz.length<=64)<;>rfl
theorem ai9:(bif (decide ((p.bO.length:Int)>64))then some true else(bif (decide ((p.bA.length:Int)>64))then some true else(bif (decide ((p.aU.length:Int)>64))then some true else(bif (decide ((p.dz.length:Int)>64))then some true else some (decide ((p.dj.length:Int)>256))))))=some (!Fw p):=by
 unfold Fw;rw[show ∀n:Nat,decide ((n:Int)>64)= !decide (n<=64)from λn=>kP n 64];rw[show decide ((p.bA.length:Int)>64)= !decide (p.bA.length<=64)from kP _ 64,show decide ((p.aU.length:Int)>64)= !decide (p.aU.length<=64)from kP _ 64,show decide ((p.dz.length:Int)>64)= !decide (p.dz.length<=64)from kP _ 64,show decide ((p.dj.length:Int)>256)= !decide (p.dj.length<=256)from kP _ 256];cases decide (p.bO.length<=64)<;>cases decide (p.bA.length<=64)<;>cases decide (p.aU.length<=64)<;>cases decide (p.dz.length<=64)<;>rfl
def xp:asn aso->asn aso->Int
 |_,[]=>0
 |S,s::l=>bif jQ S s !=0 then jQ S s else xp (S++[s]) l
theorem Pj(hN:16<N):∀(l:asn aso)(k:Nat)(m:asn (aso×Int))(S:asn aso),KN m S []->S.length+l.length<=1000->
 ∃m',KN m' (S++l) []/\LO N p l k m=bif xp S l !=0 then some (0,xp S l)else E6 N p m' p.dj 0
 |[],k,m,S,h,_=>⟨m,by rw[arT];exact h,rfl⟩
 |s::l,k,m,S,h,hb=>by
  simp only[arB]at hb;rw[LO,PG N hN s 1 p h (by simp only[arK];omega),arx,arT,xp];dsimp only;cases e:jQ S s !=0 with
  |true=>
   obtain⟨m',h1,_⟩:=Pj hN l k _ _ (h.wm s) (by simp only[arz,arB,arK];omega);refine⟨m',by rw[arP]at h1;exact h1,?_⟩;simp only[cond_true];rw[e];rfl
  |false=>
   rw[lN e];obtain⟨m',h1,h2⟩:=Pj hN l (k+1) _ _ (h.wm s) (by simp only[arz,arB,arK];omega);exact⟨m',by rw[arP]at h1;exact h1,h2⟩
theorem ad6{α:Type}{L l:asn α}{x:α}{k:Nat}(h:L.drop k=x::l):L.take (k+1)=L.take k++[x]:=by
 have:=ba h;rw[List.take_add_one,this];rfl
theorem gk{α:Type}{L l:asn α}{x:α}{k:Nat}(h:L.drop k=x::l):L.drop (k+1)=l:=by
 rw[<-List.drop_drop,h];rfl
theorem lu{α:Type}{L l:asn α}{x:α}{k:Nat}(h:L.drop k=x::l):k<L.length:=by
 by_cases hk:k<L.length
 ·exact hk
 ·rw[List.drop_eq_nil_of_le (by omega)]at h;cases h
theorem Yh(hN:16<N):∀(l:asn aso)(k:Nat),p.bO.drop k=l->Lc N p l k=some (xp (p.bO.take k) l)
 |[],_,_=>rfl
 |s::l,k,h=>by
  rw[Lc,arZ,show decide (k<=p.bO.length)=true from asf (by have:=lu h;omega),cond_true,ar7,MW N hN,arx,xp,Yh hN l (k+1) (gk h),ad6 h];cases jQ (p.bO.take k) s !=0<;>rfl
theorem ZK(hN:16<N){m:asn (aso×Int)}(h:KN m p.bO []):∀(l:asn di)(k:Nat),(∀c∈l,iU 1000000000 c.aM)->
 E6 N p m l k=bif gM (λc=>iW p.bO c.aM) l !=0 then some (1,gM (λc=>iW p.bO c.aM) l)else A5 N p p.bA 0 2 m
 |[],_,_=>rfl
 |c::l,k,hc=>by
  have ok:iC c.aM:=(hc c arE).ok;have e1:L2 N c p m=some (iW p.bO c.aM):=by
   unfold L2 TQ;rw[CI N hN _ ok,arx,arx,PM N hN _ p ok h];unfold iW;cases eH c.aM<;>rfl
  rw[E6,e1,arx,gM,ZK hN h l (k+1) λy hy=>hc y (arH _ hy)];cases e:iW p.bO c.aM !=0 with
  |true=>simp only[cond_true];rw[e];rfl
  |false=>rfl
theorem Y8(hN:16<N)(hs:p.bO.length<=1000):∀(l:asn di)(k:Nat),(∀c∈l,iU 1000000000 c.aM)->
 Fb N p l k=bif gM (λc=>iW p.bO c.aM) l !=0 then some (1,gM (λc=>iW p.bO c.aM) l)else Br N p p.bA 0 p.bO 2
 |[],_,_=>by
  rw[Fb,fI (by omega)];rfl
 |c::l,k,hc=>by
  rw[Fb,OR N hN _ (hc c arE).ok,arx,gM,Y8 hN hs l (k+1) λy hy=>hc y (arH _ hy)];cases e:iW p.bO c.aM !=0 with
  |true=>simp only[cond_true];rw[e];rfl
  |false=>rfl
theorem abK(hN:16<N)(hs:p.bO.length<=1000):∀(l:asn dh)(k:Nat)(at_:Int)(m:asn (aso×Int))(T:asn aso),KN m p.bO T->qd l->T.length+l.length<=1000->
 (∃a x,x≠0/\A5 N p l k at_ m=some (a,x)/\Br N p l k (p.bO++T) at_=some (a,x))\/
 ∃at' m',KN m' p.bO (T++l.map (·.aC))/\A5 N p l k at_ m=Ae N p p.aU 0 at' m'/\Br N p l k (p.bO++T) at_=AU N p p.aU 0 (p.bO++(T++l.map (·.aC))) at'
 |[],k,at_,m,T,h,_,_=> .inr ⟨at_,m,by rw[List.map_nil,arT];exact h,rfl,by rw[List.map_nil,arT];rfl⟩
 |x::l,k,at_,m,T,h,hl,hb=>by
  simp only[arB]at hb;obtain⟨m1,e1,e2⟩:=ahF N hN x p (λy hy=>(hl.mv x arE y hy).ok) h (by omega);rw[A5,Br,e1,aj8 N hN x p.bO T (λy hy=>(hl.mv x arE y hy).ok),arx,arx];dsimp only;cases e:CV p.bO T x !=0 with
  |true=>exact .inl ⟨_,_,λh0=>(by rw[h0]at e;cases e),rfl,rfl⟩
  |false=>
   simp only[cond_false];rw[fI (by simp only[arz];omega),cond_true,arP];have:=abK hN hs l (k+1) (aI (at_+1)) m1 (T++[x.aC]) (e2 (lN e)) ⟨λy hy=>hl.len y (arH _ hy),λy hy=>hl.mv y (arH _ hy)⟩ (by simp only[arz,arB,arK];omega);rw[arP]at this;exact this
theorem VK(hN:2147483648<N)(B:Bd N p):∀(l:asn bR)(k:Nat)(at_:Int)(m:asn (aso×Int))(T:asn aso),p.aU.drop k=l->KN m p.bO T->(∀s,dg (p.bA.map (·.aC)++(p.aU.take k).map (·.aC)) s=true->dg T s=true)->T.length+l.length<=10000->
 (∃a x,x≠0/\Ae N p l k at_ m=some (a,x)/\AU N p l k (p.bO++T) at_=some (a,x))\/
 ((∀i d,k<=i->p.aU[i]?=some d->Q9 p i d)/\∃at' m',KN m' p.bO (T++l.map (·.aC))/\Ae N p l k at_ m=Dm N m' p p.dz 0 at'/\AU N p l k (p.bO++T) at_=Dx N p p.dz 0 at')
 |[],k,at_,m,T,hd,h,_,_=>by
  refine .inr ⟨λi d hi hx=> ?_,at_,m,by rw[List.map_nil,arT];exact h,rfl,rfl⟩
  ·have:p.aU.length<=k:=by
    by_cases hk:p.aU.length<=k
    ·exact hk
    ·have:=congrArg List.length hd;simp at this;omega
   rw[ar4 (by omega)]at hx;cases hx
 |d::l,k,at_,m,T,hd,h,hq,hb=>by
  simp only[arB]at hb;have hs:=B.s;obtain⟨x,m1,e1,e2,e3⟩:=akH hN B h (ba hd) (by omega) hq;rw[Ae,AU,e1,e2,arx,arx];dsimp only;cases e:x !=0 with
  |true=>exact .inl ⟨_,_,λh0=>(by rw[h0]at e;cases e),rfl,rfl⟩
  |false=>
   obtain⟨k1,g1⟩:=e3 (lN e);simp only[cond_false];rw[fI (by simp only[arz];omega),cond_true,arP];have:=VK hN B l (k+1) (aI (at_+1)) m1 (T++[d.aC]) (gk hd) k1 (λs hs=>by
    rw[ad6 hd,List.map_append,<-arP,l4]at hs;rw[l4];rcases Bool.or_eq_true _ _▸hs with hs|hs
    ·rw[hq s hs];rfl
    ·rw[show dg [d.aC] s=true from hs,Bool.or_true]) (by simp only[arz,arB,arK];omega)
   rw[arP]at this;rcases this with this|⟨g,this⟩
   ·exact .inl this
   ·refine .inr ⟨λi d' hi hx=> ?_,this⟩;by_cases n7:i=k
    ·subst n7;rw[ba hd]at hx;cases hx;exact g1
    ·exact g i d' (by omega) hx
theorem TH{α:Type}(f:α->aso)(s:aso):∀l:asn α,dg (l.map f) s=(l.find? λx=>bL (f x)==bL s).isSome
 |[]=>rfl
 |x::l=>by
  rw[arX,List.find?_cons,show dg (f x::l.map f) s=(bL (f x)==bL s||dg (l.map f) s)from asj,TH f s l];cases bL (f x)==bL s<;>rfl
theorem ag9(P:asn dh)(D:asn bR)(s:aso):(fS P D s).2.2=dg (P.map (·.aC)++D.map (·.aC)) s:=by
 unfold fS;rw[l4,TH,TH];show _=(_||(D.find? (qi s)).isSome);cases P.find? λx=>bL x.aC==bL s with
 |some x=>rfl
 |none=>cases D.find? (qi s)<;>rfl
theorem WN(hD:jj p.aU){m:asn (aso×Int)}(h:KN m p.bO (p.bA.map (·.aC)++p.aU.map (·.aC))):∀(l:asn aso)(k:Nat)(at_:Int),p.dz.drop k=l->
 ∃a x,Dm N m p l k at_=some (a,x)/\Dx N p l k at_=some (a,x)
 |[],_,_,_=>⟨_,_,rfl,rfl⟩
 |s::l,k,at_,hd=>by
  rw[Dm,Dx,h.ne2,SB N p s hD,arx,ag9,arZ,show decide (k<=p.dz.length)=true from asf (by have:=lu hd;omega),ar7,aet,LJ,arx,arx];cases dg (p.bA.map (·.aC)++p.aU.map (·.aC)) s with
  |false=>exact⟨_,_,rfl,rfl⟩
  |true=>
   cases dg (p.dz.take k) s with
   |true=>exact⟨_,_,rfl,rfl⟩
   |false=>exact WN hD h l (k+1) (aI (at_+1)) (gk hd)
theorem agm(hN:2147483648<N)(B:Bd N p):∃a x,Mf N p=some (a,x)/\LQ N p=some (a,x)/\(x=0->∀i d,p.aU[i]?=some d->Q9 p i d):=by
 have hs:=B.s;have hq:=B.q;have hd:=B.d;unfold Mf LQ TD;rw[akC,ai9,arx,arx];cases Fw p with
 |false=>exact⟨_,_,rfl,rfl,λh=>by cases h⟩
 |true=>
  simp only[cond_true,Bool.not_true,cond_false];obtain⟨m1,k1,e1⟩:=Pj (N:=N) (p:=p) (by omega) p.bO 0 [] [] KN.nil (by simp only[arK];omega);rw[List.nil_append]at k1;rw[e1,Yh (by omega) p.bO 0 rfl,arx,List.take_zero];cases ez:xp [] p.bO !=0 with
  |true=>exact⟨_,_,rfl,rfl,λh0=>by rw[h0]at ez;cases ez⟩
  |false=>
   simp only[cond_false];rw[ZK (by omega) k1 _ _ B.W,Y8 (by omega) hs _ _ B.W];cases ew:gM (λc=>iW p.bO c.aM) p.dj !=0 with
   |true=>exact⟨_,_,rfl,rfl,λh0=>by rw[h0]at ew;cases ew⟩
   |false=>
    simp only[cond_false];have pb:=abK (N:=N) (p:=p) (by omega) hs p.bA 0 2 m1 [] k1 B.P (by simp only[arK];omega);rw[arT,List.nil_append]at pb;rcases pb with⟨a,x,hx,e1,e2⟩|⟨at',m2,k2,e1,e2⟩
    ·exact⟨a,x,e1,e2,λh0=>absurd h0 hx⟩
    ·rw[e1,e2];rcases VK hN B p.aU 0 at' m2 _ rfl k2 (λs h=>by rw[List.take_zero,List.map_nil,arT]at h;exact h) (by simp only[arD];omega)with⟨a,x,hx,e1,e2⟩|⟨g,at2,m3,k3,e1,e2⟩
     ·exact⟨a,x,e1,e2,λh0=>absurd h0 hx⟩
     ·rw[e1,e2];obtain⟨a,x,e1,e2⟩:=WN (N:=N) B.D k3 p.dz 0 at2 rfl;exact⟨a,x,e1,e2,λ_ i d h=>g i d (Nat.zero_le _) h⟩
end
structure Ux(x:aZ):Prop where
 lin:iU 1000000 x.aM
 at_:x.bH.length<=1000000
 uv:∀l∈x.bH,iU 1000000 l
structure bdN(e:an):Prop where
 lin:iU 1000000 e.aM
 idx:e.xIdx.length<=1000000
 each:∀x∈e.xIdx,Ux x
 args:e.ax.length<=1000000
def px(e:an):Prop:=∀y∈cW e,bdN y
theorem px.arg{e x:an}(h:px e)(hx:x∈e.ax):px x:=λy hy=>h y (mA hx hy)
theorem px.ok{e:an}(h:px e):pQ e:=λy hy=>
 ⟨arQ (h y hy).lin (by decide),λx hx=>⟨arQ ((h y hy).each x hx).lin (by decide),λl hl=>arQ (((h y hy).each x hx).uv l hl) (by decide)⟩,arQ (h y hy).args (by decide)⟩
theorem T4(N:Nat)(l:aH)(h:iU 1000000 l):BF N l=some (l,0):=by
 unfold BF DP;rw[fI (by have:=h;unfold iU at this;omega)];rfl
theorem Eh{α:Type}:∀(L:asn α)(k:Nat)(x:α),L[k]?=some x->L.set k x=L
 |[],_,_,_=>rfl
 |y::L,0,x,h=>by cases h;rfl
 |y::L,k+1,x,h=>by rw[List.set_cons_succ,Eh L k x (by rw[ar9]at h;exact h)]
theorem mR(n:Nat):Nat.beq n n=true:=Nat.beq_refl n
theorem ad3(N:Nat)(e:an)(rec:an->asp (an×Int))(v8:asn aZ)(v2:aH×Int):∀(l:asn an)(k:Nat),e.ax.drop k=l->(∀x∈l,rec x=some (x,0))->v8.length=e.xIdx.length->
 uR N v8 e.xIdx e.ax e v2 rec l k e.ax=some (⟨e.ar,e.aC,e.bD,e.ay,v2.1,v8,e.ax⟩,0)
 |[],k,_,_,h8=>by rw[uR,h8,mR,mR];rfl
 |x::l,k,hd,hx,h8=>by
  rw[uR,hx x arE,arx,mR,show decide ((k:Int)<(e.ax.length:Int))=true from asf (by have:=lu hd;omega),ba hd];simp only[cond_true,arx,bne_self_eq_false,cond_false];rw[Eh _ _ _ (ba hd)];exact ad3 N e rec v8 v2 l (k+1) (gk hd) (λy hy=>hx y (arH _ hy)) h8
theorem abz(N:Nat)(c:asn aZ->asp (an×Int))(v8:asn aZ)(k4:Nat)(x:aZ)(hx:v8[k4]?=some x):∀(l:asn aH)(k:Nat),x.bH.drop k=l->(∀y∈l,iU 1000000 y)->
 uD N x.bH c v8 k4 (x.aM,0) x l k x.bH=c v8
 |[],k,_,_=>by
  rw[uD,mR,cond_true];dsimp only;rw[Eh v8 k4 x hx,Eh v8 k4 x hx]
 |y::l,k,hd,hy=>by
  rw[uD,T4 N y (hy y arE),arx,mR,show decide ((k:Int)<(x.bH.length:Int))=true from asf (by have:=lu hd;omega),ba hd];simp only[cond_true,arx,bne_self_eq_false,cond_false];rw[Eh _ _ _ (ba hd)];exact abz N c v8 k4 x hx l (k+1) (gk hd) λz hz=>hy z (arH _ hz)
theorem ad1(N:Nat)(e:an)(rec:an->asp (an×Int))(v2:aH×Int)(ha:e.ax.length<=1000000)(hr:∀x∈e.ax,rec x=some (x,0)):∀(l:asn aZ)(k:Nat),e.xIdx.drop k=l->(∀y∈l,Ux y)->
 sO N e e.xIdx v2 rec l k e.xIdx=some (⟨e.ar,e.aC,e.bD,e.ay,v2.1,e.xIdx,e.ax⟩,0)
 |[],k,_,_=>by
  rw[sO];unfold OZ;rw[fI (by omega),cond_true,arx];exact ad3 N e rec e.xIdx v2 e.ax 0 rfl hr rfl
 |x::l,k,hd,hy=>by
  have h1:=hy x arE;have hl:=h1.at_;rw[sO,T4 N x.aM h1.lin,arx,mR,show decide ((k:Int)<(e.xIdx.length:Int))=true from asf (by have:=lu hd;omega),ba hd];unfold OG;simp only[cond_true,arx,bne_self_eq_false,cond_false];rw[fI (by omega),cond_true,arx,List.length_set,mR,cond_true];rw[abz N _ e.xIdx k x (ba hd) x.bH 0 rfl h1.uv];exact ad1 N e rec v2 ha hr l (k+1) (gk hd) λz hz=>hy z (arH _ hz)
theorem V9(N:Nat):∀(d:Nat)(e:an),SizeOf.sizeOf e<d->px e->rj N d e=some (e,0)
 |0,_,h,_=>absurd h (ar0 _)
 |d+1,e,h,hb=>by
  have h1:=hb e arE;have hl:=h1.idx;rw[rj,T4 N e.aM h1.lin,arx];unfold Oa;rw[fI (by omega)];refine Eq.trans (ad1 N e _ (e.aM,0) h1.args (λx hx=>V9 N d x (by have:=gY hx;omega) (hb.arg hx)) e.xIdx 0 rfl h1.each) ?_;cases e;rfl
theorem NR(N:Nat)(e:an)(h:SizeOf.sizeOf e<N)(hb:px e):vY N e=some e:=by
 unfold vY O2;rw[V9 N N e h hb];rfl
theorem UB(N:Nat):∀(l:asn cT)(k:Nat)(acc:asn cT),acc.length+l.length<=1000000000->(∀x∈l,iU 1000000000 x.eZ)->EA N l k acc=some (acc++l)
 |[],_,acc,_,_=>by rw[EA,arT]
 |a::l,k,acc,h,hx=>by
  simp only[arB]at h;rw[EA,K4 N a.eZ (hx a arE),arx,fI (by omega),cond_true];dsimp only;rw[UB N l (k+1) _ (by simp only[arz,arB,arK];omega) λy hy=>hx y (arH _ hy)];rw[arP];rfl
section
variable {N:Nat} {p:bp}
theorem X7(S:asn aso)(W:asn di)(P:asn dh)(O:asn aso):∀(l:asn bR)(k n:Nat)(acc:asn bR),acc.length=n->n+l.length<=1000->jj l->(∀d∈l,px d.cr/\SizeOf.sizeOf d.cr<N)->
 vG N S W P O l k n acc=some (S,W,P,n+l.length,O,acc++l)
 |[],_,n,acc,_,_,_,_=>by rw[vG,arT];rfl
 |d::l,k,n,acc,ha,hb,hD,hE=>by
  simp only[arB]at hb;have hl:=hD.len d arE;have e1:zL N d.bI=some d.bI:=by
   unfold zL;rw[UB N _ _ _ (by simp only[arK];omega) λy hy=>hD.mv d arE y (List.mem_append_left _ hy)];rfl
  have e2:zL N d.cl=some d.cl:=by
   unfold zL;rw[UB N _ _ _ (by simp only[arK];omega) λy hy=>hD.mv d arE y (List.mem_append_right _ hy)];rfl
  rw[vG,e1,e2,NR N d.cr (hE d arE).2 (hE d arE).1,arx,arx,arx,ha,mR,fI (by omega),cond_true,cond_true];refine Eq.trans (X7 S W P O l (k+1) (n+1) (acc++[d]) (by simp only[arz,arB,arK];omega) (by omega) ⟨λy hy=>hD.len y (arH _ hy),λy hy=>hD.mv y (arH _ hy)⟩ λy hy=>hE y (arH _ hy)) ?_;rw[arP,arB,Nat.add_assoc,Nat.add_comm 1 l.length];rfl
structure Bc(N:Nat)(p:bp):Prop where
 b:Bd N p
 E:∀d∈p.aU,px d.cr/\SizeOf.sizeOf d.cr<N
theorem V6(B:Bc N p)(S:asn aso)(W:asn di)(O:asn aso):∀(l:asn dh)(k:Nat)(acc:asn dh),acc.length+l.length<=1000->qd l->
 vJ N S W O p l k acc=some (S,W,acc++l,p.aU.length,O,p.aU)
 |[],k,acc,_,_=>by
  have:=B.b.d;rw[vJ,X7 S W acc O p.aU 0 0 [] rfl (by omega) B.b.D B.E,arT,arS];rfl
 |x::l,k,acc,h,hP=>by
  simp only[arB]at h;rw[vJ,WZ N x.bI (hP.len x arE) (hP.mv x arE),arx,fI (by omega),cond_true];refine Eq.trans (V6 B S W O l (k+1) (acc++[x]) (by simp only[arz,arB,arK];omega) ⟨λy hy=>hP.len y (arH _ hy),λy hy=>hP.mv y (arH _ hy)⟩) ?_;rw[arP];rfl
theorem Zr(B:Bc N p)(S:asn aso)(O:asn aso):∀(l:asn di)(k:Nat)(acc:asn di),acc.length+l.length<=1000->(∀c∈l,iU 1000000000 c.aM)->
 vc N S O p l k acc=some (S,acc++l,p.bA,p.aU.length,O,p.aU)
 |[],k,acc,_,_=>by
  have:=B.b.q;rw[vc,V6 B S acc O p.bA 0 [] (by simp only[arK];omega) B.b.P,arT];rfl
 |c::l,k,acc,h,hc=>by
  simp only[arB]at h;rw[vc,K4 N c.aM (hc c arE),arx,fI (by omega),cond_true];refine Eq.trans (Zr B S O l (k+1) (acc++[c]) (by simp only[arz,arB,arK];omega) λy hy=>hc y (arH _ hy)) ?_;rw[arP];rfl
theorem akU(B:Bc N p):Fz N p=some (p.bO,p.dj,p.bA,p.aU.length,p.dz,p.aU):=by
 have h1:=B.b.s;have h2:=B.b.o;have h3:=B.b.w;unfold Fz Nq;rw[fI (by omega),fI (by omega),cond_true,cond_true,arx,arx,Zr B _ _ p.dj 0 [] (by simp only[arK];omega) B.b.W];rfl
end
theorem tW(n:Nat):((n:Int) !=(n:Int))=false:=by rw[tH,ash];rfl
theorem Wa(N:Nat)(L:asn aso):Fy N L L=some true:=by
 have go:∀(l:asn aso)(k:Nat),L.drop k=l->JC N L l k=some true:=by
  intro l
  induction l with
  |nil=>intro k _;rfl
  |cons x l ih=>intro k h;rw[JC,arZ,ba h,arx,ash,cond_true];exact ih (k+1) (gk h)
 unfold Fy;rw[tW,cond_false];exact go L 0 rfl
theorem EY(N:Nat)(x:aH):rH N x x=some true:=by
 have go:∀(l:asn bB)(k:Nat),x.xL.drop k=l->B6 N x l k=some true:=by
  intro l
  induction l with
  |nil=>intro k _;rfl
  |cons y l ih=>intro k h;rw[B6,arZ,ba h,arx,ash,ash];exact ih (k+1) (gk h)
 unfold rH;rw[tW,bne_self_eq_false];exact go x.xL 0 rfl
theorem Vu(N:Nat)(L:asn aH):xu N L L=some true:=by
 have go:∀(l:asn aH)(k:Nat),L.drop k=l->CO N L l k=some true:=by
  intro l
  induction l with
  |nil=>intro k _;rfl
  |cons x l ih=>intro k h;rw[CO,arZ,ba h,arx,EY,arx,cond_true];exact ih (k+1) (gk h)
 unfold xu;rw[tW,cond_false];exact go L 0 rfl
theorem ago(N:Nat)(x:aZ):CM N x x=some true:=by
 unfold CM;rw[ash,EY,Vu];rfl
theorem agL(N:Nat)(L:asn aZ):CB N L L=some true:=by
 have go:∀(l:asn aZ)(k:Nat),L.drop k=l->CL N L l k=some true:=by
  intro l
  induction l with
  |nil=>intro k _;rfl
  |cons x l ih=>intro k h;rw[CL,arZ,ba h,arx,ago,arx,cond_true];exact ih (k+1) (gk h)
 unfold CB;rw[tW,cond_false];exact go L 0 rfl
theorem XK(N:Nat)(L:asn an)(rec:an->an->asp Bool)(hr:∀x∈L,rec x x=some true):∀(l:asn an)(k:Nat),L.drop k=l->AD N L rec l k=some true
 |[],k,_=>rfl
 |x::l,k,h=>by
  rw[AD,arZ,ba h,arx,hr x (AW (ba h)),arx,cond_true];exact XK N L rec hr l (k+1) (gk h)
theorem VW(N:Nat):∀(d:Nat)(e:an),2*SizeOf.sizeOf e<d->tq N d e e=some true
 |0,_,h=>absurd h (ar0 _)
 |1,e,h=>by cases e;simp only[an.mk.sizeOf_spec]at h;omega
 |d+2,e,h=>by
  rw[tq,xm,tW,cond_false,XK N e.ax _ (λx hx=>VW N d x (by have:=gY hx;omega)) e.ax 0 rfl,EY,agL];rw[ash,ash,ash,ash,ash,ash,ash,ash,ash];rfl
theorem amW(N:Nat)(L:asn di):LY N L L=some true:=by
 have one:∀x:di,JS N x x=some true:=λx=>by unfold JS;rw[ash,EY];rfl
 have go:∀(l:asn di)(k:Nat),L.drop k=l->LA N L l k=some true:=by
  intro l
  induction l with
  |nil=>intro k _;rfl
  |cons x l ih=>intro k h;rw[LA,arZ,ba h,arx,one,arx,cond_true];exact ih (k+1) (gk h)
 unfold LY;rw[tW,cond_false];exact go L 0 rfl
theorem ack(N:Nat)(L:asn cT):F3 N L L=some true:=by
 have go:∀(l:asn cT)(k:Nat),L.drop k=l->Ml N L l k=some true:=by
  intro l
  induction l with
  |nil=>intro k _;rfl
  |cons x l ih=>intro k h;rw[Ml,arZ,ba h,arx,ash,EY];exact ih (k+1) (gk h)
 unfold F3;rw[tW,cond_false];exact go L 0 rfl
theorem aly(N:Nat)(d:bR)(h:2*SizeOf.sizeOf d.cr+2<N):Jj N d d=some true:=by
 unfold Jj lJ;rw[VW N N d.cr (by omega),ack,ack];rw[ash,ash,ash,ash,ash,ash,ash];rfl
theorem aby(N:Nat)(p:bp)(h:∀d∈p.aU,2*SizeOf.sizeOf d.cr+2<N):Js N p p=some true:=by
 have go2:∀(l:asn bR)(k:Nat),p.aU.drop k=l->JW N p l k=some true:=by
  intro l
  induction l with
  |nil=>intro k _;rfl
  |cons x l ih=>intro k hd;rw[JW,arZ,ba hd,arx,aly N x (h x (AW (ba hd))),arx,cond_true];exact ih (k+1) (gk hd)
 have go:∀(l:asn dh)(k:Nat),p.bA.drop k=l->KM N p p l k=some true:=by
  intro l
  induction l with
  |nil=>intro k _;exact go2 p.aU 0 rfl
  |cons x l ih=>
   intro k hd;rw[KM,arZ,ba hd,arx,Vu,ash,ash,ash,ash,ash,ash];exact ih (k+1) (gk hd)
 unfold Js;rw[Wa,amW,Wa,tW,tW];exact go p.bA 0 rfl
structure BR(B:Nat)(x:aZ):Prop where
 lin:x.aM.xL.length<=B
 at_:x.bH.length<=B
 uv:∀l∈x.bH,l.xL.length<=B
structure J7(B:Nat)(e:an):Prop where
 lin:e.aM.xL.length<=B
 idx:e.xIdx.length<=B
 each:∀x∈e.xIdx,BR B x
 args:e.ax.length<=B
def iZ(B:Nat)(e:an):Prop:=∀y∈cW e,J7 B y
theorem iZ.arg{B:Nat}{e x:an}(h:iZ B e)(hx:x∈e.ax):iZ B x:=λy hy=>h y (mA hx hy)
theorem BR.mono{A B:Nat}(h:A<=B){x:aZ}(k:BR A x):BR B x:=⟨arQ k.lin h,arQ k.at_ h,λl hl=>arQ (k.uv l hl) h⟩
theorem J7.mono{A B:Nat}(h:A<=B){e:an}(k:J7 A e):J7 B e:=⟨arQ k.lin h,arQ k.idx h,λx hx=>(k.each x hx).mono h,arQ k.args h⟩
abbrev qS:Nat:=140737488355328
theorem yX{a b:Nat}(h:a+b<=9223372036854775807):aI ((a:Int)+(b:Int))=((a+b:Nat):Int):=by
 rw[<-Int.natCast_add];exact CU h
def Wt(m n:Nat)(Q:Prop)(r:asp Int):Prop:=∃v:Nat,r=some (v:Int)/\n<=v/\v<=m+500000000000000/\(v<=m->Q)
theorem T3(N:Nat)(m:Nat)(hm:m<=100000)(rec:an->Int->asp Int)(sX:an->Prop)(hr:∀(x:an)(q:Nat),q<=m->sX x->Wt q 1 (iZ q x) (rec x (q:Int))):∀(l:asn an)(k v:Nat),v<=m+500000000000000->(∀x∈l,sX x)->
 Wt m v (v+l.length<=m/\∀x∈l,iZ m x) (zn N (m:Int) rec l k (v:Int))/\Cv N (m:Int) rec l k (v:Int)=zn N (m:Int) rec l k (v:Int)
 |[],k,v,hv,_=>⟨⟨v,rfl,arJ _,by omega,λh=>⟨h,λ_ h=>by cases h⟩⟩,rfl⟩
 |x::l,k,v,hv,hx=>by
  rw[zn,Cv,wQ];by_cases h:v<=m
  ·rw[asf h,cond_true,cond_true,show aI ((m:Int)-(v:Int))=((m-v:Nat):Int) by rw[show(m:Int)-(v:Int)=((m-v:Nat):Int) by omega];exact CU (by omega)];obtain⟨n,e1,e2,e3,e4⟩:=hr x (m-v) (Nat.sub_le _ _) (hx x arE);rw[e1,arx,arx];dsimp only;rw[yX (by omega)];by_cases hn:v+n<=m
   ·obtain⟨⟨u,f1,f2,f3,f4⟩,f5⟩:=T3 N m hm rec sX hr l (k+1) (v+n) (by omega) λy hy=>hx y (arH _ hy);refine⟨⟨u,f1,by omega,f3,λhu=> ?_⟩,f5⟩;obtain⟨g1,g2⟩:=f4 hu;refine⟨by simp only[arB];omega,λy hy=> ?_⟩;rcases ar2.1 hy with rfl|hy
    ·exact λz hz=>(e4 (by omega) z hz).mono (by omega)
    ·exact g2 y hy
   ·have stop:∀(l:asn an)(k:Nat),zn N (m:Int) rec l k ((v+n:Nat):Int)=some ((v+n:Nat):Int)/\Cv N (m:Int) rec l k ((v+n:Nat):Int)=some ((v+n:Nat):Int):=by
     intro l k;cases l with
     |nil=>exact⟨rfl,rfl⟩
     |cons y l=>rw[zn,Cv,wQ,asg hn];exact⟨rfl,rfl⟩
    rw[(stop l (k+1)).1,(stop l (k+1)).2];exact⟨⟨v+n,rfl,by omega,by omega,λh=>absurd h hn⟩,rfl⟩
  ·rw[asg h];exact⟨⟨v,rfl,arJ _,by omega,λh'=>absurd h' h⟩,rfl⟩
theorem adl(N:Nat)(m:Nat)(hm:m<=100000)(c:Int->asp Int)(lo:Nat)(Q:Prop)(hc:∀v:Nat,v<=m+500000000000000->lo<=v->Wt m v Q (c (v:Int))):∀(l:asn aH)(k v:Nat),v<=m+500000000000000->lo<=v->(∀x∈l,x.xL.length<=qS)->
 Wt m v (Q/\∀x∈l,x.xL.length<=m) (Ig N c (m:Int) l k (v:Int))
 |[],k,v,hv,iD,_=>by
  obtain⟨u,h1,h2,h3,h4⟩:=hc v hv iD;exact⟨u,h1,h2,h3,λh=>⟨h4 h,λ_ h=>by cases h⟩⟩
 |x::l,k,v,hv,iD,hx=>by
  rw[Ig,wQ];by_cases h:v<=m
  ·have yR:x.xL.length<=140737488355328:=hx x arE;rw[asf h,cond_true];dsimp only;rw[yX (by omega)];obtain⟨u,f1,f2,f3,f4⟩:=adl N m hm c lo Q hc l (k+1) (v+x.xL.length) (by omega) (by omega) λy hy=>hx y (arH _ hy);refine⟨u,f1,by omega,f3,λhu=>⟨(f4 hu).1,λy hy=> ?_⟩⟩;rcases ar2.1 hy with rfl|hy
   ·omega
   ·exact(f4 hu).2 y hy
  ·rw[asg h,cond_false];obtain⟨u,h1,h2,h3,h4⟩:=hc v hv iD;exact⟨u,h1,h2,h3,λhu=>absurd (arQ h2 hu) h⟩
theorem U2(N:Nat)(m:Nat)(hm:m<=100000)(rec:an->Int->asp Int)(sX:an->Prop)(hr:∀(x:an)(q:Nat),q<=m->sX x->Wt q 1 (iZ q x) (rec x (q:Int)))(e:an)(ha:∀x∈e.ax,sX x):∀(l:asn aZ)(k v:Nat),v<=m+500000000000000->(∀x∈l,BR qS x)->
 Wt m v ((e.ax.length<=m/\∀x∈e.ax,iZ m x)/\∀x∈l,BR m x) (CR N (m:Int) rec e l k (v:Int))
 |[],k,v,hv,_=>by
  rw[CR];obtain⟨u,h1,h2,h3,h4⟩:=(T3 N m hm rec sX hr e.ax 0 v hv ha).1;exact⟨u,h1,h2,h3,λh=>⟨⟨by have:=(h4 h).1;omega,(h4 h).2⟩,λ_ h=>by cases h⟩⟩
 |x::l,k,v,hv,hx=>by
  rw[CR,wQ];by_cases h:v<=m
  ·have yR:=hx x arE;have h1:x.aM.xL.length<=140737488355328:=yR.lin;have h2:x.bH.length<=140737488355328:=yR.at_;rw[asf h,cond_true,yX (by omega),yX (by omega)];obtain⟨u,f1,f2,f3,f4⟩:=adl N m hm (λcD=>CR N (m:Int) rec e l (k+1) cD) 0 _ (λv hv _=>U2 N m hm rec sX hr e ha l (k+1) v hv λy hy=>hx y (arH _ hy)) x.bH 0 (v+x.aM.xL.length+x.bH.length) (by omega) (Nat.zero_le _) yR.uv;refine⟨u,f1,by omega,f3,λhu=> ?_⟩;obtain⟨⟨g1,g2⟩,g3⟩:=f4 hu;refine⟨g1,λy hy=> ?_⟩;rcases ar2.1 hy with rfl|hy
   ·exact⟨by omega,by omega,g3⟩
   ·exact g2 y hy
  ·rw[asg h,cond_false];obtain⟨⟨u,h1,h2,h3,h4⟩,h5⟩:=T3 N m hm rec sX hr e.ax 0 v hv ha;rw[h5];exact⟨u,h1,h2,h3,λhu=>absurd (arQ h2 hu) h⟩
theorem aci(N:Nat):∀(d:Nat)(e:an)(m:Nat),m<=100000->SizeOf.sizeOf e<d->iZ qS e->Wt m 1 (iZ m e) (uT N d e (m:Int))
 |0,_,_,_,h,_=>absurd h (ar0 _)
 |d+1,e,m,hm,h,hl=>by
  have he:=hl e arE;have h1:e.aM.xL.length<=140737488355328:=he.lin;have h2:e.xIdx.length<=140737488355328:=he.idx;rw[uT,show(1:Int)=((1:Nat):Int)from rfl,yX (by omega),yX (by omega)];obtain⟨u,f1,f2,f3,f4⟩:=U2 N m hm (uT N d) (λx=>SizeOf.sizeOf x<d/\iZ qS x) (λx q hq hx=>aci N d x q (by omega) hx.1 hx.2) e (λx hx=>⟨by have:=gY hx;omega,hl.arg hx⟩) e.xIdx 0 (1+e.aM.xL.length+e.xIdx.length) (by omega) he.each;refine⟨u,f1,by omega,f3,λhu=> ?_⟩;obtain⟨⟨g1,g2⟩,g3⟩:=f4 hu;intro y hy;rcases ar2.1 hy with rfl|hy
  ·exact⟨by omega,by omega,g3,g1⟩
  ·obtain⟨x,hx,hy⟩:=CP hy;exact g2 x hx y hy
structure Jx(d:bR):Prop where
 Ot:d.bI.length<=12
 red:d.cl.length<=12
 ahZ:∀a∈d.bI++d.cl,a.eZ.xL.length<=20
 body:iZ 300 d.cr
structure Ly(p:bp):Prop where
 s:p.bO.length<=12
 w:p.dj.length<=12
 q:p.bA.length<=12
 d:p.aU.length<=12
 o:p.dz.length<=12
 W:∀c∈p.dj,c.aM.xL.length<=20
 P:∀x∈p.bA,x.bI.length<=12/\∀y∈x.bI,y.xL.length<=20
 D:∀d∈p.aU,Jx d
def Bt(Q:Prop)(r:asp Bool):Prop:=∃b,r=some b/\(b=false->Q)
theorem Bt.mono{Q R:Prop}{r:asp Bool}(h:Bt Q r)(f:Q->R):Bt R r:=let ⟨b,h1,h2⟩:=h;⟨b,h1,λe=>f (h2 e)⟩
theorem SQ(n:Nat):decide ((n:Int)>20)= !decide (n<=20):=kP n 20
theorem uy(n:Nat):decide ((n:Int)>12)= !decide (n<=12):=kP n 12
theorem Vk(N:Nat):∀(l:asn aH)(k:Nat),Bt (∀y∈l,y.xL.length<=20) (HR N l k)
 |[],_=>⟨_,rfl,λ_ _ h=>by cases h⟩
 |x::l,k=>by
  rw[HR,SQ];by_cases h:x.xL.length<=20
  ·rw[asf h];refine(Vk N l (k+1)).mono λg y hy=> ?_;rcases ar2.1 hy with rfl|hy
   ·exact h
   ·exact g y hy
  ·rw[asg h];exact⟨true,rfl,λh=>by cases h⟩
theorem aaJ(N:Nat)(d:bR)(c:asp Bool)(Q:Prop)(hc:Bt Q c)(h1:d.bI.length<=12)(h2:d.cl.length<=12):∀(n k:Nat),k<=d.bI.length+d.cl.length->d.bI.length+d.cl.length-k<n->
 Bt (Q/\∀a∈(d.bI++d.cl).drop k,a.eZ.xL.length<=20) (EH N d c n (k:Int))
 |0,k,_,h=>absurd h (ar0 _)
 |n+1,k,hk,h=>by
  rw[EH,yX (by omega)];by_cases hl:k<d.bI.length+d.cl.length
  ·have qm:k<(d.bI++d.cl).length:=by rw[arz];exact hl
   rw[show decide ((k:Int)<((d.bI.length+d.cl.length:Nat):Int))=true from asf (by omega),fI (by omega),fI (by omega),show decide ((0:Int)<=(k:Int))=true from asf (by omega),cond_true,cond_true,cond_true,cond_true,arZ,arC qm,arx,SQ,List.drop_eq_getElem_cons qm,uA (by omega)];by_cases b8:((d.bI++d.cl)[k]).eZ.xL.length<=20
   ·rw[asf b8];refine(aaJ N d c Q hc h1 h2 n (k+1) (by omega) (by omega)).mono fun⟨g1,g2⟩=>⟨g1,λy hy=> ?_⟩;rcases ar2.1 hy with rfl|hy
    ·exact b8
    ·exact g2 y hy
   ·rw[asg b8];exact⟨true,rfl,λh=>by cases h⟩
  ·rw[show decide ((k:Int)<((d.bI.length+d.cl.length:Nat):Int))=false from asg (by omega),cond_false,List.drop_eq_nil_of_le (by rw[arz];omega)];exact hc.mono λg=>⟨g,λ_ h=>by cases h⟩
theorem abg(N m:Nat)(hm:m<=300)(hN:1000<N):∀(l:asn bR)(k:Nat),(∀d∈l,iZ qS d.cr/\SizeOf.sizeOf d.cr<N)->Bt (∀d∈l,Jx d) (Et N (m:Int) l k)
 |[],_,_=>⟨_,rfl,λ_ _ h=>by cases h⟩
 |d::l,k,hd=>by
  obtain⟨d1,d2⟩:=hd d arE;have ih:=abg N m hm hN l (k+1) λy hy=>hd y (arH _ hy);obtain⟨v,w1,w2,w3,w4⟩:=aci N N d.cr m (by omega) d2 d1;rw[Et,uy,uy];unfold Rv;rw[w1,arx,show decide ((v:Int)>(m:Int))= !decide (v<=m)from kP v m];by_cases h1:d.bI.length<=12
  ·rw[asf h1];by_cases h2:d.cl.length<=12
   ·rw[asf h2];by_cases h3:v<=m
    ·rw[asf h3];have:=aaJ N d _ _ ih h1 h2 N 0 (Nat.zero_le _) (by omega);rw[ar7]at this;refine Bt.mono this fun⟨g1,g2⟩ y hy=> ?_;rcases ar2.1 hy with rfl|hy
     ·exact⟨h1,h2,g2,λz hz=>(w4 h3 z hz).mono hm⟩
     ·exact g1 y hy
    ·rw[asg h3];exact⟨true,rfl,λh=>by cases h⟩
   ·rw[asg h2];exact⟨true,rfl,λh=>by cases h⟩
  ·rw[asg h1];exact⟨true,rfl,λh=>by cases h⟩
theorem Xt(N m:Nat)(hm:m<=300)(hN:1000<N)(p:bp)(hd:∀d∈p.aU,iZ qS d.cr/\SizeOf.sizeOf d.cr<N):∀(l:asn dh)(k:Nat),Bt ((∀d∈p.aU,Jx d)/\∀x∈l,x.bI.length<=12/\∀y∈x.bI,y.xL.length<=20) (Ln N (m:Int) p l k)
 |[],_=>(abg N m hm hN p.aU 0 hd).mono λg=>⟨g,λ_ h=>by cases h⟩
 |x::l,k=>by
  obtain⟨b,b1,b2⟩:=Vk N x.bI 0;rw[Ln,uy];unfold S8;rw[b1,arx];by_cases h:x.bI.length<=12
  ·rw[asf h];cases b with
   |true=>exact⟨true,rfl,λh=>by cases h⟩
   |false=>
    refine(Xt N m hm hN p hd l (k+1)).mono fun⟨g1,g2⟩=>⟨g1,λy hy=> ?_⟩;rcases ar2.1 hy with rfl|hy
    ·exact⟨h,b2 rfl⟩
    ·exact g2 y hy
  ·rw[asg h];exact⟨true,rfl,λh=>by cases h⟩
theorem Zp(N m:Nat)(hm:m<=300)(hN:1000<N)(p:bp)(hd:∀d∈p.aU,iZ qS d.cr/\SizeOf.sizeOf d.cr<N):∀(l:asn di)(k:Nat),Bt (((∀d∈p.aU,Jx d)/\∀x∈p.bA,x.bI.length<=12/\∀y∈x.bI,y.xL.length<=20)/\∀c∈l,c.aM.xL.length<=20) (Kt N (m:Int) p l k)
 |[],_=>(Xt N m hm hN p hd p.bA 0).mono λg=>⟨g,λ_ h=>by cases h⟩
 |c::l,k=>by
  rw[Kt,SQ];by_cases h:c.aM.xL.length<=20
  ·rw[asf h];refine(Zp N m hm hN p hd l (k+1)).mono fun⟨g1,g2⟩=>⟨g1,λy hy=> ?_⟩;rcases ar2.1 hy with rfl|hy
   ·exact h
   ·exact g2 y hy
  ·rw[asg h];exact⟨true,rfl,λh=>by cases h⟩
theorem aeX(N m:Nat)(hm:m<=300)(hN:1000<N)(p:bp)(hd:∀d∈p.aU,iZ qS d.cr/\SizeOf.sizeOf d.cr<N):Bt (Ly p) (E3 N p (m:Int)):=by
 unfold E3;rw[uy,uy,uy,uy,uy];by_cases h1:p.bO.length<=12
 ·by_cases h2:p.dj.length<=12
  ·by_cases h3:p.bA.length<=12
   ·by_cases h4:p.aU.length<=12
    ·by_cases h5:p.dz.length<=12
     ·rw[asf h1,asf h2,asf h3,asf h4,asf h5];exact(Zp N m hm hN p hd p.dj 0).mono fun⟨⟨g1,g2⟩,g3⟩=>⟨h1,h2,h3,h4,h5,g3,g2,g1⟩
     ·rw[asf h1,asf h2,asf h3,asf h4,asg h5];exact⟨true,rfl,λh=>by cases h⟩
    ·rw[asf h1,asf h2,asf h3,asg h4];exact⟨true,rfl,λh=>by cases h⟩
   ·rw[asf h1,asf h2,asg h3];exact⟨true,rfl,λh=>by cases h⟩
  ·rw[asf h1,asg h2];exact⟨true,rfl,λh=>by cases h⟩
 ·rw[asg h1];exact⟨true,rfl,λh=>by cases h⟩
def eP{α:Type}(t:α->α->Bool):asn α->asn α->Bool
 |[],[]=>true
 |x::a,y::b=>t x y&&eP t a b
 |_,_=>false
theorem vv{α:Type}(t:α->α->Bool):∀a b:asn α,(a.length==b.length)=false->eP t a b=false
 |[],[],h=>by cases h
 |[],y::b,_=>rfl
 |x::a,[],_=>rfl
 |x::a,y::b,h=>by
  rw[eP,vv t a b (by simpa using h),Bool.and_false]
def tn(x y:bB):Bool:=(bL x.aC==bL y.aC)&&((x.dE.toInt==y.dE.toInt)&&true)
def lg(a b:aH):Bool:=(a.xK.toInt==b.xK.toInt)&&eP tn a.xL b.xL
def fx(a b:aE):Bool:=(a.aO==b.aO)&&((a.bo==b.bo)&&((a.bE==b.bE)&&((a.bN==b.bN)&&((a.bM==b.bM)&&true))))
def rm(a b:aG):Bool:=(a.xN.toInt==b.xN.toInt)&&((a.xD.toInt==b.xD.toInt)&&true)
def nT(a b:aZ):Bool:=(bL a.bS==bL b.bS)&&(lg a.aM b.aM&&eP lg a.bH b.bH)
def se:Nat->an->an->Bool
 |0,_,_=>false
 |d+1,a,b=>(a.ar==b.ar)&&((bL a.aC==bL b.aC)&&(rm a.bD b.bD&&(fx a.ay b.ay&&(lg a.aM b.aM&&(eP nT a.xIdx b.xIdx&&eP (se d) a.ax b.ax)))))
theorem lW{α:Type}{L:asn α}{k:Nat}(h:L.drop k=[]):L.length<=k:=by
 by_cases hk:L.length<=k
 ·exact hk
 ·have:=congrArg List.length h;simp at this;omega
theorem acO(N:Nat)(b:aH):∀(l r:asn bB)(k:Nat),b.xL.drop k=r->l.length=r.length->B6 N b l k=some (eP tn l r)
 |[],[],_,_,_=>rfl
 |[],y::r,_,_,h=>by simp at h
 |x::l,[],_,_,h=>by simp at h
 |x::l,y::r,k,hd,hl=>by
  rw[B6,arZ,ba hd,arx,acO N b l r (k+1) (gk hd) (by simpa using hl)];rw[eP];show(bif tn x y then _ else _)=_;cases tn x y<;>rfl
theorem Ox(N:Nat)(a b:aH):rH N a b=some (lg a b):=by
 unfold rH lg;rw[tH,show(a.xK.toInt !=b.xK.toInt)= !(a.xK.toInt==b.xK.toInt)from rfl];cases a.xK.toInt==b.xK.toInt with
 |false=>rfl
 |true=>
  cases h:a.xL.length==b.xL.length with
  |false=>rw[vv _ _ _ h];rfl
  |true=>exact acO N b a.xL b.xL 0 rfl (beq_iff_eq.1 h)
theorem adb(N:Nat)(L:asn aH):∀(l r:asn aH)(k:Nat),L.drop k=r->l.length=r.length->CO N L l k=some (eP lg l r)
 |[],[],_,_,_=>rfl
 |[],y::r,_,_,h=>by simp at h
 |x::l,[],_,_,h=>by simp at h
 |x::l,y::r,k,hd,hl=>by
  rw[CO,arZ,ba hd,arx,Ox,arx,adb N L l r (k+1) (gk hd) (by simpa using hl)];rw[eP];cases lg x y<;>rfl
theorem ahN(N:Nat)(a b:asn aH):xu N a b=some (eP lg a b):=by
 unfold xu;rw[tH];cases h:a.length==b.length with
 |false=>rw[vv _ _ _ h];rfl
 |true=>exact adb N b a b 0 rfl (beq_iff_eq.1 h)
theorem Yq:∀l r:asn UInt8,(Lib.compareBytes l r==0)=(l==r)
 |[],[]=>rfl
 |[],_::_=>rfl
 |_::_,[]=>rfl
 |a::l,b::r=>by
  rw[Lib.compareBytes,List.cons_beq_cons];by_cases h:a<b
  ·rw[if_pos h,show(a==b)=false from beq_eq_false_iff_ne.2 λe=>by rw[e]at h;exact absurd h (UInt8.lt_irrefl b)];rfl
  ·rw[if_neg h];by_cases h2:b<a
   ·rw[if_pos h2,show(a==b)=false from beq_eq_false_iff_ne.2 λe=>by rw[e]at h2;exact absurd h2 (UInt8.lt_irrefl b)];rfl
   ·rw[if_neg h2,Yq l r,show a=b from UInt8.le_antisymm (UInt8.not_lt.1 h2) (UInt8.not_lt.1 h),ash,Bool.true_and]
def Cz(t:Bool)(r:asp Int):Prop:=∃c,r=some c/\(c==0)=t
theorem Rf(N:Nat)(a b:aso):Cz (bL a==bL b) (F0 N a b):=⟨_,rfl,Yq _ _⟩
theorem tg(N:Nat)(a b:Int):Cz (a==b) (oI N a b):=by
 unfold oI M0;rw[bne_self_eq_false,bne_self_eq_false];simp only[arx,cond_false];by_cases h:a<b
 ·rw[asf h];exact⟨-1,rfl,(beq_eq_false_iff_ne.2 (by omega)).symm⟩
 ·rw[asg h];by_cases h2:a>b
  ·rw[asf h2];exact⟨1,rfl,(beq_eq_false_iff_ne.2 (by omega)).symm⟩
  ·rw[asg h2];exact⟨0,rfl,(beq_iff_eq.2 (by omega)).symm⟩
theorem ZE(N:Nat)(a b:Int64):Cz (a.toInt==b.toInt) (GC N a b):=by
 unfold GC Jg;rw[bne_self_eq_false,bne_self_eq_false];simp only[arx,cond_false];by_cases h:a.toInt<b.toInt
 ·rw[asf h];exact⟨-1,rfl,(beq_eq_false_iff_ne.2 (by omega)).symm⟩
 ·rw[asg h];by_cases h2:a.toInt>b.toInt
  ·rw[asf h2];exact⟨1,rfl,(beq_eq_false_iff_ne.2 (by omega)).symm⟩
  ·rw[asg h2];exact⟨0,rfl,(beq_iff_eq.2 (by omega)).symm⟩
theorem aae(N:Nat)(a b:Int64):Cz (a.toInt==b.toInt) (F1 N a b):=by
 unfold F1;by_cases h:a.toInt<b.toInt
 ·rw[asf h];exact⟨-1,rfl,(beq_eq_false_iff_ne.2 (by omega)).symm⟩
 ·rw[asg h];by_cases h2:a.toInt>b.toInt
  ·rw[asf h2];exact⟨1,rfl,(beq_eq_false_iff_ne.2 (by omega)).symm⟩
  ·rw[asg h2];exact⟨0,rfl,(beq_iff_eq.2 (by omega)).symm⟩
theorem UG(N:Nat):∀(l:asn Int)(k:Nat),Cz (l.all (·==0)) (Ks N l k)
 |[],_=>⟨0,rfl,rfl⟩
 |x::l,k=>by
  rw[Ks,asi];cases h:x==0 with
  |false=>rw[show(x !=0)=true by unfold bne;rw[h];rfl];exact⟨x,rfl,h⟩
  |true=>rw[show(x !=0)=false by unfold bne;rw[h];rfl];exact UG N l (k+1)
theorem o7{c:Int}{t:Bool}(h:(c==0)=t):(c !=0)= !t:=by unfold bne;rw[h]
theorem ap1(N:Nat)(a b:bB):Cz (tn a b) (KX N a b):=by
 unfold KX tn;cases h:bL a.aC==bL b.aC with
 |true=>
  obtain⟨c,e1,e2⟩:=aae N a.dE b.dE;rw[e1];exact⟨c,rfl,by rw[e2];cases a.dE.toInt==b.dE.toInt<;>rfl⟩
 |false=>
  obtain⟨c,e1,e2⟩:=Rf N a.aC b.aC;rw[e1];exact⟨c,rfl,by rw[e2,h];rfl⟩
theorem Yd(N:Nat)(A B:asn bB):∀(l r:asn bB)(k:Nat),k<=A.length->A.drop k=l->B.drop k=r->Cz (eP tn l r) (zM N A B l k)
 |[],[],k,hk,ha,hb=>by
  have h1:=lW ha;have h2:=lW hb;rw[zM,asg (show ¬(A.length:Int)<(B.length:Int) by omega)];exact⟨0,rfl,rfl⟩
 |[],y::r,k,hk,ha,hb=>by
  have h1:=lW ha;have h2:=lu hb;rw[zM,asf (show(A.length:Int)<(B.length:Int) by omega)];exact⟨-1,rfl,rfl⟩
 |x::l,[],k,hk,ha,hb=>by
  have h2:=lW hb;rw[zM,asf (show(k:Int)>=(B.length:Int) by omega)];exact⟨1,rfl,rfl⟩
 |x::l,y::r,k,hk,ha,hb=>by
  have h2:=lu hb;have h3:=lu ha;obtain⟨c,e1,e2⟩:=ap1 N x y;rw[zM,asg (show ¬(k:Int)>=(B.length:Int) by omega),cond_false,arZ,ba hb,arx,e1,arx,o7 e2,eP];cases h:tn x y with
  |false=>rw[h]at e2;exact⟨c,rfl,e2⟩
  |true=>exact Yd N A B l r (k+1) (by omega) (gk ha) (gk hb)
theorem T8(N:Nat)(a b:aH):Cz (lg a b) (Ap N a b):=by
 unfold Ap QE lg;obtain⟨c,e1,e2⟩:=Yd N a.xL b.xL a.xL b.xL 0 (Nat.zero_le _) rfl rfl;rw[e1,arx,o7 e2];cases h:eP tn a.xL b.xL with
 |false=>rw[h]at e2;exact⟨c,rfl,by rw[e2,Bool.and_false]⟩
 |true=>
  obtain⟨c',f1,f2⟩:=aae N a.xK b.xK;rw[f1];exact⟨c',rfl,by rw[f2,Bool.and_true]⟩
theorem adR(N:Nat)(A B:asn aH):∀(l r:asn aH)(k:Nat),k<=A.length->A.drop k=l->B.drop k=r->Cz (eP lg l r) (yL N A B l k)
 |[],[],k,hk,ha,hb=>by
  have h1:=lW ha;have h2:=lW hb;rw[yL,asg (show ¬(A.length:Int)<(B.length:Int) by omega)];exact⟨0,rfl,rfl⟩
 |[],y::r,k,hk,ha,hb=>by
  have h1:=lW ha;have h2:=lu hb;rw[yL,asf (show(A.length:Int)<(B.length:Int) by omega)];exact⟨-1,rfl,rfl⟩
 |x::l,[],k,hk,ha,hb=>by
  have h2:=lW hb;rw[yL,asf (show(k:Int)>=(B.length:Int) by omega)];exact⟨1,rfl,rfl⟩
 |x::l,y::r,k,hk,ha,hb=>by
  have h2:=lu hb;have h3:=lu ha;obtain⟨c,e1,e2⟩:=T8 N x y;rw[yL,asg (show ¬(k:Int)>=(B.length:Int) by omega),cond_false,arZ,ba hb,arx,e1,arx,o7 e2,eP];cases h:lg x y with
  |false=>rw[h]at e2;exact⟨c,rfl,e2⟩
  |true=>exact adR N A B l r (k+1) (by omega) (gk ha) (gk hb)
theorem amu(N:Nat)(a b:asn aH):Cz (eP lg a b) (Ie N a b):=by
 unfold Ie Pr;obtain⟨c,e1,e2⟩:=tg N (a.length:Int) (b.length:Int);rw[nU]at e2;rw[e1,arx,o7 e2];cases h:a.length==b.length with
 |false=>rw[h]at e2;exact⟨c,rfl,by rw[e2,vv _ _ _ h]⟩
 |true=>
  obtain⟨c',f1,f2⟩:=adR N a b a b 0 (Nat.zero_le _) rfl rfl;rw[f1];exact⟨c',rfl,f2⟩
theorem amQ(N:Nat)(a b:aZ):Cz (nT a b) (ND N a b):=by
 unfold ND nT;obtain⟨c,e1,e2⟩:=Rf N a.bS b.bS;obtain⟨c',f1,f2⟩:=T8 N a.aM b.aM;obtain⟨c2,k1,k2⟩:=amu N a.bH b.bH;rw[e1,f1,k1,arx,arx,arx,o7 e2,o7 f2];cases h:bL a.bS==bL b.bS with
 |false=>rw[h]at e2;exact⟨c,rfl,e2⟩
 |true=>
  cases h2:lg a.aM b.aM with
  |false=>rw[h2]at f2;exact⟨c',rfl,f2⟩
  |true=>exact⟨c2,rfl,k2⟩
theorem ZQ(N:Nat)(A B:asn aZ):∀(l r:asn aZ)(k:Nat),k<=A.length->A.drop k=l->B.drop k=r->Cz (eP nT l r) (wZ N A B l k)
 |[],[],k,hk,ha,hb=>by
  have h1:=lW ha;have h2:=lW hb;rw[wZ,asg (show ¬(A.length:Int)<(B.length:Int) by omega)];exact⟨0,rfl,rfl⟩
 |[],y::r,k,hk,ha,hb=>by
  have h1:=lW ha;have h2:=lu hb;rw[wZ,asf (show(A.length:Int)<(B.length:Int) by omega)];exact⟨-1,rfl,rfl⟩
 |x::l,[],k,hk,ha,hb=>by
  have h2:=lW hb;rw[wZ,asf (show(k:Int)>=(B.length:Int) by omega)];exact⟨1,rfl,rfl⟩
 |x::l,y::r,k,hk,ha,hb=>by
  have h2:=lu hb;have h3:=lu ha;obtain⟨c,e1,e2⟩:=amQ N x y;rw[wZ,asg (show ¬(k:Int)>=(B.length:Int) by omega),cond_false,arZ,ba hb,arx,e1,arx,o7 e2,eP];cases h:nT x y with
  |false=>rw[h]at e2;exact⟨c,rfl,e2⟩
  |true=>exact ZQ N A B l r (k+1) (by omega) (gk ha) (gk hb)
theorem aoe(N:Nat)(a b:asn aZ):Cz (eP nT a b) (LI N a b):=by
 unfold LI PZ;obtain⟨c,e1,e2⟩:=tg N (a.length:Int) (b.length:Int);rw[nU]at e2;rw[e1,arx,o7 e2];cases h:a.length==b.length with
 |false=>rw[h]at e2;exact⟨c,rfl,by rw[e2,vv _ _ _ h]⟩
 |true=>
  obtain⟨c',f1,f2⟩:=ZQ N a b a b 0 (Nat.zero_le _) rfl rfl;rw[f1];exact⟨c',rfl,f2⟩
theorem ag6(N:Nat)(a b:aE):Cz (fx a b) (Kq N a b):=by
 unfold Kq Fq fx;obtain⟨c1,e1,f1⟩:=tg N a.aO b.aO;obtain⟨c2,e2,f2⟩:=tg N a.bo b.bo;obtain⟨c3,e3,f3⟩:=tg N a.bE b.bE;obtain⟨c4,e4,f4⟩:=tg N a.bN b.bN;obtain⟨c5,e5,f5⟩:=tg N a.bM b.bM;obtain⟨c,e,f⟩:=UG N [c1,c2,c3,c4,c5] 0;rw[e1,e2,e3,e4,e5];simp only[arx];rw[e];refine⟨c,rfl,?_⟩;rw[f];simp only[asi,List.all_nil,f1,f2,f3,f4,f5]
theorem Wq(N:Nat)(A B:asn an)(rec:an->an->asp Int)(t:an->an->Bool)(hr:∀x∈A,∀y,Cz (t x y) (rec x y)):∀(l r:asn an)(k:Nat),k<=A.length->A.drop k=l->B.drop k=r->Cz (eP t l r) (xz N A B rec l k)
 |[],[],k,hk,ha,hb=>by
  have h1:=lW ha;have h2:=lW hb;rw[xz,asg (show ¬(A.length:Int)<(B.length:Int) by omega)];exact⟨0,rfl,rfl⟩
 |[],y::r,k,hk,ha,hb=>by
  have h1:=lW ha;have h2:=lu hb;rw[xz,asf (show(A.length:Int)<(B.length:Int) by omega)];exact⟨-1,rfl,rfl⟩
 |x::l,[],k,hk,ha,hb=>by
  have h2:=lW hb;rw[xz,asf (show(k:Int)>=(B.length:Int) by omega)];exact⟨1,rfl,rfl⟩
 |x::l,y::r,k,hk,ha,hb=>by
  have h2:=lu hb;have h3:=lu ha;obtain⟨c,e1,e2⟩:=hr x (AW (ba ha)) y;rw[xz,asg (show ¬(k:Int)>=(B.length:Int) by omega),cond_false,arZ,ba hb,arx,e1,arx,o7 e2,eP];cases h:t x y with
  |false=>rw[h]at e2;exact⟨c,rfl,e2⟩
  |true=>exact Wq N A B rec t hr l r (k+1) (by omega) (gk ha) (gk hb)
theorem VR(N:Nat):∀(d:Nat)(a b:an)(D:Nat),SizeOf.sizeOf a<d->3*d<=D->Cz (se d a b) (ud N D a b)
 |0,_,_,_,h,_=>absurd h (ar0 _)
 |d+1,a,b,D,h,hD=>by
  obtain⟨D,rfl⟩:∃k,D=k+3:=⟨D-3,by omega⟩;rw[ud,GR,D7,se];obtain⟨c1,e1,f1⟩:=tg N a.ar b.ar;obtain⟨c2,e2,f2⟩:=Rf N a.aC b.aC;obtain⟨c3,e3,f3⟩:=ZE N a.bD.xN b.bD.xN;obtain⟨c4,e4,f4⟩:=ZE N a.bD.xD b.bD.xD;obtain⟨c5,e5,f5⟩:=ag6 N a.ay b.ay;obtain⟨c6,e6,f6⟩:=T8 N a.aM b.aM;obtain⟨c,e,f⟩:=UG N [c1,c2,c3,c4,c5,c6] 0;obtain⟨c7,e7,f7⟩:=aoe N a.xIdx b.xIdx;obtain⟨c8,e8,f8⟩:=tg N (a.ax.length:Int) (b.ax.length:Int);obtain⟨c9,e9,f9⟩:=Wq N a.ax b.ax (ud N D) (se d) (λx hx y=>VR N d x y D (by have:=gY hx;omega) (by omega)) a.ax b.ax 0 (Nat.zero_le _) rfl rfl;rw[nU]at f8;unfold Fq;rw[e1,e2,e3,e4,e5,e6];simp only[arx];rw[e,e7,e8,e9];simp only[arx];simp only[asi,List.all_nil,f1,f2,f3,f4,f5,f6]at f;rw[o7 f,o7 f7,o7 f8];unfold rm;generalize (a.ar==b.ar)=t1 at*;generalize (bL a.aC==bL b.aC)=t2 at*;generalize (a.bD.xN.toInt==b.bD.xN.toInt)=t3 at*;generalize (a.bD.xD.toInt==b.bD.xD.toInt)=t4 at*;generalize fx a.ay b.ay=t5 at*;generalize lg a.aM b.aM=t6 at*;cases hh:t1&&(t2&&(t3&&(t4&&(t5&&(t6&&true)))))with
  |false=>
   rw[hh]at f;refine⟨c,rfl,?_⟩;rw[f];revert hh;cases t1<;>cases t2<;>cases t3<;>cases t4<;>cases t5<;>cases t6<;>first|(intro _;rfl)|(intro h;cases h)
  |true=>
   have ht:t1=true/\t2=true/\t3=true/\t4=true/\t5=true/\t6=true:=by
    revert hh;cases t1<;>cases t2<;>cases t3<;>cases t4<;>cases t5<;>cases t6<;>first|(intro _;exact⟨rfl,rfl,rfl,rfl,rfl,rfl⟩)|(intro h;cases h)
   obtain⟨rfl,rfl,rfl,rfl,rfl,rfl⟩:=ht;cases h7:eP nT a.xIdx b.xIdx with
   |false=>rw[h7]at f7;exact⟨c7,rfl,f7⟩
   |true=>
    cases h8:a.ax.length==b.ax.length with
    |false=>rw[h8]at f8;exact⟨c8,rfl,by rw[f8,vv _ _ _ h8];rfl⟩
    |true=>exact⟨c9,rfl,by rw[f9];rfl⟩
theorem apE(N:Nat)(a b:aZ):CM N a b=some (nT a b):=by
 unfold CM nT;rw[Ox,ahN,arx,arx];cases bL a.bS==bL b.bS<;>cases lg a.aM b.aM<;>rfl
theorem U9(N:Nat)(L:asn aZ):∀(l r:asn aZ)(k:Nat),L.drop k=r->l.length=r.length->CL N L l k=some (eP nT l r)
 |[],[],_,_,_=>rfl
 |[],y::r,_,_,h=>by simp at h
 |x::l,[],_,_,h=>by simp at h
 |x::l,y::r,k,hd,hl=>by
  rw[CL,arZ,ba hd,arx,apE,arx,U9 N L l r (k+1) (gk hd) (by simpa using hl)];rw[eP];cases nT x y<;>rfl
theorem ake(N:Nat)(a b:asn aZ):CB N a b=some (eP nT a b):=by
 unfold CB;rw[tH];cases h:a.length==b.length with
 |false=>rw[vv _ _ _ h];rfl
 |true=>exact U9 N b a b 0 rfl (beq_iff_eq.1 h)
theorem UP(N:Nat)(L:asn an)(rec:an->an->asp Bool)(t:an->an->Bool):∀(l r:asn an)(k:Nat),(∀x∈l,∀y,rec x y=some (t x y))->L.drop k=r->l.length=r.length->AD N L rec l k=some (eP t l r)
 |[],[],_,_,_,_=>rfl
 |[],y::r,_,_,_,h=>by simp at h
 |x::l,[],_,_,_,h=>by simp at h
 |x::l,y::r,k,hr,hd,hl=>by
  rw[AD,arZ,ba hd,arx,hr x arE,arx,UP N L rec t l r (k+1) (λz hz=>hr z (arH _ hz)) (gk hd) (by simpa using hl)];rw[eP];cases t x y<;>rfl
theorem Yp(N:Nat):∀(d:Nat)(a b:an)(D:Nat),SizeOf.sizeOf a<d->3*d<=D->tq N D a b=some (se d a b)
 |0,_,_,_,h,_=>absurd h (ar0 _)
 |d+1,a,b,D,h,hD=>by
  obtain⟨D,rfl⟩:∃k,D=k+2:=⟨D-2,by omega⟩;have ha:xm N (D+1) a.ax b.ax=some (eP (se d) a.ax b.ax):=by
   rw[xm,tH];cases h8:a.ax.length==b.ax.length with
   |false=>rw[vv _ _ _ h8];rfl
   |true=>exact UP N b.ax _ (se d) a.ax b.ax 0 (λx hx y=>Yp N d x y D (by have:=gY hx;omega) (by omega)) rfl (beq_iff_eq.1 h8)
  rw[tq,ha,Ox,ake,se];rw[show((a.bD.xN.toInt==b.bD.xN.toInt)&&((a.bD.xD.toInt==b.bD.xD.toInt)&&true))=rm a.bD b.bD from rfl,show((a.ay.aO==b.ay.aO)&&((a.ay.bo==b.ay.bo)&&((a.ay.bE==b.ay.bE)&&((a.ay.bN==b.ay.bN)&&((a.ay.bM==b.ay.bM)&&true)))))=fx a.ay b.ay from rfl];cases a.ar==b.ar<;>cases bL a.aC==bL b.aC<;>cases rm a.bD b.bD<;>cases fx a.ay b.ay<;>cases lg a.aM b.aM<;>cases eP nT a.xIdx b.xIdx<;>rfl
end Go.Proofs.YtdchibpnjpnkoaaGreatDoor
