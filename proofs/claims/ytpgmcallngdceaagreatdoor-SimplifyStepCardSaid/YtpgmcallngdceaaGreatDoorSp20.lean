/-
  Part 20 of the proof: PAll, ValNames, ValNode, SmV, LinP, ValTree, ValTree2, ValidLaw, InVal1, InVal2, InLin, InLin2, InLin3, InVal3, InVal4, CpE, Wts, Eqs, SmE, SmR, SmS, SmVR.
-/
import Derived.Test.YtpgmcallngdceaaGreatDoorSp19
import Derived.Laws.Bits64
namespace Go.Proofs.YtpgmcallngdceaaGreatDoor
open Go.RowKit
theorem Cb(b:akc)(i:Nat):b[i]?=(bL b)[i]?:=by
 unfold bL;rw[ajK];by_cases h:i<b.size
 ·rw[getElem?_pos b i h,ajJ (xs:=b.data) (by exact h)];rfl
 ·rw[getElem?_neg b i h,Array.getElem?_eq_none (xs:=b.data) (by exact Nat.le_of_not_lt h)]
theorem p5(b:akc):b.size=(bL b).length:=by unfold bL;rw[ajU];rfl
theorem IE{i:Nat}(h:i<9223372036854775807):aS ((i:Int)+1)=((i+1:Nat):Int):=by
 unfold aS;rw[IntKind.wrap_i64]<;>omega
def ly(c:UInt8):Bool:=decide (97≤c.toNat)&&decide (c.toNat≤122)
def gZ(c:UInt8):Bool:=ly c||(decide (48≤c.toNat)&&decide (c.toNat≤57))||c.toNat==95
def sV(l:akb UInt8):Bool:=lQ.any fun w=>bL w==l
def GD(l:akb UInt8):Bool:=decide (1≤l.length)&&(decide (l.length≤16)&&(!sV l&&((l.take 1).all ly&&l.all gZ)))
def nameB(s:akc):Bool:=GD (bL s)
theorem PA(c:UInt8):IntKind.i32.wrap (c.toNat:Int)=(c.toNat:Int):=by
 have:=c.toNat_lt;rw[IntKind.wrap_i32]<;>omega
theorem kW{p q:Prop} [Decidable p] [Decidable q](h:p↔q):decide p=decide q:=decide_eq_decide.2 h
theorem dp(a b:Bool):(bif a then some b else some false)=some (a&&b):=by cases a<;>rfl
theorem ik(a b:Bool):(bif a then some true else some b)=some (a||b):=by cases a<;>rfl
theorem PZ(N:Nat)(c:UInt8):xu N (c.toNat:Int)=some (ly c):=by
 unfold xu ly;rw[dp,ajm,kW (q:=97≤c.toNat) (by omega),kW (p:=(c.toNat:Int)≤122) (q:=c.toNat≤122) (by omega)]
theorem af1(N:Nat)(c:UInt8):D9 N (c.toNat:Int)=some (decide (48≤c.toNat)&&decide (c.toNat≤57)):=by
 unfold D9;rw[dp,ajm,kW (q:=48≤c.toNat) (by omega),kW (p:=(c.toNat:Int)≤57) (q:=c.toNat≤57) (by omega)]
theorem lY(n k:Nat):((n:Int)==(k:Int))=(n==k):=by
 rw[Bool.eq_iff_iff,beq_iff_eq,beq_iff_eq];omega
theorem Xi(N:Nat)(c:UInt8):EB N (c.toNat:Int)=some (gZ c):=by
 unfold EB gZ;rw[PZ,ajm,af1,ajm];have:=lY c.toNat 95;rw[show(((c.toNat:Int)==(95:Int)))=(c.toNat==95)from this];rw[ik,ik,ajm,Bool.or_assoc]
theorem Sn(N:Nat)(s:akc)(hs:s.size<9223372036854775807):∀(k i:Nat),i≤s.size→s.size-i<k→yM N s k (i:Int)=some ((i+(((bL s).drop i).takeWhile gZ).length:Nat):Int)
 |0,i,_,hk=>absurd hk (ajP _)
 |k+1,i,hi,hk=>by
  rw[yM];by_cases aX:i<s.size
  ·have h1:decide ((i:Int)<(s.size:Int))=true:=aj4 (by omega);have h2:decide ((0:Int)≤(i:Int))=true:=aj4 (by omega);rw[h1,h2];simp only[cond_true,ajO];have hl:i<(bL s).length:=by rw[←p5];exact aX
   rw[Cb,ajr hl,List.drop_eq_getElem_cons hl,ajm,PA,Xi,ajm,ajm];cases hw:gZ (bL s)[i]with
   |true=>
    simp only[cond_true];rw[IE (Nat.lt_trans aX hs),Sn N s hs k (i+1) aX (by omega),List.takeWhile_cons_of_pos hw,ajq]
    congr 2;omega
   |false=>
    simp only[cond_false];rw[List.takeWhile_cons_of_neg (by rw[hw];simp)];rfl
  ·have h1:decide ((i:Int)<(s.size:Int))=false:=aj5 (by omega);rw[h1];simp only[cond_false,ajm];rw[List.drop_eq_nil_of_le (by rw[←p5];omega)];rfl
theorem ad8(N:Nat)(s:akc)(hs:s.size<9223372036854775807)(hN:s.size<N):DQ N s=some ((((bL s).takeWhile gZ).length:Nat):Int):=by
 unfold DQ;have:=Sn N s hs N 0 (Nat.zero_le _) (by omega);rw[ajW,ajH]at this;exact this
theorem P0{α:Type}(p:α→Bool):∀l:akb α,((l.takeWhile p).length==l.length)=l.all p
 |[]=>rfl
 |x::l=>by
  cases h:p x with
  |true=>
   rw[List.takeWhile_cons_of_pos h,aj7,h,Bool.true_and,←P0 p l];simp
  |false=>rw[List.takeWhile_cons_of_neg (by rw[h];simp),aj7,h];simp
theorem SX(N:Nat)(v:akc):∀(l:akb akc)(k:Nat),∃z:Int,u9 N v l k=some z∧decide (z≥0)=l.any fun w=>bL w==bL v
 |[],k=>⟨-1,rfl,rfl⟩
 |w::l,k=>by
  rw[u9,aj8];have hc:(bL v==bL w)=(bL w==bL v):=by rw[Bool.eq_iff_iff,beq_iff_eq,beq_iff_eq];exact eq_comm
  cases h:bL v==bL w with
  |true=>rw[hc]at h;exact⟨k,rfl,by rw[h,Bool.true_or];exact aj4 (by omega)⟩
  |false=>
   obtain⟨z,h1,h2⟩:=SX N v l (k+1);rw[hc]at h;exact⟨z,h1,by rw[h,Bool.false_or];exact h2⟩
theorem XH(N:Nat)(v:akc):Ci N v=some (sV (bL v)):=by
 unfold Ci OX Gk Fq;obtain⟨z,h1,h2⟩:=SX N v lQ 0;rw[ajm,h1,ajm,ajm,h2];rfl
theorem JO{α:Type}{l:akb α}(h:0<l.length):l.take 1=[l[0]]:=by
 cases l with
 |nil=>cases h
 |cons x l=>rfl
theorem vG:bL (bs [])=[]:=rfl
theorem RQ(N:Nat)(s:akc)(hN:16<N):Ar N s=some (nameB s):=by
 unfold Ar nameB GD;have hz:=p5 s;by_cases h0:(bL s).length=0
 ·have:bL s=[]:=List.length_eq_zero_iff.1 h0;rw[this];rfl
 have cu:(bL s==bL (bs []))=false:=by
  rw[vG,beq_eq_false_iff_ne];intro h;rw[h]at h0;exact h0 rfl
 rw[cu,aj4 (show 1≤(bL s).length by omega),Bool.true_and];simp only[cond_false];by_cases aM:(bL s).length≤16
 ·rw[aj4 (show(s.size:Int)≤16 by omega),aj4 aM,Bool.true_and];simp only[cond_true];have hl:0<(bL s).length:=by omega
  rw[Cb,ajr hl,ajm,PA,PZ,ajm,ad8 N s (by omega) (by omega),ajm,XH,ajm];rw[hz,lY,P0];have ht:(bL s).take 1=[(bL s)[0]]:=JO hl;rw[ht,aj7,List.all_nil,Bool.and_true,dp,dp,ajm]
  congr 1
  cases sV (bL s)<;>cases ly (bL s)[0]<;>cases (bL s).all gZ<;>rfl
 ·rw[aj5 (show ¬(s.size:Int)≤16 by omega),aj5 aM];rfl
theorem X7(N:Nat)(b:Bool):fR N b=some b:=by cases b<;>rfl
theorem afw(a b:Bool):(bif a then some a else some b)=some (a||b):=by cases a<;>rfl
theorem aiM(a b:akb UInt8):(a==b)=(b==a):=by rw[Bool.eq_iff_iff,beq_iff_eq,beq_iff_eq];exact eq_comm
theorem ZN(N:Nat)(v:akc):Dh N v=some (sV (bL v)):=by
 simp only[Dh,X7,afw,sV,lQ,aj8,List.any_nil,Bool.or_false,aiM (bL v)]
theorem Dz(n k:Nat):decide ((n:Int)<(k:Int))= !decide (k≤n):=by
 by_cases h:k≤n
 ·rw[aj4 h,aj5 (by omega)];rfl
 ·rw[aj5 h,aj4 (by omega)];rfl
theorem ru(n k:Nat):decide ((n:Int)>(k:Int))= !decide (n≤k):=by
 by_cases h:n≤k
 ·rw[aj4 h,aj5 (by omega)];rfl
 ·rw[aj5 h,aj4 (by omega)];rfl
theorem WE(n k:Nat):decide ((n:Int)≥(k:Int))=decide (k≤n):=kW (by omega)
theorem le_dec(n k:Nat):decide ((n:Int)≤(k:Int))=decide (n≤k):=kW (by omega)
theorem VK(n k:Nat):((n:Int) !=(k:Int))= !(n==k):=by unfold bne;rw[lY]
theorem ahe(c:UInt8):(bif (decide ((c.toNat:Int)<(97:Int)))then(bif (decide ((c.toNat:Int)<(48:Int)))then some ((c.toNat:Int) !=(95:Int))else(bif (decide ((c.toNat:Int)>(57:Int)))then some ((c.toNat:Int) !=(95:Int))else some false))else(bif (decide ((c.toNat:Int)>(122:Int)))then(bif (decide ((c.toNat:Int)<(48:Int)))then some ((c.toNat:Int) !=(95:Int))else(bif (decide ((c.toNat:Int)>(57:Int)))then some ((c.toNat:Int) !=(95:Int))else some false))else some false))=some (!gZ c):=by
 have a1:=Dz c.toNat 97;have a2:=Dz c.toNat 48;have a3:=ru c.toNat 57;have a4:=ru c.toNat 122;have a5:=VK c.toNat 95;simp only[Int.cast_ofNat_Int]at a1 a2 a3 a4 a5;rw[a1,a2,a3,a4,a5];unfold gZ ly;cases decide (97≤c.toNat)<;>cases decide (48≤c.toNat)<;>cases decide (c.toNat≤57)<;>cases decide (c.toNat≤122)<;>cases (c.toNat==95)<;>rfl
theorem RZ(N:Nat)(s:akc)(hs:s.size<9223372036854775807):∀(k i:Nat),i≤s.size→s.size-i<k→xe N s k (i:Int)=some (((bL s).drop i).all gZ)
 |0,i,_,hk=>absurd hk (ajP _)
 |k+1,i,hi,hk=>by
  rw[xe];by_cases aX:i<s.size
  ·have h1:decide ((i:Int)<(s.size:Int))=true:=aj4 (by omega);have h2:decide ((0:Int)≤(i:Int))=true:=aj4 (by omega);rw[h1,h2];simp only[cond_true,ajO];have hl:i<(bL s).length:=by rw[←p5];exact aX
   rw[Cb,ajr hl,List.drop_eq_getElem_cons hl,ajm,ahe,ajm,aj7];cases hw:gZ (bL s)[i]with
   |true=>
    simp only[Bool.not_true,cond_false,Bool.true_and];rw[IE (Nat.lt_trans aX hs),RZ N s hs k (i+1) aX (by omega)]
   |false=>rfl
  ·have h1:decide ((i:Int)<(s.size:Int))=false:=aj5 (by omega);rw[h1];simp only[cond_false];rw[List.drop_eq_nil_of_le (by rw[←p5];omega)];rfl
theorem aeA(N:Nat)(s:akc)(hN:16<N):CH N s=some (nameB s):=by
 unfold CH nameB GD;have hz:=p5 s;have a1:=Dz s.size 1;have a2:=ru s.size 16;simp only[Int.cast_ofNat_Int]at a1 a2;rw[a1,a2,hz];cases h1:decide (1≤(bL s).length)with
 |false=>rfl
 |true=>
  cases aM:decide ((bL s).length≤16)with
  |false=>rfl
  |true=>
   have ox:=of_decide_eq_true h1;have Yn:=of_decide_eq_true aM;have hl:0<(bL s).length:=by omega
   simp only[Bool.not_true,cond_false,Bool.true_and];rw[ZN,ajm,Cb,ajr hl,ajm];have b1:=Dz (bL s)[0].toNat 97;have b2:=ru (bL s)[0].toNat 122;simp only[Int.cast_ofNat_Int]at b1 b2;rw[b1,b2,ik,ik,ajm,JO hl];have:=RZ N s (by omega) N 0 (Nat.zero_le _) (by omega);rw[ajW]at this;rw[show xe N s N 0=_ from this,aj7,List.all_nil,Bool.and_true];unfold ly;cases sV (bL s)<;>cases decide (97≤(bL s)[0].toNat)<;>cases decide ((bL s)[0].toNat≤122)<;>rfl
theorem WS(N:Nat)(v:akc):∀(l:akb akc)(k:Nat),wc N v l k=some (l.any fun w=>bL w==bL v)
 |[],_=>rfl
 |w::l,k=>by
  rw[wc,aj8,WS N v l (k+1)];cases bL w==bL v<;>rfl
theorem afk(c:UInt8)(z:Bool):(bif (decide ((c.toNat:Int)≥(97:Int)))then(bif (decide ((c.toNat:Int)≤(122:Int)))then some (!true)else(bif z then(bif (decide ((c.toNat:Int)≥(48:Int)))then(bif (decide ((c.toNat:Int)≤(57:Int)))then some (!true)else some (!((c.toNat:Int)==(95:Int))))else some (!((c.toNat:Int)==(95:Int))))else some (!false)))else(bif z then(bif (decide ((c.toNat:Int)≥(48:Int)))then(bif (decide ((c.toNat:Int)≤(57:Int)))then some (!true)else some (!((c.toNat:Int)==(95:Int))))else some (!((c.toNat:Int)==(95:Int))))else some (!false)))=some (!(bif z then gZ c else ly c)):=by
 have a1:=WE c.toNat 97;have a2:=WE c.toNat 48;have a3:=le_dec c.toNat 57;have a4:=le_dec c.toNat 122;have a5:=lY c.toNat 95;simp only[Int.cast_ofNat_Int]at a1 a2 a3 a4 a5;rw[a1,a2,a3,a4,a5];unfold gZ ly;cases decide (97≤c.toNat)<;>cases decide (48≤c.toNat)<;>cases decide (c.toNat≤57)<;>cases decide (c.toNat≤122)<;>cases (c.toNat==95)<;>cases z<;>rfl
theorem RI(N:Nat)(s:akc)(hs:s.size<9223372036854775807):∀(k i:Nat),i≤s.size→s.size-i<k→wJ N s k (i:Int)=some (bif decide (i>0)then((bL s).drop i).all gZ else((bL s).take 1).all ly&&((bL s).drop 1).all gZ)
 |0,i,_,hk=>absurd hk (ajP _)
 |k+1,i,hi,hk=>by
  rw[wJ];by_cases aX:i<s.size
  ·have h1:decide ((i:Int)<(s.size:Int))=true:=aj4 (by omega);have h2:decide ((0:Int)≤(i:Int))=true:=aj4 (by omega);rw[h1,h2];simp only[cond_true,ajO];have hl:i<(bL s).length:=by rw[←p5];exact aX
   rw[Cb,ajr hl,ajm,afk,ajm];rw[IE (Nat.lt_trans aX hs),RI N s hs k (i+1) aX (by omega),aj4 (show i+1>0 by omega)];simp only[cond_true];by_cases h0:i=0
   ·subst h0;rw[aj5 (show ¬((0:Nat):Int)>0 by omega),aj5 (show ¬0>0 by omega)];simp only[cond_false];rw[JO hl,aj7,List.all_nil,Bool.and_true];cases ly (bL s)[0]<;>rfl
   ·rw[aj4 (show(i:Int)>0 by omega),aj4 (show i>0 by omega)];simp only[cond_true];rw[List.drop_eq_getElem_cons hl,aj7];cases gZ (bL s)[i]<;>rfl
  ·have h1:decide ((i:Int)<(s.size:Int))=false:=aj5 (by omega);rw[h1];simp only[cond_false];have hn:(bL s).drop i=[]:=List.drop_eq_nil_of_le (by rw[←p5];omega);by_cases h0:i=0
   ·subst h0;rw[ajW]at hn;rw[hn];rfl
   ·rw[aj4 (show i>0 by omega),hn];rfl
theorem Me(N:Nat)(s:akc)(hN:16<N):vU N s=some (nameB s):=by
 unfold vU nameB GD;have hz:=p5 s;have a1:=Dz s.size 1;have a2:=ru s.size 16;simp only[Int.cast_ofNat_Int]at a1 a2;rw[a1,a2,hz];cases h1:decide (1≤(bL s).length)with
 |false=>rfl
 |true=>
  cases aM:decide ((bL s).length≤16)with
  |false=>rfl
  |true=>
   have ox:=of_decide_eq_true h1;have Yn:=of_decide_eq_true aM;have hl:0<(bL s).length:=by omega
   simp only[Bool.not_true,cond_false,Bool.true_and];have hh:∀l,Gx N l s=some (l.any fun w=>bL w==bL s):=fun l=>WS N s l 0;unfold Gu;rw[ajm,hh,ajm,ajm];have:=RI N s (by omega) N 0 (Nat.zero_le _) (by omega);rw[show wJ N s N 0=_ from this];show(bif sV (bL s)then some false else some (((bL s).take 1).all ly&&((bL s).drop 1).all gZ))=_;have hw:(bL s).all gZ=(gZ (bL s)[0]&&((bL s).drop 1).all gZ):=by
    have hd:bL s=(bL s)[0]::(bL s).drop 1:=by
     have:=List.drop_eq_getElem_cons hl
     rwa [ajW]at this
    rw[←aj7,←hd]
   rw[hw,JO hl,aj7,List.all_nil,Bool.and_true];unfold gZ;cases sV (bL s)<;>cases ly (bL s)[0]<;>simp
def cO(t:aD):Bool:=
 bif t.a8==1||t.a8==3 then t.bz==0&&(t.bE==0&&(t.bK==0&&t.bI==0))
 else t.a8==2&&(decide (2≤t.bz)&&(decide (t.bz≤31)&&(decide (0≤t.bE)&&(decide (t.bE≤30)&&(decide (1≤t.bK)&&(decide (t.bK≤4)&&(t.bI==1||t.bI==2)))))))
theorem Zu(a:Bool):(bif a then some true else some false)=some a:=by cases a<;>rfl
theorem Nz(a b:Int):decide (a<b)= !decide (b≤a):=by
 by_cases h:b≤a
 ·rw[aj4 h,aj5 (by omega)];rfl
 ·rw[aj5 h,aj4 (by omega)];rfl
theorem By(a b:Int):decide (a>b)= !decide (a≤b):=Nz b a
theorem kI(a b:Int):decide (a≥b)=decide (b≤a):=rfl
theorem fu(a b:Int):(a !=b)= !(a==b):=rfl
theorem sf(N:Nat)(t:aD):lB N t=some (cO t):=by
 unfold lB cO;simp only[ik,dp,ajm,kI];cases (t.a8==1||t.a8==3)<;>rfl
theorem J9(N:Nat)(t:aD)(h:(t.a8==2)=true):q8 N t=some (bif (decide (2≤t.bz)&&(decide (t.bz≤31)&&(decide (0≤t.bE)&&(decide (t.bE≤30)&&(decide (1≤t.bK)&&(decide (t.bK≤4)&&(t.bI==1||t.bI==2)))))))then 0 else 10):=by
 unfold q8;simp only[ik,dp,ajm,kI,By,fu,h,Bool.not_true,Bool.false_or];cases decide (2≤t.bz)<;>cases decide (t.bz≤31)<;>cases decide (0≤t.bE)<;>cases decide (t.bE≤30)<;>cases decide (1≤t.bK)<;>cases decide (t.bK≤4)<;>cases t.bI==1<;>cases t.bI==2<;>rfl
theorem od(N:Nat)(t:aD):lR N t=some (bif cO t then 0 else 10):=by
 unfold lR CX cO FV;cases h1:t.a8==1 with
 |true=>
  simp only[cond_true,ajm,aj6,Bool.true_and,Bool.true_or,Bool.and_true];cases (t.bz==0&&(t.bE==0&&(t.bK==0&&t.bI==0)))<;>rfl
 |false=>
  cases h3:t.a8==3 with
  |true=>
   simp only[cond_true,cond_false,ajm,aj6,Bool.true_and,Bool.or_true,Bool.and_true];cases (t.bz==0&&(t.bE==0&&(t.bK==0&&t.bI==0)))<;>rfl
  |false=>
   cases h2:t.a8==2 with
   |true=>
    rw[J9 N t h2];simp only[cond_true,cond_false,ajm,Bool.true_and,Bool.or_false];cases (decide (2≤t.bz)&&(decide (t.bz≤31)&&(decide (0≤t.bE)&&(decide (t.bE≤30)&&(decide (1≤t.bK)&&(decide (t.bK≤4)&&(t.bI==1||t.bI==2)))))))<;>rfl
   |false=>rfl
def qV:akd akc→akb aU→Bool
 |_,[]=>true
 |p,m::l=>nameB m.aV&&(!(m.cH.toInt==0)&&((match p with|none=>true|some q=>Op.bytesLess (bL q) (bL m.aV))&&qV (some m.aV) l))
theorem Na(p:akd akc)(m:aU)(l:akb aU):qV p (m::l)=(nameB m.aV&&(!(m.cH.toInt==0)&&((match p with|none=>true|some q=>Op.bytesLess (bL q) (bL m.aV))&&qV (some m.aV) l))):=by cases p<;>rfl
def dM(x:aF):Bool:=qV none x.xL
def qy(x:aF)(k:Nat):akd akc:=bif k==0 then none else(x.xL[k-1]?).map (·.aV)
theorem af3{k:Nat}(h0:0<k)(h:k≤maxLen):aS ((k:Int)-1)=((k-1:Nat):Int):=by
 unfold aS;have:(k:Int)-1=((k-1:Nat):Int):=by omega
 rw[this];unfold maxLen at h;rw[IntKind.wrap_i64]<;>omega
theorem Up{x:aF}{k:Nat}{m:aU}{l:akb aU}(hd:x.xL.drop k=m::l):qy x (k+1)=some m.aV:=by
 have:=cd hd;unfold qy;simp [this]
theorem RR{x:aF}{k:Nat}{m:aU}{l:akb aU}(hd:x.xL.drop k=m::l)(hm:x.xL.length≤maxLen):
 (bif (decide ((k:Int)>(0:Int)))then bif (decide ((0:Int)≤(aS ((k:Int)-(1:Int)))))then
 Option.bind (x.xL[((aS ((k:Int)-(1:Int)))).toNat]?) fun v7=>
 some (!(Op.bytesLess (bL v7.aV) (bL m.aV)))
 else none else some false)=some (!(match qy x k with|none=>true|some q=>Op.bytesLess (bL q) (bL m.aV))):=by
 have aX:k<x.xL.length:=(ajn.1 (cd hd)).1;by_cases h0:k=0
 ·subst h0;rfl
 ·rw[aj4 (show(k:Int)>0 by omega),af3 (by omega) (by omega),aj4 (show(0:Int)≤((k-1:Nat):Int) by omega)];simp only[cond_true,ajO];have hp:qy x k=(x.xL[k-1]?).map (·.aV):=by
    unfold qy;rw[beq_false_of_ne h0];rfl
  rw[hp,ajr (show k-1<x.xL.length by omega)];rfl
theorem Qp(N:Nat)(hN:16<N)(x:aF)(hm:x.xL.length≤maxLen):∀(l:akb aU)(k:Nat),x.xL.drop k=l→xd N x l k=some (bif qV (qy x k) l then 0 else 1)
 |[],k,_=>rfl
 |m::l,k,hd=>by
  rw[xd,aeA N m.aV hN,ajm,Na,RR hd hm,Qp N hN x hm l (k+1) (ju hd),Up hd];generalize (match qy x k with|none=>true|some q=>Op.bytesLess (bL q) (bL m.aV))=b;cases nameB m.aV<;>cases (m.cH.toInt==0)<;>cases b<;>cases qV (some m.aV) l<;>rfl
theorem GG(N:Nat)(hN:16<N)(x:aF)(hm:x.xL.length≤maxLen):vr N x=some (bif dM x then 0 else 1):=Qp N hN x hm x.xL 0 rfl
theorem U8(N:Nat)(hN:16<N)(x:aF)(hm:x.xL.length≤maxLen):∀(l:akb aU)(k:Nat),x.xL.drop k=l→wW N x l k=some (qV (qy x k) l)
 |[],k,_=>rfl
 |m::l,k,hd=>by
  rw[wW,Me N m.aV hN,ajm,Na,RR hd hm,U8 N hN x hm l (k+1) (ju hd),Up hd];generalize (match qy x k with|none=>true|some q=>Op.bytesLess (bL q) (bL m.aV))=b;cases nameB m.aV<;>cases (m.cH.toInt==0)<;>cases b<;>cases qV (some m.aV) l<;>rfl
theorem Jq(N:Nat)(hN:16<N)(x:aF)(hm:x.xL.length≤maxLen):tS N x=some (dM x):=U8 N hN x hm x.xL 0 rfl
def cW(t:aD)(v:ay):Bool:=
 bif t.a8==2 then v.xD.toInt==1&&(decide (-(2^(t.bz-1).toNat)≤v.xN.toInt)&&decide (v.xN.toInt<2^(t.bz-1).toNat))
 else decide (v.xN.toInt≤2147483647)&&(decide (-2147483647≤v.xN.toInt)&&(decide (1≤v.xD.toInt)&&(decide (v.xD.toInt≤2147483647)&&
  (bif t.a8==3 then v.xD.toInt==1 else Nat.gcd v.xN.toInt.natAbs v.xD.toInt.toNat==1))))
theorem afq:∀n:Fin 30,(decide ((0:Int)≤(IntKind.u64.wrap (aS (((n.val+2:Nat):Int)-(1:Int))))))=true∧(decide ((0:Int)≤(aS (((n.val+2:Nat):Int)-(1:Int)))))=true∧
 (-(Int64.ofInt ((1:Int)*2^(min ((IntKind.u64.wrap (aS (((n.val+2:Nat):Int)-(1:Int))))).toNat (IntKind.bits .i64))))).toInt= -(2^(n.val+1))∧
 ((Int64.ofInt ((1:Int)*2^(min ((IntKind.u64.wrap (aS (((n.val+2:Nat):Int)-(1:Int))))).toNat (IntKind.bits .i64))))-(1:Int64)).toInt=2^(n.val+1)-1∧
 (-(Int64.ofInt ((1:Int)*2^(min ((aS (((n.val+2:Nat):Int)-(1:Int)))).toNat (IntKind.bits .i64))))).toInt= -(2^(n.val+1))∧
 (Int64.ofInt ((1:Int)*2^(min ((aS (((n.val+2:Nat):Int)-(1:Int)))).toNat (IntKind.bits .i64)))).toInt=2^(n.val+1):=by decide+kernel
theorem FX{b:Int}(h1:2≤b)(h2:b≤31):(decide ((0:Int)≤(IntKind.u64.wrap (aS (b-(1:Int))))))=true∧(decide ((0:Int)≤(aS (b-(1:Int)))))=true∧
 (-(Int64.ofInt ((1:Int)*2^(min ((IntKind.u64.wrap (aS (b-(1:Int))))).toNat (IntKind.bits .i64))))).toInt= -(2^(b-1).toNat)∧
 ((Int64.ofInt ((1:Int)*2^(min ((IntKind.u64.wrap (aS (b-(1:Int))))).toNat (IntKind.bits .i64))))-(1:Int64)).toInt=2^(b-1).toNat-1∧
 (-(Int64.ofInt ((1:Int)*2^(min ((aS (b-(1:Int)))).toNat (IntKind.bits .i64))))).toInt= -(2^(b-1).toNat)∧
 (Int64.ofInt ((1:Int)*2^(min ((aS (b-(1:Int)))).toNat (IntKind.bits .i64)))).toInt=2^(b-1).toNat:=by
 obtain⟨n,rfl⟩:∃n:Nat,b=n:=⟨b.toNat,by omega⟩;have:=afq ⟨n-2,by omega⟩;simp only[show n-2+2=n by omega,show n-2+1=n-1 by omega]at this;rw[show((n:Int)-1).toNat=n-1 by omega];exact this
theorem Hw(N:Nat):∀(k a b:Nat),b<k→zf N k (a:Int) (b:Int)=some ((Nat.gcd a b:Nat):Int)
 |0,a,b,h=>absurd h (ajP _)
 |k+1,a,b,h=>by
  rw[zf];by_cases h0:b=0
  ·subst h0;simp
  ·rw[show(((b:Nat):Int) !=(0:Int))=true by rw[bne_iff_ne];omega];simp only[cond_true];rw[←Int.ofNat_tmod,Hw N k b (a%b) (by have:=Nat.mod_lt a (Nat.pos_of_ne_zero h0);omega)];rw[Nat.gcd_comm a b,Nat.gcd_rec b a,Nat.gcd_comm]
theorem Sw(N:Nat):∀(k:Nat)(a b:Int64),0≤a.toInt→0≤b.toInt→b.toInt.toNat<k→∃g:Int64,yK N k a b=some g∧g.toInt=((Nat.gcd a.toInt.toNat b.toInt.toNat:Nat):Int)
 |0,a,b,_,_,h=>absurd h (ajP _)
 |k+1,a,b,ha,hb,h=>by
  rw[yK];by_cases h0:b.toInt=0
  ·rw[h0];refine⟨a,rfl,?_⟩;show a.toInt=((Nat.gcd a.toInt.toNat 0:Nat):Int);rw[Nat.gcd_zero_right];omega
  ·rw[show(b.toInt !=(0:Int))=true by rw[bne_iff_ne];exact h0];simp only[cond_true];obtain⟨x,hx⟩:∃x:Nat,a.toInt=x:=⟨a.toInt.toNat,by omega⟩;obtain⟨y,hy⟩:∃y:Nat,b.toInt=y:=⟨b.toInt.toNat,by omega⟩;rw[hx,hy];have hyp:0<y:=by omega
   have hm:(x:Int).tmod (y:Int)=((x%y:Nat):Int):=(Int.ofNat_tmod x y).symm;have aX:=Nat.mod_lt x hyp;have jM:b.toInt<2^63:=Int64.toInt_lt b;have kj:(Int64.ofInt ((x%y:Nat):Int)).toInt=((x%y:Nat):Int):=by
    rw[Int64.toInt_ofInt_of_le]
    ·omega
    ·omega
   rw[hm];obtain⟨g,h1,h2⟩:=Sw N k b (Int64.ofInt ((x%y:Nat):Int)) hb (by rw[kj];omega) (by rw[kj];omega);refine⟨g,h1,?_⟩;rw[h2,kj,hy];simp only[ajO];rw[Nat.gcd_comm x y,Nat.gcd_rec y x,Nat.gcd_comm]
theorem jF(z:Int):IntKind.u64.wrap z=z%18446744073709551616:=rfl
theorem Es(N:Nat)(v:Int64):uA N v=some ((v.toInt.natAbs:Nat):Int):=by
 unfold uA;have h1:v.toInt<2^63:=Int64.toInt_lt v;have h2: -2^63≤v.toInt:=Int64.le_toInt v;by_cases h:v.toInt<0
 ·rw[aj4 h];simp only[cond_true,jF]
  congr 1
  omega
 ·rw[aj5 h];simp only[cond_false,jF]
  congr 1
  omega
theorem ta(N:Nat)(hN:2147483648<N)(t:aD)(v:ay)(ht:cO t=true):mq N t v=some (cW t v):=by
 unfold mq;rw[od,ht,ajm];unfold cW;cases h2:t.a8==2 with
 |true=>
  simp only[cond_true];show Option.bind (n3 N t v) _=_;unfold cO at ht;have hk:t.a8=2:=by simpa using h2
  rw[hk]at ht;have pA:(decide (2≤t.bz)&&(decide (t.bz≤31)&&(decide (0≤t.bE)&&(decide (t.bE≤30)&&(decide (1≤t.bK)&&(decide (t.bK≤4)&&(t.bI==1||t.bI==2)))))))=true:=ht;unfold n3;rw[J9 N t h2,pA,ajm];simp only[ajp,decide_eq_true_eq]at pA;obtain⟨b1,b2,_⟩:=pA;obtain⟨f1,f2,f3,f4,f5,f6⟩:=FX b1 b2;unfold zX xm ug;rw[dp,ajm,ajm,kI,aj4 b1,aj4 b2];simp only[Bool.and_self,cond_true];rw[f1];simp only[cond_true,ajm];rw[f3,f4];rw[kI,dp,kW (p:=v.xN.toInt≤2^(t.bz-1).toNat-1) (q:=v.xN.toInt<2^(t.bz-1).toNat) (by omega)];cases (v.xD.toInt==1)<;>rfl
 |false=>
  simp only[cond_false];show(bif t.a8==3 then _ else _)=_;cases h3:t.a8==3 with
  |true=>
   simp only[cond_true];unfold l8;rw[kI,dp,ajm,ajm];by_cases hd:v.xD.toInt=1
   ·rw[hd];simp only[aj6,cond_true,ajm,show decide ((1:Int)≤1)=true from rfl,show decide ((1:Int)≤2147483647)=true from rfl,Bool.and_true];rw[Bool.and_comm]
   ·rw[beq_false_of_ne hd];simp only[cond_false,ajm,Bool.and_false]
  |false=>
   simp only[cond_false];unfold ie GP;rw[kI,kI,dp,ajm,ajm,Es,ajm];cases De:decide (1≤v.xD.toInt)with
   |false=>cases decide (v.xN.toInt≤2147483647)<;>cases decide (-2147483647≤v.xN.toInt)<;>rfl
   |true=>
    cases lN:decide (v.xD.toInt≤2147483647)with
    |false=>cases decide (v.xN.toInt≤2147483647)<;>cases decide (-2147483647≤v.xN.toInt)<;>rfl
    |true=>
     have e1:=of_decide_eq_true De;have e2:=of_decide_eq_true lN;have hw:IntKind.u64.wrap v.xD.toInt=((v.xD.toInt.toNat:Nat):Int):=by rw[jF];omega
     simp only[cond_true,Bool.true_and];rw[hw];unfold vF;rw[Hw N N v.xN.toInt.natAbs v.xD.toInt.toNat (by omega),ajm,show((((Nat.gcd v.xN.toInt.natAbs v.xD.toInt.toNat:Nat):Int))==(1:Int))=(Nat.gcd v.xN.toInt.natAbs v.xD.toInt.toNat==1)from lY _ 1,dp,ajm];cases decide (v.xN.toInt≤2147483647)<;>cases decide (-2147483647≤v.xN.toInt)<;>rfl
theorem qg(N:Nat)(hN:2147483648<N)(t:aD)(v:ay)(ht:cO t=true):mB N t v=some (cW t v):=by
 unfold mB cW;cases h2:t.a8==2 with
 |true=>
  simp only[cond_true];unfold cO at ht;have hk:t.a8=2:=by simpa using h2
  rw[hk]at ht;have pA:(decide (2≤t.bz)&&(decide (t.bz≤31)&&(decide (0≤t.bE)&&(decide (t.bE≤30)&&(decide (1≤t.bK)&&(decide (t.bK≤4)&&(t.bI==1||t.bI==2)))))))=true:=ht;simp only[ajp,decide_eq_true_eq]at pA;obtain⟨b1,b2,_⟩:=pA;obtain⟨f1,f2,f3,f4,f5,f6⟩:=FX b1 b2;rw[f2];simp only[cond_true];rw[f5,f6,kI,dp,dp,ajm]
 |false=>
  simp only[cond_false,By,ik,ajm];cases Fc:decide (v.xN.toInt≤2147483647)with
  |false=>rfl
  |true=>
   cases lz:decide (-2147483647≤v.xN.toInt)with
   |false=>rfl
   |true=>
    cases De:decide (1≤v.xD.toInt)with
    |false=>rfl
    |true=>
     cases lN:decide (v.xD.toInt≤2147483647)with
     |false=>rfl
     |true=>
      have n1:=of_decide_eq_true Fc;have n2:=of_decide_eq_true lz;have e1:=of_decide_eq_true De;have e2:=of_decide_eq_true lN;simp only[Bool.not_true,Bool.or_false,cond_false,Bool.true_and];cases h3:t.a8==3 with
      |true=>rfl
      |false=>
       simp only[cond_false];have rf:(-v.xN).toInt= -v.xN.toInt:=by
        rw[Int64.toInt_neg];rw[Int.bmod_eq_of_le]<;>omega
       have uw:(na v.xN (-v.xN)).toInt=((v.xN.toInt.natAbs:Nat):Int):=by
        rw[←Ud,rf];split<;>omega
       unfold I6;obtain⟨g,g1,g2⟩:=Sw N N (na v.xN (-v.xN)) v.xD (by rw[uw];omega) (by omega) (by omega);rw[g1,ajm,g2,uw,ajO];rw[show((((Nat.gcd v.xN.toInt.natAbs v.xD.toInt.toNat:Nat):Int))==(1:Int))=(Nat.gcd v.xN.toInt.natAbs v.xD.toInt.toNat==1)from lY _ 1]
set_option linter.unusedSimpArgs false
set_option linter.unusedVariables false
def mO(wrap:Bool)(h n:Int):Int:=bif wrap then(n+h)%(2*h)-h else max (-h) (min (h-1) n)
theorem aeO(P:Int→Prop)(h:∀k:Fin 30,P (2^(k.val+1))){b:Int}(h1:2≤b)(h2:b≤31):P (2^(b-1).toNat):=by
 have:=h ⟨(b-2).toNat,by omega⟩
 rwa [show(b-2).toNat+1=(b-1).toNat by omega]at this
theorem aae{w:Bool}{h n:Int}(hp:0<h)(h1: -h≤n)(h2:n≤h-1):mO w h n=n:=by
 unfold mO;cases w
 ·simp only[cond_false];omega
 ·simp only[cond_true];rw[Int.emod_eq_of_lt (by omega) (by omega)];omega
theorem aa5{w:Bool}{h n:Int}(hp:0<h): -h≤mO w h n∧mO w h n≤h-1:=by
 unfold mO;cases w
 ·simp only[cond_false];omega
 ·simp only[cond_true];have:=Int.emod_nonneg (n+h) (show 2*h≠0 by omega);have:=Int.emod_lt_of_pos (n+h) (show 0<2*h by omega);omega
theorem Sg{h u n:Int}(hu:u*(2*h)=18446744073709551616)(Zh:0<u)(hh:0<h):
 (((n*u)%18446744073709551616+9223372036854775808)%18446744073709551616-9223372036854775808)/ u=(n+h)%(2*h)-h:=by
 have h2:u*h=9223372036854775808:=by have:u*(2*h)=2*(u*h):=by rw[Int.mul_left_comm]
                                     omega
 rw[Int.emod_add_emod,←hu];have e:n*u+9223372036854775808=u*(n+h):=by rw[Int.mul_add,h2,Int.mul_comm]
 rw[e,Int.mul_emod_mul_of_pos _ _ Zh,←h2,←Int.mul_sub,Int.mul_ediv_cancel_left _ (by omega)]
theorem abA{n d:Int}(hd:0<d):n.tdiv d=if 0≤n then n / d else-((-n)/ d):=by
 split
 ·exact Int.tdiv_eq_ediv_of_nonneg (by assumption)
 ·have:n= -(-n):=by omega
  conv=>lhs;rw[this]
  rw[Int.neg_tdiv,Int.tdiv_eq_ediv_of_nonneg (by omega)]
theorem W8{m d:Int}(hd:0<d)(hm:0<m):(-m)/ d=if m%d=0 then-(m / d)else-(m / d)-1:=by
 have h1:=Int.mul_ediv_add_emod m d;have h2:=Int.emod_nonneg m (show d≠0 by omega);have h3:=Int.emod_lt_of_pos m hd;split
 ·rename_i h
  exact((Int.ediv_emod_unique hd).2 ⟨(by rw[Int.mul_neg];omega:(0:Int)+d*(-(m / d))= -m),by omega,by omega⟩).1
 ·exact((Int.ediv_emod_unique hd).2 ⟨(by rw[Int.mul_sub,Int.mul_neg];omega:(d-m%d)+d*(-(m / d)-1)= -m),by omega,by omega⟩).1
theorem Pa{n d:Int}(hd:0<d):(bif decide (n.tdiv d*d>n)then n.tdiv d-1 else n.tdiv d)=n / d:=by
 rw[abA hd];by_cases h:0≤n
 ·rw[if_pos h,aj5 (by have:=Int.ediv_mul_le n (show d≠0 by omega);omega)];rfl
 ·rw[if_neg h];obtain⟨m,rfl⟩:∃m,n= -m:=⟨-n,by omega⟩;rw[Int.neg_neg,W8 hd (by omega),Int.neg_mul];have h1:=Int.mul_ediv_add_emod m d;have h2:=Int.emod_nonneg m (show d≠0 by omega);rw[Int.mul_comm]at h1;split
  ·rw[aj5 (by omega)];rfl
  ·rw[aj4 (by omega)];rfl
theorem SZ{n d:Int}(hd:0<d):(bif decide (n.tmod d<0)then n.tdiv d-1 else n.tdiv d)=n / d:=by
 rw[←Pa hd];have h:n.tmod d=n-n.tdiv d*d:=by have:=Int.mul_tdiv_add_tmod n d;rw[Int.mul_comm]at this;omega
 rw[h]
 congr 1
 exact decide_eq_decide.2 (by omega)
def kM(a b:Int):Int:=bif decide (b<0)then(-a)/(-b)else a / b
theorem abw{a b:Int}(hb:b≠0):(bif a.tmod b !=0&&(decide (a<0) !=decide (b<0))then a.tdiv b-1 else a.tdiv b)=kM a b:=by
 have key:∀a b:Int,0<b→(bif a.tmod b !=0&&(decide (a<0) !=false)then a.tdiv b-1 else a.tdiv b)=a / b:=fun a b hb=>by
  rw[←SZ hb]
  congr 1
  have hm:0≤a→0≤a.tmod b:=fun h=>Int.tmod_nonneg _ h;have lx:a<0→a.tmod b≤0:=fun h=>by
   have:a= -(-a):=by omega
   rw[this,Int.neg_tmod];have:=Int.tmod_nonneg b (show 0≤-a by omega);omega
  by_cases h:a<0
  ·rw[aj4 h];have:=lx h;by_cases h0:a.tmod b=0
   ·rw[h0];rfl
   ·rw[aj4 (by omega),bne_iff_ne.2 h0];rfl
  ·rw[aj5 h];have:=hm (by omega);rw[aj5 (show ¬a.tmod b<0 by omega)];cases (a.tmod b !=0)<;>rfl
 unfold kM;by_cases h:b<0
 ·rw[aj4 h];simp only[cond_true];rw[←key (-a) (-b) (by omega),Int.neg_tmod,Int.tmod_neg,Int.neg_tdiv_neg]
  congr 1
  have hz:(-(a.tmod b) !=0)=(a.tmod b !=0):=by
   by_cases h0:a.tmod b=0
   ·rw[h0];rfl
   ·rw[bne_iff_ne.2 h0,bne_iff_ne.2 (show-(a.tmod b)≠0 by omega)]
  rw[hz];by_cases h0:a=0
  ·subst h0;simp
  ·by_cases ha:a<0
   ·rw[aj4 ha,aj5 (show ¬-a<0 by omega)];rfl
   ·rw[aj5 ha,aj4 (show-a<0 by omega)];rfl
 ·rw[aj5 h];simp only[cond_false];exact key a b (by omega)
def Av(a b:Nat)(neg:Bool)(how:Int):Bool:=(a%b==0||how==3)||((how==1&& !neg)||(how==2&&neg))||(how==4&&(decide (2*(a%b)<b)||(2*(a%b)==b&&a / b%2==0)))
def kS(a b:Nat)(neg:Bool)(how:Int):Nat:=bif Av a b neg how then a / b else a / b+1
def gy(n d:Int)(how:Int):Int:=
 bif n%d==0||how==1 then n / d else bif how==2 then n / d+1 else bif how==3 then(bif decide (n<0)then n / d+1 else n / d)
 else bif decide (n%d>d-n%d)||(n%d==d-n%d&&n / d%2 !=0)then n / d+1 else n / d
theorem ai3{a b:Nat}(hb:0<b)(hr:a%b≠0):(-(a:Int))/(b:Int)= -((a / b:Nat):Int)-1∧(-(a:Int))%(b:Int)=(b:Int)-((a%b:Nat):Int):=by
 have h1:a%b<b:=Nat.mod_lt _ hb;have h2:(b:Int)*((a / b:Nat):Int)+((a%b:Nat):Int)=(a:Int):=by rw[←Int.natCast_mul,←Int.natCast_add,Nat.div_add_mod]
 refine(Int.ediv_emod_unique (by omega)).2 ⟨?_,by omega,by omega⟩;rw[Int.mul_sub,Int.mul_neg];omega
theorem afT{a b:Nat}(hb:0<b)(hr:a%b=0):(-(a:Int))/(b:Int)= -((a / b:Nat):Int)∧(-(a:Int))%(b:Int)=0:=by
 have h2:(b:Int)*((a / b:Nat):Int)+((a%b:Nat):Int)=(a:Int):=by rw[←Int.natCast_mul,←Int.natCast_add,Nat.div_add_mod]
 refine(Int.ediv_emod_unique (by omega)).2 ⟨?_,by omega,by omega⟩;rw[Int.mul_neg];omega
theorem ahn{a b:Nat}(hb:0<b){how:Int}(h0:1≤how)(h3:how≤4):((kS a b false how:Nat):Int)=gy (a:Int) (b:Int) how:=by
 unfold kS Av gy;have e1:(a:Int)%(b:Int)=((a%b:Nat):Int):=(Int.natCast_emod a b).symm;have e2:(a:Int)/(b:Int)=((a / b:Nat):Int):=(Int.natCast_ediv a b).symm;rw[e1,e2];have hl:=Nat.mod_lt a hb;generalize a%b=r at*;generalize a / b=q at*;rcases (by omega:how=1∨how=2∨how=3∨how=4)with rfl|rfl|rfl|rfl<;>simp only[cond_eq_ite]<;>simp<;>(repeat' split)<;>omega
theorem abX{a b:Nat}(hb:0<b)(ha:0<a){how:Int}(h0:1≤how)(h3:how≤4): -((kS a b true how:Nat):Int)=gy (-(a:Int)) (b:Int) how:=by
 unfold kS Av gy;have hl:=Nat.mod_lt a hb;by_cases hr:a%b=0
 ·obtain⟨e1,e2⟩:=afT hb hr;rw[e1,e2,hr];rfl
 ·obtain⟨e1,e2⟩:=ai3 hb hr;rw[e1,e2];generalize a%b=r at*;generalize a / b=q at*;rcases (by omega:how=1∨how=2∨how=3∨how=4)with rfl|rfl|rfl|rfl<;>simp only[cond_eq_ite]<;>simp<;>(repeat' split)<;>omega
def nF(n d how:Int):Int:=bif decide (d<0)then gy (-n) (-d) how else gy n d how
theorem Xx(d how:Int):gy 0 d how=0:=by unfold gy;simp
theorem Xg{n d:Int}(hd:d≠0){how:Int}(h0:1≤how)(h3:how≤4):
 (bif decide (n<0) !=decide (d<0)then-((kS n.natAbs d.natAbs true how:Nat):Int)else((kS n.natAbs d.natAbs false how:Nat):Int))=nF n d how:=by
 have key:∀n d:Int,0<d→(bif decide (n<0)then-((kS n.natAbs d.natAbs true how:Nat):Int)else((kS n.natAbs d.natAbs false how:Nat):Int))=gy n d how:=fun n d hd=>by
  by_cases h:n<0
  ·rw[aj4 h];simp only[cond_true];rw[abX (by omega) (by omega) h0 h3,show-((n.natAbs:Nat):Int)=n by omega,show((d.natAbs:Nat):Int)=d by omega]
  ·rw[aj5 h];simp only[cond_false];rw[ahn (by omega) h0 h3,show((n.natAbs:Nat):Int)=n by omega,show((d.natAbs:Nat):Int)=d by omega]
 unfold nF;by_cases h:d<0
 ·rw[aj4 h];simp only[cond_true];by_cases hn:n=0
  ·subst hn;rw[show(decide ((0:Int)<0) !=true)=true from rfl,Int.neg_zero,Xx];unfold kS Av;simp
  ·rw[←key (-n) (-d) (by omega),Int.natAbs_neg,Int.natAbs_neg]
   congr 1
   by_cases ha:n<0
   ·rw[aj4 ha,aj5 (show ¬-n<0 by omega)];rfl
   ·rw[aj5 ha,aj4 (show-n<0 by omega)];rfl
 ·rw[aj5 h];simp only[cond_false];rw[←key n d (by omega)];cases decide (n<0)<;>rfl
theorem JA{n d how B:Int}(hd:0<d)(hB:0≤B)(h1: -B≤n)(h2:n≤B): -B≤gy n d how∧gy n d how≤B+1:=by
 have h3: -B≤n / d:=by
  refine Int.le_ediv_of_mul_le hd ?_;have:B*1≤B*d:=Int.mul_le_mul_of_nonneg_left (by omega) hB;rw[Int.neg_mul];omega
 have h4:n / d≤B:=by
  have:n / d≤n∨n / d≤0:=by
   by_cases h:0≤n
   ·exact .inl (Int.ediv_le_self _ h)
   ·exact .inr (Int.le_of_lt (Int.ediv_neg_of_neg_of_pos (by omega) hd))
  omega
 unfold gy;simp only[cond_eq_ite]
 (repeat' split)<;>omega
theorem acy{n d q rest:Int}(how:Int)(hq:q=n / d)(hr:rest=n-q*d):
 (bif rest==0||how==1 then q else bif how==2 then q+1 else bif how==3 then(bif decide (n<0)then q+1 else q)else bif decide (rest>d-rest)||(rest==d-rest&&q.tmod 2 !=0)then q+1 else q)=gy n d how:=by
 subst hq;have e:rest=n%d:=by rw[hr,Int.emod_def,Int.mul_comm]
 subst e;have h2:((n / d).tmod 2 !=0)=(n / d%2 !=0):=by
  by_cases h:n / d%2=0
  ·rw[h,Int.tmod_eq_zero_of_dvd (Int.dvd_of_emod_eq_zero h)]
  ·rw[bne_iff_ne.2 h,bne_iff_ne.2 fun hc=>h (Int.emod_eq_zero_of_dvd (Int.dvd_of_tmod_eq_zero hc))]
 rw[h2];rfl
theorem agW{n m:Int}{d e:Nat}(hd:0<d)(he:0<e)(h1:Nat.gcd n.natAbs d=1)(h2:Nat.gcd m.natAbs e=1)(h:n*(e:Int)=m*(d:Int)):n=m∧d=e:=by
 have ha:n.natAbs*e=m.natAbs*d:=by
  have:=congrArg Int.natAbs h
  rwa [Int.natAbs_mul,Int.natAbs_mul,Int.natAbs_natCast,Int.natAbs_natCast]at this
 have hde:d∣ e:=by
  have h3:d∣ n.natAbs*e:=by rw[ha];exact Nat.dvd_mul_left _ _
  exact Nat.Coprime.dvd_of_dvd_mul_left (show Nat.Coprime d n.natAbs by rw[Nat.coprime_comm];exact h1) h3
 have hed:e∣ d:=by
  have h3:e∣ m.natAbs*d:=by rw[←ha];exact Nat.dvd_mul_left _ _
  exact Nat.Coprime.dvd_of_dvd_mul_left (show Nat.Coprime e m.natAbs by rw[Nat.coprime_comm];exact h2) h3
 have e1:d=e:=Nat.dvd_antisymm hde hed;subst e1;refine⟨?_,rfl⟩;exact Int.eq_of_mul_eq_mul_right (by omega) h
theorem Yt{n d:Nat}(hd:0<d):Nat.gcd (n / Nat.gcd n d) (d / Nat.gcd n d)=1:=Nat.gcd_div_gcd_div_gcd_of_pos_right hd
def b7(t:aD):Int:=2^(t.bz-1).toNat
def dU(t:aD):Int:=2^t.bE.toNat
def jx(t:aD)(n:Int):ay:=⟨Int64.ofInt (mO (t.bI==2) (b7 t) n),1⟩
def jP(n d:Int):Nat:=Nat.gcd n.natAbs d.natAbs
def BZ(n d:Int):Int:=bif decide (n<0) !=decide (d<0)then-((n.natAbs / jP n d:Nat):Int)else((n.natAbs / jP n d:Nat):Int)
def gW(n d:Int):ay×Int:=
 bif d==0 then(bg,4)else bif decide (2147483647<n.natAbs / jP n d)||decide (2147483647<d.natAbs / jP n d)then(bg,3)
 else(⟨Int64.ofInt (BZ n d),Int64.ofInt ((d.natAbs / jP n d:Nat):Int)⟩,0)
def l0(a b:Int):Int:=bif decide (a<b)then-1 else bif decide (a>b)then 1 else 0
def j5(t:aD)(a b:ay):Int:=
 bif cO t&&(cW t a&&cW t b)then bif t.a8==1 then l0 (a.xN.toInt*b.xD.toInt) (b.xN.toInt*a.xD.toInt)else l0 a.xN.toInt b.xN.toInt else 0
def Bf(op:Int)(t:aD)(a b:Int):ay×Int:=
 bif op==4 then(jx t (a+b),0)else bif op==5 then(jx t (a-b),0)else bif op==6 then(jx t (gy (a*b) (dU t) t.bK),0)
 else bif op==8 then(jx t (-a),0)else bif b==0 then(bg,4)else(jx t (nF (a*dU t) b t.bK),0)
def sN(op a b:Int):ay×Int:=
 bif op==7&&b==0 then(bg,4)
 else
  let n:=bif op==4 then a+b else bif op==5 then a-b else bif op==6 then a*b else bif op==7 then kM a b else-a
  bif decide (-2147483647≤n)&&decide (n≤2147483647)then(⟨Int64.ofInt n,1⟩,0)else(bg,3)
def vI(op:Int)(a b:ay):ay×Int:=
 bif op==4 then gW (a.xN.toInt*b.xD.toInt+b.xN.toInt*a.xD.toInt) (a.xD.toInt*b.xD.toInt)
 else bif op==5 then gW (a.xN.toInt*b.xD.toInt-b.xN.toInt*a.xD.toInt) (a.xD.toInt*b.xD.toInt)
 else bif op==6 then gW (a.xN.toInt*b.xN.toInt) (a.xD.toInt*b.xD.toInt)
 else bif op==7 then gW (a.xN.toInt*b.xD.toInt) (a.xD.toInt*b.xN.toInt)
 else(⟨-a.xN,a.xD⟩,0)
def qM(op:Int)(t:aD)(a b:ay):ay×Int:=
 bif decide (op<4)||decide (op>10)then(bg,1)else bif !cO t then(bg,10)
 else bif !cW t a||(!(op==8)&& !cW t b)then(bg,1)
 else bif op==9 then(bif decide (j5 t a b>0)then b else a,0)else bif op==10 then(bif decide (j5 t a b<0)then b else a,0)
 else bif t.a8==2 then Bf op t a.xN.toInt b.xN.toInt else bif t.a8==3 then sN op a.xN.toInt b.xN.toInt else vI op a b
def kH(t:aD)(v:ay):ay:=bif t.a8==2 then(gW v.xN.toInt (dU t)).1 else v
def ur(from_ x9:aD)(v:ay):ay×Int:=
 bif !cO from_|| !cO x9 then(bg,10)else bif !cW from_ v then(bg,1)
 else
  let x:=kH from_ v
  bif x9.a8==3 then(⟨Int64.ofInt (x.xN.toInt / x.xD.toInt),1⟩,0)else bif x9.a8==2 then(jx x9 (gy (x.xN.toInt*dU x9) x.xD.toInt x9.bK),0)else(x,0)
def pE(t:aD):ay:=bif cO t then⟨0,1⟩else bg
def iy(t:aD):ay×Int:=
 bif !cO t then(bg,10)else
  let v:ay:=⟨Int64.ofInt (bif t.a8==2 then dU t else 1),1⟩
  bif cW t v then(v,0)else(bg,3)
structure qx(t:aD):Prop where
 b1:2≤t.bz
 b2:t.bz≤31
 f1:0≤t.bE
 f2:t.bE≤30
 r1:1≤t.bK
 r2:t.bK≤4
 o:t.bI=1∨t.bI=2
theorem hX{t:aD}(h:cO t=true)(hk:t.a8=2):qx t:=by
 unfold cO at h;rw[hk]at h;have h':(decide (2≤t.bz)&&(decide (t.bz≤31)&&(decide (0≤t.bE)&&(decide (t.bE≤30)&&(decide (1≤t.bK)&&(decide (t.bK≤4)&&(t.bI==1||t.bI==2)))))))=true:=h;simp only[ajp,decide_eq_true_eq,Bool.or_eq_true,beq_iff_eq]at h';obtain⟨h1,h2,h3,h4,h5,h6,h7⟩:=h';exact⟨h1,h2,h3,h4,h5,h6,h7⟩
theorem kinds{t:aD}(h:cO t=true):t.a8=1∨t.a8=2∨t.a8=3:=by
 unfold cO at h;by_cases h1:t.a8=1
 ·exact .inl h1
 ·by_cases h2:t.a8=2
  ·exact .inr (.inl h2)
  ·by_cases h3:t.a8=3
   ·exact .inr (.inr h3)
   ·simp [h1,h2,h3]at h
theorem FN{t:aD}(f:qx t):2≤b7 t∧b7 t≤1073741824:=
 aeO (fun x=>2≤x∧x≤1073741824) (by decide) f.b1 f.b2
theorem V8(P:Int→Prop)(h:∀k:Fin 31,P (2^k.val)){b:Int}(h1:0≤b)(h2:b≤30):P (2^b.toNat):=
 h ⟨b.toNat,by omega⟩
theorem ED{t:aD}(f:qx t):1≤dU t∧dU t≤1073741824:=
 V8 (fun x=>1≤x∧x≤1073741824) (by decide) f.f1 f.f2
structure Jr(t:aD)(v:ay):Prop where
 d:v.xD.toInt=1
 n1: -b7 t≤v.xN.toInt
 n2:v.xN.toInt≤b7 t-1
theorem jN{t:aD}{v:ay}(h:cW t v=true)(hk:t.a8=2):Jr t v:=by
 unfold cW at h;rw[hk]at h;have h':(v.xD.toInt==1&&(decide (-(2^(t.bz-1).toNat)≤v.xN.toInt)&&decide (v.xN.toInt<2^(t.bz-1).toNat)))=true:=h;simp only[ajp,decide_eq_true_eq,beq_iff_eq]at h';obtain⟨h1,h2,h3⟩:=h';exact⟨h1,h2,by unfold b7;omega⟩
structure eQ(v:ay):Prop where
 n1: -2147483647≤v.xN.toInt
 n2:v.xN.toInt≤2147483647
 d1:1≤v.xD.toInt
 d2:v.xD.toInt≤2147483647
 g:Nat.gcd v.xN.toInt.natAbs v.xD.toInt.toNat=1
theorem mH{t:aD}{v:ay}(h:cW t v=true)(hk:t.a8≠2):eQ v:=by
 unfold cW at h;rw[beq_false_of_ne hk]at h;simp only[cond_false,ajp,decide_eq_true_eq]at h;obtain⟨h1,h2,h3,h4,h5⟩:=h;refine⟨h2,h1,h3,h4,?_⟩;cases GY:t.a8==3 with
 |true=>
  rw[GY]at h5;have h6:v.xD.toInt=1:=by simpa using h5
  rw[h6];exact Nat.gcd_one_right _
 |false=>rw[GY]at h5;simpa using h5
theorem DT{t:aD}{v:ay}(h:cW t v=true)(hk:t.a8=3):v.xD.toInt=1:=by
 unfold cW at h;rw[hk]at h;have h':(decide (v.xN.toInt≤2147483647)&&(decide (-2147483647≤v.xN.toInt)&&(decide (1≤v.xD.toInt)&&(decide (v.xD.toInt≤2147483647)&&(v.xD.toInt==1)))))=true:=h;simp only[ajp,beq_iff_eq]at h';exact h'.2.2.2.2
theorem gC{n:Int}(h1: -9223372036854775808≤n)(h2:n≤9223372036854775807):(Int64.ofInt n).toInt=n:=Int64.toInt_ofInt_of_le (by omega) (by omega)
structure YZ(n d:Int)(v:ay):Prop where
 n1: -2147483647≤v.xN.toInt
 n2:v.xN.toInt≤2147483647
 d1:1≤v.xD.toInt
 d2:v.xD.toInt≤2147483647
 g:Nat.gcd v.xN.toInt.natAbs v.xD.toInt.toNat=1
 en:v.xN.toInt=BZ n d
 ed:v.xD.toInt=((d.natAbs / jP n d:Nat):Int)
theorem aip{n d:Int}{v:ay}(h:gW n d=(v,0)):YZ n d v:=by
 unfold gW at h;by_cases hd:d=0
 ·subst hd;cases h
 ·rw[beq_false_of_ne hd]at h;simp only[cond_false]at h;cases hc:(decide (2147483647<n.natAbs / jP n d)||decide (2147483647<d.natAbs / jP n d))with
  |true=>rw[hc]at h;cases h
  |false=>
   rw[hc]at h;cases h
   rw[aka,decide_eq_false_iff_not,decide_eq_false_iff_not]at hc;have hg:0<jP n d:=Nat.gcd_pos_of_pos_right _ (by omega);have hq:0<d.natAbs / jP n d:=Nat.div_pos (Nat.le_of_dvd (by omega) (Nat.gcd_dvd_right _ _)) hg;have hN:(BZ n d).natAbs=n.natAbs / jP n d:=by
     unfold BZ;cases (decide (n<0) !=decide (d<0))
     ·exact Int.natAbs_natCast _
     ·exact(Int.natAbs_neg _).trans (Int.natAbs_natCast _)
   have e1:=gC (n:=BZ n d) (by omega) (by omega);have e2:=gC (n:=((d.natAbs / jP n d:Nat):Int)) (by omega) (by omega);refine⟨?_,?_,?_,?_,?_,e1,e2⟩
   ·show _≤(Int64.ofInt _).toInt;rw[e1];omega
   ·show(Int64.ofInt _).toInt≤_;rw[e1];omega
   ·show _≤(Int64.ofInt _).toInt;rw[e2];omega
   ·show(Int64.ofInt _).toInt≤_;rw[e2];omega
   ·show Nat.gcd (Int64.ofInt _).toInt.natAbs (Int64.ofInt _).toInt.toNat=1;rw[e1,e2,hN,ajO];exact Yt (by omega)
theorem agb{n S:Int}(h1: -1073741824≤n)(h2:n≤1073741824)(s1:1≤S)(s2:S≤1073741824):∃v,gW n S=(v,0):=by
 unfold gW;rw[beq_false_of_ne (show S≠0 by omega)];have a1:n.natAbs / jP n S≤n.natAbs:=Nat.div_le_self _ _;have a2:S.natAbs / jP n S≤S.natAbs:=Nat.div_le_self _ _;rw[aj5 (show ¬2147483647<n.natAbs / jP n S by omega),aj5 (show ¬2147483647<S.natAbs / jP n S by omega)];exact⟨_,rfl⟩
theorem zY{a b:ay}(h1:a.xN.toInt=b.xN.toInt)(h2:a.xD.toInt=b.xD.toInt):a=b:=by
 cases a;cases b
 congr 1
 ·exact Int64.toInt_inj.1 h1
 ·exact Int64.toInt_inj.1 h2
theorem MO{a b:Int}:l0 a b=0↔a=b:=by
 unfold l0;simp only[cond_eq_ite,decide_eq_true_eq]
 (repeat' split)<;>omega
theorem aaY{t:aD}{a b:ay}(ht:cO t=true)(ha:cW t a=true)(hb:cW t b=true)(h:j5 t a b=0):a=b:=by
 unfold j5 at h;rw[ht,ha,hb]at h;simp only[Bool.and_self,cond_true]at h;rcases kinds ht with hk|hk|hk
 ·rw[hk]at h;have h':=MO.1 h;have A:=mH ha (by omega);have B:=mH hb (by omega);have e:=agW (n:=a.xN.toInt) (m:=b.xN.toInt) (d:=a.xD.toInt.toNat) (e:=b.xD.toInt.toNat) (by have:=A.d1;omega) (by have:=B.d1;omega) A.g B.g (by
    rw[show((b.xD.toInt.toNat:Nat):Int)=b.xD.toInt by have:=B.d1;omega,show((a.xD.toInt.toNat:Nat):Int)=a.xD.toInt by have:=A.d1;omega];exact h')
  exact zY e.1 (by have:=A.d1;have:=B.d1;omega)
 ·rw[hk]at h;have h':=MO.1 h;exact zY h' (by rw[(jN ha hk).d,(jN hb hk).d])
 ·rw[hk]at h;have h':=MO.1 h;exact zY h' (by rw[DT ha hk,DT hb hk])
theorem TF{t:aD}{v:ay}(ht:cO t=true)(hv:cW t v=true):eQ (kH t v):=by
 unfold kH;rcases kinds ht with hk|hk|hk
 ·rw[hk];exact mH hv (by omega)
 ·rw[hk];have F:=hX ht hk;have A:=jN hv hk;have hH:=FN F;have hS:=ED F;obtain⟨x,hx⟩:=agb (n:=v.xN.toInt) (S:=dU t) (by have:=A.n1;omega) (by have:=A.n2;omega) hS.1 hS.2;have L:=aip hx;show eQ (gW v.xN.toInt (dU t)).1;rw[hx];exact⟨L.n1,L.n2,L.d1,L.d2,L.g⟩
 ·rw[hk];exact mH hv (by omega)
def dz(n:Int):Bool:=decide (-9223372036854775808≤n)&&decide (n≤9223372036854775807)
theorem sE{n:Int}:dz n=true↔-9223372036854775808≤n∧n≤9223372036854775807:=by
 unfold dz;rw[ajp,decide_eq_true_iff,decide_eq_true_iff]
theorem ahg(n:Int64):dz n.toInt=true:=by
 rw[sE];have h1:=n.le_toInt;have h2:=n.toInt_lt;omega
def same(a b:akc):Bool:=bL a==bL b
def lt(a b:akc):Bool:=Op.bytesLess (bL a) (bL b)
theorem O4{a b:akc}(h:(bL a)=(bL b)):a=b:=by
 unfold bL at h;have:a.data=b.data:=Array.toList_inj.mp h;cases a;cases b;simp_all
theorem we{a b:akc}:same a b=true↔a=b:=by
 unfold same;rw[beq_iff_eq];exact⟨O4,fun h=>by rw[h]⟩
theorem UX:∀(x y:akb UInt8),Op.bytesLess x y=decide (x<y)
 |[],[]=>by simp [Op.bytesLess]
 |_::_,[]=>by simp [Op.bytesLess]
 |[],_::_=>by simp [Op.bytesLess]
 |a::x,b::y=>by
  rw[Op.bytesLess,UX x y];simp only[List.cons_lt_cons_iff];by_cases h:a<b<;>by_cases h2:a=b<;>simp_all
theorem O3{a b:akc}:lt a b=true↔(bL a)<(bL b):=by unfold lt;rw[UX];simp
theorem uf(a:akc):lt a a=false:=by
 rw[←Bool.not_eq_true,O3];exact List.lt_irrefl (bL a)
theorem rI{a b c:akc}(h1:lt a b=true)(h2:lt b c=true):lt a c=true:=by
 rw[O3]at*;exact List.lt_trans h1 h2
theorem C4{a b:akc}(h1:lt a b=false)(h2:lt b a=false):a=b:=by
 rw[←Bool.not_eq_true,O3]at*;exact O4 (List.le_antisymm (List.not_lt.mp h2) (List.not_lt.mp h1))
inductive Er|arg|range
def Er.code:Er→Int
 | .arg=>1
 | .range=>3
theorem Er.ne(e:Er):(e.code !=0)=true:=by cases e<;>rfl
abbrev X(α:Type):=Except Er α
def qP{α:Type}(d:α):X α→α×Int
 | .ok v=>(v,0)
 | .error e=>(d,e.code)
def dJ:akb aU→akb aU→akb (akc×Int×Int)
 |[],[]=>[]
 |a::l,[]=>(a.aV,a.cH.toInt,0)::dJ l []
 |[],b::r=>(b.aV,0,b.cH.toInt)::dJ [] r
 |a::l,b::r=>if lt a.aV b.aV then(a.aV,a.cH.toInt,0)::dJ l (b::r)else if lt b.aV a.aV then(b.aV,0,b.cH.toInt)::dJ (a::l) r else(a.aV,a.cH.toInt,b.cH.toInt)::dJ l r
termination_by l r=>l.length+r.length
def H9(k:Int)(l:akb (akc×Int×Int)):X aF:=
 if dz k&&l.all (fun t=>dz (t.2.1+t.2.2))then .ok ⟨Int64.ofInt k,l.filterMap fun t=>if t.2.1+t.2.2=0 then none else some ⟨t.1,Int64.ofInt (t.2.1+t.2.2)⟩⟩else .error .range
def j9(a b:aF):X aF:=if dM a&&dM b then H9 (a.xK.toInt+b.xK.toInt) (dJ a.xL b.xL)else .error .arg
def jg(a:aF)(ct:Int64):X aF:=
 if dM a then(if ct.toInt=0 then .ok ⟨0,[]⟩else if dz (a.xK.toInt*ct.toInt)&&a.xL.all (fun m=>dz (m.cH.toInt*ct.toInt))then .ok ⟨Int64.ofInt (a.xK.toInt*ct.toInt),a.xL.map fun m=>⟨m.aV,Int64.ofInt (m.cH.toInt*ct.toInt)⟩⟩else .error .range)else .error .arg
def jo:akb akc→akc→akb akc
 |[],s=>[s]
 |x::l,s=>if lt s x then x::jo l s else s::x::l
def jk(l:akb akc)(s:akc):akb akc:=if l.any (same · s)then l else(jo l.reverse s).reverse
def tf(ls:akb aF):akb akc:=(ls.flatMap fun x=>x.xL.map (·.aV)).foldl jk []
def gT:akb aU→akc→Int
 |[],_=>0
 |m::l,n=>if same m.aV n then m.cH.toInt else gT l n
def Mj(a b:aF):X aF:=if dM a&&dM b then H9 (a.xK.toInt+b.xK.toInt) ((tf [a,b]).map fun n=>(n,gT a.xL n,gT b.xL n))else .error .arg
def mf(l:akb akc):Prop:=l.Pairwise fun a b=>lt a b=true
theorem PE:∀{l r:akb akc},mf l→mf r→(∀x,x∈l↔x∈r)→l=r
 |[],[],_,_,_=>rfl
 |[],b::r,_,_,h=>by have:=(h b).mpr (by simp);simp at this
 |a::l,[],_,_,h=>by have:=(h a).mp (by simp);simp at this
 |a::l,b::r,hl,hr,h=>by
  have Dr:=List.pairwise_cons.mp hl;have sm:=List.pairwise_cons.mp hr;have e:a=b:=by
   have h1:=(h a).mp (by simp);have h2:=(h b).mpr (by simp);simp only[ajR]at h1 h2;rcases h1 with h1|h1
   ·exact h1
   ·rcases h2 with h2|h2
    ·exact h2.symm
    ·have:=rI (sm.1 a h1) (Dr.1 b h2);rw[uf]at this;simp at this
  subst e;rw[PE Dr.2 sm.2 fun x=> ?_];constructor
  ·intro hx;have:=(h x).mp (by simp [hx]);simp only[ajR]at this;rcases this with e|e
   ·subst e;have:=Dr.1 x hx;rw[uf]at this;simp at this
   ·exact e
  ·intro hx;have:=(h x).mpr (by simp [hx]);simp only[ajR]at this;rcases this with e|e
   ·subst e;have:=sm.1 x hx;rw[uf]at this;simp at this
   ·exact e
theorem N6:∀(l:akb akc)(s x:akc),x∈jo l s↔x=s∨x∈l
 |[],s,x=>by simp [jo]
 |y::l,s,x=>by
  unfold jo;split
  ·simp only[ajR,N6 l s x];constructor<;>rintro(h|h|h)<;>simp [h]
  ·simp only[ajR]
theorem Vt:∀(l:akb akc)(s:akc),l.Pairwise (fun a b=>lt b a=true)→s ∉ l→(jo l s).Pairwise (fun a b=>lt b a=true)
 |[],s,_,_=>by simp [jo]
 |y::l,s,h,hs=>by
  have h1:=List.pairwise_cons.mp h;simp only[ajR,not_or]at hs;unfold jo;split
  next aX=>
   refine List.pairwise_cons.mpr ⟨fun z hz=> ?_,Vt l s h1.2 hs.2⟩;rcases (N6 l s z).mp hz with e|e
   ·subst e;exact aX
   ·exact h1.1 z e
  next aX=>
   have ir:lt y s=true:=by
    cases hc:lt y s with
    |true=>rfl
    |false=>exact absurd (C4 (by simpa using aX) hc) hs.1
   refine List.pairwise_cons.mpr ⟨fun z hz=> ?_,h⟩;simp only[ajR]at hz;rcases hz with e|e
   ·subst e;exact ir
   ·exact rI (h1.1 z e) ir
theorem OC{l:akb akc}{s:akc}:l.any (same · s)=true↔s∈l:=by
 rw[List.any_eq_true];constructor
 ·rintro⟨x,hx,h⟩;rw[we]at h;exact h▸hx
 ·intro h;exact⟨s,h,we.mpr rfl⟩
theorem ahO(l:akb akc)(s x:akc):x∈jk l s↔x=s∨x∈l:=by
 unfold jk;split
 next h=>
  have:=OC.mp h;constructor
  ·exact Or.inr
  ·rintro(e|e)
   ·exact e▸this
   ·exact e
 next h=>simp [N6]
theorem YU(l:akb akc)(s:akc)(h:mf l):mf (jk l s):=by
 unfold jk;split
 ·exact h
 next hn=>
  unfold mf;rw[List.pairwise_reverse];refine Vt _ _ ?_ ?_
  ·rw[List.pairwise_reverse];exact h
  ·simpa [OC]using fun hm=>hn (OC.mpr hm)
theorem Wi:∀(ns l:akb akc),mf l→mf (ns.foldl jk l)∧∀x,x∈ns.foldl jk l↔x∈ns∨x∈l
 |[],l,h=>⟨h,fun x=>by simp⟩
 |n::ns,l,h=>by
  obtain⟨h1,h2⟩:=Wi ns (jk l n) (YU l n h);refine⟨h1,fun x=> ?_⟩;rw[List.foldl_cons,h2 x,ahO];simp only[ajR];constructor
  ·rintro(h|h|h)<;>simp [h]
  ·rintro((h|h)|h)<;>simp [h]
theorem jT:∀(a b:akb aU)(x:akc),x∈(dJ a b).map (·.1)↔x∈a.map (·.aV)∨x∈b.map (·.aV)
 |[],[],x=>by simp [dJ]
 |a::l,[],x=>by
  have:=jT l [] x;rw[dJ];simp only[ajM,ajR,this];simp
 |[],b::r,x=>by
  have:=jT [] r x;rw[dJ];simp only[ajM,ajR,this];simp
 |a::l,b::r,x=>by
  rw[dJ];split
  ·have:=jT l (b::r) x;simp only[ajM,ajR,this];exact⟨by rintro(h|h|h|h)<;>simp [h],by rintro((h|h)|h|h)<;>simp [h]⟩
  ·split
   ·have:=jT (a::l) r x;simp only[ajM,ajR,this];exact⟨by rintro(h|(h|h)|h)<;>simp [h],by rintro((h|h)|h|h)<;>simp [h]⟩
   next h1 h2=>
    have e:=C4 (by simpa using h1) (by simpa using h2);have:=jT l r x;simp only[ajM,ajR,this,e];exact⟨by rintro(h|h|h)<;>simp [h],by rintro((h|h)|h|h)<;>simp [h]⟩
termination_by a b=>a.length+b.length
def lS(l:akb aU):Prop:=mf (l.map (·.aV))
theorem lS.tail{m:aU}{l:akb aU}(h:lS (m::l)):lS l:=(List.pairwise_cons.mp h).2
theorem lS.head{m:aU}{l:akb aU}(h:lS (m::l)):∀x∈l.map (·.aV),lt m.aV x=true:=(List.pairwise_cons.mp h).1
theorem xE:∀(a b:akb aU),lS a→lS b→mf ((dJ a b).map (·.1))
 |[],[],_,_=>by simp [dJ,mf]
 |a::l,[],ha,hb=>by
  rw[dJ];refine List.pairwise_cons.mpr ⟨fun x hx=> ?_,xE l [] ha.tail hb⟩;rcases (jT l [] x).mp hx with h|h
  ·exact ha.head x h
  ·simp at h
 |[],b::r,ha,hb=>by
  rw[dJ];refine List.pairwise_cons.mpr ⟨fun x hx=> ?_,xE [] r ha hb.tail⟩;rcases (jT [] r x).mp hx with h|h
  ·simp at h
  ·exact hb.head x h
 |a::l,b::r,ha,hb=>by
  rw[dJ];split
  next h1=>
   refine List.pairwise_cons.mpr ⟨fun x hx=> ?_,xE l (b::r) ha.tail hb⟩;rcases (jT l (b::r) x).mp hx with h|h
   ·exact ha.head x h
   ·simp only[ajM,ajR]at h;rcases h with h|h
    ·subst h;exact h1
    ·exact rI h1 (hb.head x h)
  next h1=>
   split
   next h2=>
    refine List.pairwise_cons.mpr ⟨fun x hx=> ?_,xE (a::l) r ha hb.tail⟩;rcases (jT (a::l) r x).mp hx with h|h
    ·simp only[ajM,ajR]at h;rcases h with h|h
     ·subst h;exact h2
     ·exact rI h2 (ha.head x h)
    ·exact hb.head x h
   next h2=>
    have e:=C4 (by simpa using h1) (by simpa using h2);refine List.pairwise_cons.mpr ⟨fun x hx=> ?_,xE l r ha.tail hb.tail⟩;rcases (jT l r x).mp hx with h|h
    ·exact ha.head x h
    ·show lt a.aV x=true;rw[e];exact hb.head x h
termination_by a b=>a.length+b.length
theorem NW:∀(l:akb aU)(n:akc),n ∉ l.map (·.aV)→gT l n=0
 |[],_,_=>rfl
 |m::l,n,h=>by
  simp only[ajM,ajR,not_or]at h;unfold gT;rw[if_neg (by rw[we];exact fun e=>h.1 e.symm)];exact NW l n h.2
theorem yJ{m:aU}{l:akb aU}{n:akc}(h:lt m.aV n=true):gT (m::l) n=gT l n:=by
 show(if same m.aV n then m.cH.toInt else gT l n)=_;rw[if_neg (by rw[we];rintro rfl;rw[uf]at h;simp at h)]
theorem yL(m:aU)(l:akb aU):gT (m::l) m.aV=m.cH.toInt:=by
 show(if same m.aV m.aV then m.cH.toInt else gT l m.aV)=_;rw[if_pos (we.mpr rfl)]
theorem TP{m:aU}{l:akb aU}{n:akc}(h:lS (m::l))(hn:lt n m.aV=true):n ∉(m::l).map (·.aV):=by
 simp only[ajM,ajR,not_or];constructor
 ·rintro rfl;rw[uf]at hn;simp at hn
 ·intro hm;have:=rI hn (h.head n hm);rw[uf]at this;simp at this
theorem zu:∀(a b:akb aU),lS a→lS b→dJ a b=((dJ a b).map (·.1)).map fun n=>(n,gT a n,gT b n)
 |[],[],_,_=>by simp [dJ]
 |a::l,[],ha,hb=>by
  have ih:=zu l [] ha.tail hb;rw[dJ,ajM,ajM,yL];refine congrArg _ (ih.trans ?_);rw[←ih];rw[List.map_map]
  conv=>lhs;rw[ih,List.map_map]
  refine ajS fun t ht=> ?_;have hm:=List.mem_map_of_mem (f:=(·.1)) ht;rcases (jT l [] t.1).mp hm with h|h
  ·simp only[Function.comp_apply,yJ (ha.head _ h)]
  ·simp at h
 |[],b::r,ha,hb=>by
  have ih:=zu [] r ha hb.tail;rw[dJ,ajM,ajM,yL];refine congrArg _ (ih.trans ?_);rw[←ih];rw[List.map_map]
  conv=>lhs;rw[ih,List.map_map]
  refine ajS fun t ht=> ?_;have hm:=List.mem_map_of_mem (f:=(·.1)) ht;rcases (jT [] r t.1).mp hm with h|h
  ·simp at h
  ·simp only[Function.comp_apply,yJ (hb.head _ h)]
 |a::l,b::r,ha,hb=>by
  rw[dJ];split
  next h1=>
   have ih:=zu l (b::r) ha.tail hb;rw[ajM,ajM,yL,NW (b::r) _ (TP hb h1)];refine congrArg _ ?_
   conv=>lhs;rw[ih]
   refine ajS fun n hn=> ?_;have:lt a.aV n=true:=by
    rcases (jT l (b::r) n).mp hn with h|h
    ·exact ha.head n h
    ·simp only[ajM,ajR]at h;rcases h with h|h
     ·subst h;exact h1
     ·exact rI h1 (hb.head n h)
   rw[yJ this]
  next h1=>
   split
   next h2=>
    have ih:=zu (a::l) r ha hb.tail;rw[ajM,ajM,yL,NW (a::l) _ (TP ha h2)];refine congrArg _ ?_
    conv=>lhs;rw[ih]
    refine ajS fun n hn=> ?_;have:lt b.aV n=true:=by
     rcases (jT (a::l) r n).mp hn with h|h
     ·simp only[ajM,ajR]at h;rcases h with h|h
      ·subst h;exact h2
      ·exact rI h2 (ha.head n h)
     ·exact hb.head n h
    rw[yJ this]
   next h2=>
    have e:=C4 (by simpa using h1) (by simpa using h2);have ih:=zu l r ha.tail hb.tail;rw[ajM,ajM,yL];rw[show gT (b::r) a.aV=b.cH.toInt from by rw[e];exact yL b r];refine congrArg _ ?_
    conv=>lhs;rw[ih]
    refine ajS fun n hn=> ?_;have:lt a.aV n=true:=by
     rcases (jT l r n).mp hn with h|h
     ·exact ha.head n h
     ·rw[e];exact hb.head n h
    rw[yJ this,yJ (show lt b.aV n=true from e▸this)]
termination_by a b=>a.length+b.length
theorem Qu:∀(l:akb aU)(p:akd akc),qV p l=true→lS l∧∀q,p=some q→∀x∈l.map (·.aV),lt q x=true
 |[],p,_=>⟨by simp [lS,mf],fun _ _ x hx=>by simp at hx⟩
 |m::l,p,h=>by
  rw[Na]at h;simp only[ajp]at h;obtain⟨_,_,h3,h4⟩:=h;obtain⟨i1,i2⟩:=Qu l (some m.aV) h4;refine⟨List.pairwise_cons.mpr ⟨i2 _ rfl,i1⟩,fun q hq x hx=> ?_⟩;subst hq;simp only[ajM,ajR]at hx;rcases hx with e|e
  ·subst e;exact h3
  ·exact rI h3 (i2 _ rfl x e)
theorem Uq{x:aF}(h:dM x=true):lS x.xL:=(Qu _ _ h).1
theorem aiJ(a b:aF):Mj a b=j9 a b:=by
 unfold Mj j9;split
 next h=>
  simp only[ajp]at h;have ha:=Uq h.1;have hb:=Uq h.2;obtain⟨f1,f2⟩:=Wi ([a,b].flatMap fun x=>x.xL.map (·.aV)) [] (by simp [mf]);have hn:tf [a,b]=(dJ a.xL b.xL).map (·.1):=PE f1 (xE _ _ ha hb) fun x=>by
   rw[jT];unfold tf;rw[f2 x];simp
  rw[hn,←zu _ _ ha hb]
 ·rfl
def mz(l:aF):Prop:=l.xL.length≤maxLen
structure QY(x:aI):Prop where
 fZ:mz x.aK
 at_:∀l∈x.bC,mz l
structure AK(e:an):Prop where
 fZ:mz e.aK
 idx:∀x∈e.xIdx,QY x
 args:e.ax.length≤maxLen
def qC(e:an):Prop:=∀x∈cQ e,AK x
def vN(l:aF):Bool:=l.xK.toInt==0&&l.xL.length==0
def n6(x:aI):Bool:=bif bL x.bU==[]then x.bC.length==0 else vN x.aK
def Jy(v:ay):Bool:=v.xN.toInt==0&&v.xD.toInt==0
def GZ(t:aD):Bool:=t.a8==0&&(t.bz==0&&(t.bE==0&&(t.bK==0&&t.bI==0)))
def my(e:an):Bool:=decide (1≤e.ar)&&(decide (e.ar≤18)&&((e.ar==1||Jy e.ba)&&((e.ar==1||(e.ar==12||GZ e.aC))&&((e.ar==2||vN e.aK)&&((e.ar==3||(bL e.aV==[]&&e.xIdx.length==0))&&e.xIdx.all n6)))))
def qH(e:an):Bool:=(!(e.ar==3)||nameB e.aV)&&e.xIdx.all fun x=>bL x.bU==[]||nameB x.bU
def kG(op:Int):Int:=bif op==1||(op==2||op==3)then 0 else bif op==8||(op==12||op==18)then 1 else bif op==11 then 3 else 2
def mU(e:an):Bool:=(e.ax.length:Int)==kG e.ar&&(decide (e.xIdx.length≤6)&&e.xIdx.all fun x=>decide (x.bC.length≤6))
def eu(e:an):Bool:=decide (13≤e.ar)&&decide (e.ar≤18)
def ke(op:Int)(i:Nat):Bool:=(op==11&&i==0)||(op==16||(op==17||op==18))
def sL(op:Int):Nat→akb an→Bool
 |_,[]=>true
 |i,a::l=>eu a==ke op i&&sL op (i+1) l
def kP(e:an):Bool:=(!(e.ar==1||e.ar==12)||cO e.aC)&&sL e.ar 0 e.ax
def vS(e:an):Bool:=(!(e.ar==1)||cW e.aC e.ba)&&(mI e).all dM
def mJ(e:an):Int:=bif my e then bif qH e then bif mU e then bif kP e then bif vS e then 0 else 1 else 10 else 11 else 7 else 5
theorem sW(n:Nat):((n:Int)==(0:Int))=(n==0):=lY n 0
theorem Lc(n:Nat):decide ((n:Int)>(0:Int))= !(n==0):=by
 by_cases h:n=0
 ·subst h;rfl
 ·rw[aj4 (show(n:Int)>0 by omega),beq_false_of_ne h];rfl
theorem Qv(N:Nat)(l:aF):yC N l=some (vN l):=by
 unfold yC vN;rw[dp,ajm,sW]
theorem afv(N:Nat)(x:aI):C2 N x=some (n6 x):=by
 unfold C2 n6;rw[Qv,ajm,sW,vG];cases bL x.bU==[]<;>rfl
theorem L6{α:Type}(f:α→Bool)(l:akb α):(l.any fun x=> !f x)= !l.all f:=by
 induction l with
 |nil=>rfl
 |cons x l ih=>rw[aj8,aj7,ih];cases f x<;>rfl
theorem V5(N:Nat):∀(l:akb aI)(k:Nat),∃z:Int,vC N l k=some z∧decide (z≥0)=l.any fun x=> !n6 x
 |[],k=>⟨-1,rfl,rfl⟩
 |x::l,k=>by
  rw[vC,aj8];unfold Gs;rw[afv,ajm,ajm];cases h: !n6 x with
  |true=>exact⟨k,rfl,aj4 (by omega)⟩
  |false=>exact V5 N l (k+1)
theorem aao(N:Nat)(l:akb aI):EU N l=some (!l.all n6):=by
 unfold EU HI;obtain⟨z,h1,h2⟩:=V5 N l 0;rw[h1,ajm,h2,L6]
theorem S4(v:ay):((v.xN.toInt==(0:Int64).toInt)&&((v.xD.toInt==(0:Int64).toInt)&&true))=Jy v:=by rw[Bool.and_true];rfl
theorem Qa(t:aD):((t.a8==(0:Int))&&((t.bz==(0:Int))&&((t.bE==(0:Int))&&((t.bK==(0:Int))&&((t.bI==(0:Int))&&true)))))=GZ t:=by rw[Bool.and_true];rfl
theorem qF(a b:Bool):(bif a then some false else some b)=some (!a&&b):=by cases a<;>rfl
theorem QF(a b:Bool):(bif a then some b else some true)=some (!a||b):=by cases a<;>rfl
theorem ahr(N:Nat)(e:an):EC N e=some (my e):=by
 unfold EC my;simp only[Lc];simp only[ik,dp,qF,QF,ajm,By,Nz,Qv,aao,S4,Qa,vG];cases decide (1≤e.ar)<;>cases decide (e.ar≤18)<;>cases e.ar==1<;>cases Jy e.ba<;>cases e.ar==12<;>cases GZ e.aC<;>cases e.ar==2<;>cases vN e.aK<;>cases e.ar==3<;>cases bL e.aV==[]<;>cases e.xIdx.length==0<;>cases e.xIdx.all n6<;>rfl
theorem TH(N:Nat):∀(l:akb aI)(k:Nat),vb N l k=some (l.all n6)
 |[],_=>rfl
 |x::l,k=>by
  rw[vb,aj7,TH N l (k+1)];unfold n6 vN;simp only[ik,Zu,dp,ajm,Lc,fu,vG];cases bL x.bU==[]<;>cases x.bC.length==0<;>cases x.aK.xK.toInt==0<;>cases x.aK.xL.length==0<;>rfl
theorem Xd(N:Nat)(e:an):BQ N e=some (my e):=by
 unfold BQ my;simp only[Lc];simp only[ik,dp,qF,QF,ajm,By,Nz,fu,TH,S4,Qa,vG];unfold vN;cases decide (1≤e.ar)<;>cases decide (e.ar≤18)<;>cases e.ar==1<;>cases Jy e.ba<;>cases e.ar==12<;>cases GZ e.aC<;>cases e.ar==2<;>cases e.aK.xK.toInt==0<;>cases e.aK.xL.length==0<;>cases e.ar==3<;>cases bL e.aV==[]<;>cases e.xIdx.length==0<;>cases e.xIdx.all n6<;>rfl
theorem aeU(N:Nat)(hN:16<N)(x:aI):Bj N x=some (!(bL x.bU==[]||nameB x.bU)):=by
 unfold Bj;rw[RQ N _ hN,ajm,qF,ajm,vG];cases bL x.bU==[]<;>rfl
theorem Tb(N:Nat)(hN:16<N):∀(l:akb aI)(k:Nat),∃z:Int,wC N l k=some z∧decide (z≥0)=l.any fun x=> !(bL x.bU==[]||nameB x.bU)
 |[],k=>⟨-1,rfl,rfl⟩
 |x::l,k=>by
  rw[wC,aj8,aeU N hN,ajm];cases h: !(bL x.bU==[]||nameB x.bU)with
  |true=>exact⟨k,rfl,aj4 (by omega)⟩
  |false=>exact Tb N hN l (k+1)
theorem aco(N:Nat)(hN:16<N)(e:an):E7 N e=some (qH e):=by
 unfold E7 qH Il IX;obtain⟨z,h1,h2⟩:=Tb N hN e.xIdx 0;rw[RQ N _ hN,ajm,h1];simp only[ajm,h2,L6,dp,qF];cases e.ar==3<;>cases nameB e.aV<;>cases (e.xIdx.all fun x=>bL x.bU==[]||nameB x.bU)<;>rfl
theorem RT(N:Nat)(hN:16<N):∀(l:akb aI)(k:Nat),xc N l k=some (l.all fun x=>bL x.bU==[]||nameB x.bU)
 |[],_=>rfl
 |x::l,k=>by
  rw[xc,aj7,RT N hN l (k+1),Me N _ hN,ajm,qF,ajm,qF,vG];cases bL x.bU==[]<;>cases nameB x.bU<;>rfl
theorem adY(N:Nat)(hN:16<N)(e:an):C0 N e=some (qH e):=by
 unfold C0 qH;rw[Me N _ hN,ajm,RT N hN];simp only[ajm,dp,qF];cases e.ar==3<;>cases nameB e.aV<;>rfl
theorem RA(N:Nat):∀(l:akb aI)(k:Nat),∃z:Int,uQ N l k=some z∧decide (z≥0)=l.any fun x=> !decide (x.bC.length≤6)
 |[],k=>⟨-1,rfl,rfl⟩
 |x::l,k=>by
  rw[uQ,aj8];unfold Jp;rw[ajm,show decide ((x.bC.length:Int)>(6:Int))= !decide (x.bC.length≤6)from ru _ 6];cases h: !decide (x.bC.length≤6)with
  |true=>exact⟨k,rfl,aj4 (by omega)⟩
  |false=>exact RA N l (k+1)
theorem abd(N:Nat)(op:Int):A4 N op=some (kG op):=by
 unfold A4 ye Al kG;cases op==1<;>cases op==2<;>cases op==3<;>cases op==8<;>cases op==12<;>cases op==18<;>cases op==11<;>rfl
theorem ag6(N:Nat)(op:Int):DD N op=some (kG op):=by
 unfold DD AN yi kG;cases op==1<;>cases op==2<;>cases op==3<;>cases op==8<;>cases op==12<;>cases op==18<;>cases op==11<;>rfl
theorem aeu(N:Nat)(e:an):Fh N e=some (mU e):=by
 unfold Fh mU GB Hk;obtain⟨z,h1,h2⟩:=RA N e.xIdx 0;rw[abd,ajm,h1,show decide ((e.xIdx.length:Int)>(6:Int))= !decide (e.xIdx.length≤6)from ru _ 6];simp only[ajm,h2,L6,ik,qF,fu];cases (e.ax.length:Int)==kG e.ar<;>cases decide (e.xIdx.length≤6)<;>cases (e.xIdx.all fun x=>decide (x.bC.length≤6))<;>rfl
theorem RF(N:Nat):∀(l:akb aI)(k:Nat),w7 N l k=some (l.all fun x=>decide (x.bC.length≤6))
 |[],_=>rfl
 |x::l,k=>by
  rw[w7,aj7,RF N l (k+1),show decide ((x.bC.length:Int)>(6:Int))= !decide (x.bC.length≤6)from ru _ 6];cases decide (x.bC.length≤6)<;>rfl
theorem aiu(N:Nat)(e:an):A0 N e=some (mU e):=by
 unfold A0 mU;rw[ag6,ajm,RF,show decide ((e.xIdx.length:Int)>(6:Int))= !decide (e.xIdx.length≤6)from ru _ 6];simp only[ajm,ik,qF,fu];cases (e.ax.length:Int)==kG e.ar<;>cases decide (e.xIdx.length≤6)<;>rfl
theorem Tx(N:Nat)(e:an):zg N e=some (eu e):=by
 unfold zg eu;rw[dp,ajm]
theorem Ul(N:Nat)(e:an):xB N e=some (eu e):=by
 unfold xB eu;rw[kI,dp,ajm]
theorem abt(N:Nat)(op:Int)(i:Nat):Dt N op (i:Int)=some (ke op i):=by
 unfold Dt yO ke;rw[sW];cases op==16<;>cases op==17<;>cases op==18<;>cases op==11<;>cases i==0<;>rfl
theorem afl(N:Nat)(op:Int)(i:Nat):D4 N op (i:Int)=some (ke op i):=by
 unfold D4 ke;rw[sW];cases op==16<;>cases op==17<;>cases op==18<;>cases op==11<;>cases i==0<;>rfl
theorem T5(N:Nat)(e:an):∀(l:akb an)(i:Nat),uG N e l i=some (sL e.ar i l)
 |[],_=>rfl
 |a::l,i=>by
  rw[uG,sL,Tx,ajm,abt,ajm,T5 N e l (i+1)];cases eu a==ke e.ar i<;>rfl
theorem Wd(N:Nat)(e:an):∀(l:akb an)(i:Nat),wN N e l i=some (sL e.ar i l)
 |[],_=>rfl
 |a::l,i=>by
  rw[wN,sL,Ul,ajm,afl,ajm,Wd N e l (i+1)];cases eu a==ke e.ar i<;>rfl
theorem aiI(b:Bool):((bif b then(0:Int)else 10) !=0)= !b:=by cases b<;>rfl
theorem abD(N:Nat)(e:an):BV N e=some (kP e):=by
 unfold BV kP;rw[od,ajm,T5];simp only[aiI];cases e.ar==1<;>cases e.ar==12<;>cases cO e.aC<;>rfl
theorem aab(N:Nat)(e:an):EW N e=some (kP e):=by
 unfold EW kP;rw[sf,ajm,Wd];cases e.ar==1<;>cases e.ar==12<;>cases cO e.aC<;>rfl
theorem ae0(b:Bool):((bif b then(0:Int)else 1) !=0)= !b:=by cases b<;>rfl
theorem Ta(N:Nat)(hN:16<N):∀l:akb aF,(∀x∈l,mz x)→sq N l=some (bif l.all dM then 0 else 1)
 |[],_=>rfl
 |x::l,h=>by
  rw[sq,GG N hN x (h x ajt),ajm,ae0,Ta N hN l (fun y hy=>h y (ajw _ hy)),aj7];cases dM x<;>rfl
theorem Vv(N:Nat)(hN:16<N)(c:Bool):∀(l:akb aF)(k:Nat),(∀x∈l,mz x)→u6 N (some c) l k=some (l.all dM&&c)
 |[],_,_=>rfl
 |x::l,k,h=>by
  rw[u6,Jq N hN x (h x ajt),ajm,Vv N hN c l (k+1) (fun y hy=>h y (ajw _ hy)),aj7];cases dM x<;>rfl
theorem P4(N:Nat)(hN:16<N):∀(l:akb aI)(k:Nat),(∀x∈l,QY x)→rQ N l k=some ((l.flatMap wg).all dM)
 |[],_,_=>rfl
 |x::l,k,h=>by
  have hx:=h x ajt;rw[rQ,Jq N hN _ hx.fZ,ajm,P4 N hN l (k+1) (fun y hy=>h y (ajw _ hy)),Vv N hN _ _ _ hx.at_,List.flatMap_cons,wg,List.cons_append,aj7,List.all_append];cases dM x.aK<;>rfl
theorem agv{e:an}(h:AK e):∀x∈mI e,mz x:=by
 intro x hx;unfold mI at hx;rcases ajR.1 hx with rfl|hx
 ·exact h.fZ
 ·obtain⟨y,hy,hx⟩:=List.mem_flatMap.1 hx;unfold wg at hx;rcases ajR.1 hx with rfl|hx
  ·exact(h.idx y hy).fZ
  ·exact(h.idx y hy).at_ x hx
theorem aap(N:Nat)(hN:2147483648<N)(e:an)(h:AK e)(ht:kP e=true):Bu N e=some (vS e):=by
 unfold Bu vS mI;rw[aj7,Jq N (by omega) _ h.fZ,ajm,P4 N (by omega) _ _ h.idx];cases h1:e.ar==1 with
 |true=>
  have DF:cO e.aC=true:=by
   unfold kP at ht;rw[h1]at ht;simp only[Bool.true_or,Bool.not_true,Bool.false_or,ajp]at ht;exact ht.1
  rw[qg N hN _ _ DF,ajm];cases cW e.aC e.ba<;>cases dM e.aK<;>rfl
 |false=>cases dM e.aK<;>rfl
theorem Zc(N:Nat)(hN:2147483648<N)(e:an)(h:AK e):Dl N e=some (mJ e):=by
 unfold Dl mJ;rw[ahr,ajm];cases my e with
 |false=>rfl
 |true=>
  simp only[cond_true];rw[aco N (by omega),ajm];cases qH e with
  |false=>rfl
  |true=>
   simp only[cond_true];rw[aeu,ajm];cases mU e with
   |false=>rfl
   |true=>
    simp only[cond_true];rw[abD,ajm];cases ht:kP e with
    |false=>rfl
    |true=>
     simp only[cond_true];have hf:sq N (mI e)=_:=Ta N (by omega) (mI e) (agv h);unfold vS Of;rw[ajm,hf];cases h1:e.ar==1 with
     |true=>
      have DF:cO e.aC=true:=by
       unfold kP at ht;rw[h1]at ht;simp only[Bool.true_or,Bool.not_true,Bool.false_or,ajp]at ht;exact ht.1
      rw[ta N hN _ _ DF,ajm];cases cW e.aC e.ba<;>cases (mI e).all dM<;>rfl
     |false=>cases (mI e).all dM<;>rfl
theorem fy{e x:an}(h:x∈e.ax):SizeOf.sizeOf x<SizeOf.sizeOf e:=by
 have h1:=List.sizeOf_lt_of_mem h;cases e
 simp only[an.mk.sizeOf_spec]at*;omega
theorem lu{e x y:an}(h:x∈e.ax)(hy:y∈cQ x):y∈cQ e:=by
 have gen:∀l:akb an,x∈l→y∈iI l:=by
  intro l
  induction l with
  |nil=>intro h;cases h
  |cons z l ih=>
   intro h;rw[Aw];rcases ajR.1 h with rfl|h
   ·exact List.mem_append_left _ hy
   ·exact List.mem_append_right _ (ih h)
 exact ajw _ (gen _ h)
theorem qC.node{e:an}(h:qC e):AK e:=h e ajt
theorem qC.arg{e x:an}(h:qC e)(hx:x∈e.ax):qC x:=fun y hy=>h y (lu hx hy)
def jr:akb an→Int
 |[]=>0
 |x::l=>bif mJ x !=0 then mJ x else jr l
theorem TI:∀a b:akb an,jr (a++b)=bif jr a !=0 then jr a else jr b
 |[],_=>rfl
 |x::a,b=>by
  rw[List.cons_append,jr,jr,TI a b];cases h:mJ x !=0 with
  |true=>simp only[cond_true,h]
  |false=>rfl
theorem UJ(N:Nat)(hN:2147483648<N):∀l:akb an,(∀x∈l,AK x)→wR N l=some (jr l)
 |[],_=>rfl
 |x::l,h=>by
  rw[wR,Zc N hN x (h x ajt),ajm,UJ N hN l (fun y hy=>h y (ajw _ hy)),jr];cases mJ x !=0<;>rfl
theorem UM(N:Nat)(rec:an→akd Int):∀(l:akb an)(k:Nat),(∀x∈l,rec x=some (jr (cQ x)))→wQ N rec l k=some (jr (iI l))
 |[],_,_=>by rw[iI];rfl
 |x::l,k,h=>by
  rw[wQ,h x ajt,ajm,UM N rec l (k+1) (fun y hy=>h y (ajw _ hy)),Aw,TI];cases jr (cQ x) !=0<;>rfl
theorem RJ(N:Nat)(hN:2147483648<N):∀(d:Nat)(e:an),SizeOf.sizeOf e<d→qC e→pN N d e=some (jr (cQ e))
 |0,_,h,_=>absurd h (ajP _)
 |d+1,e,h,hk=>by
  rw[pN];have hl:=UM N (pN N d) e.ax 0 fun x hx=>RJ N hN d x (by have:=fy hx;omega) (hk.arg hx);unfold cQ;rw[jr];unfold mJ;rw[Xd,ajm];cases my e with
  |false=>rfl
  |true=>
   simp only[cond_true];rw[adY N (by omega),ajm];cases qH e with
   |false=>rfl
   |true=>
    simp only[cond_true];rw[aiu,ajm];cases mU e with
    |false=>rfl
    |true=>
     simp only[cond_true];rw[aab,ajm];cases ht:kP e with
     |false=>rfl
     |true=>
      simp only[cond_true];rw[aap N hN e hk.node ht,ajm,hl];cases vS e<;>rfl
def gn:Nat→an→Nat
 |0,_=>1
 |L+1,e=>e.ax.foldl (fun m a=>max m (1+gn L a)) 1
theorem Pc{α:Type}(f:α→Nat)(b:Nat):∀(l:akb α)(m:Nat),m≤b→(∀x∈l,f x≤b)→l.foldl (fun m a=>max m (f a)) m≤b
 |[],_,h,_=>h
 |x::l,_,h,hl=>Pc f b l _ (Nat.max_le.2 ⟨h,hl x ajt⟩) fun y hy=>hl y (ajw _ hy)
theorem KJ:∀(L:Nat)(e:an),gn L e≤L+1
 |0,_=>ajy _
 |L+1,e=>Pc (fun a=>1+gn L a) (L+2) e.ax 1 (by omega) fun x _=>by have:=KJ L x;show 1+gn L x≤L+2;omega
theorem rZ{z:Int}(h1: -9223372036854775808≤z)(h2:z<9223372036854775808):aS z=z:=by
 unfold aS;rw[IntKind.wrap_i64];omega
theorem SS(a b:Nat):(if((a:Nat):Int)>((b:Nat):Int)then((a:Nat):Int)else(b:Int))=((max b a:Nat):Int):=by
 split<;>omega
theorem RX(N:Nat)(rec:an→Int→akd Int)(L:Nat)(hL:L≤100):∀(l:akb an)(k m:Nat),(∀x∈l,rec x ((L:Int)+1)=some ((gn L x:Nat):Int))→vQ N rec ((L:Int)+1+1) l k (m:Int)=some ((l.foldl (fun m a=>max m (1+gn L a)) m:Nat):Int)
 |[],_,_,_=>rfl
 |x::l,k,m,h=>by
  have h1:=KJ L x;rw[vQ,rZ (by omega) (by omega),show(L:Int)+1+1-1=(L:Int)+1 by omega,h x ajt,ajm];rw[rZ (by omega) (by omega),show(1:Int)+((gn L x:Nat):Int)=((1+gn L x:Nat):Int) by omega,SS];exact RX N rec L hL l (k+1) _ fun y hy=>h y (ajw _ hy)
theorem Wa(N:Nat):∀(L d:Nat)(e:an),L<d→L≤100→m3 N d e ((L:Int)+1)=some ((gn L e:Nat):Int)
 |L,0,_,h,_=>absurd h (ajP _)
 |0,d+1,e,_,_=>by rw[m3];rfl
 |L+1,d+1,e,h,hL=>by
  rw[m3,aj5 (by omega)];simp only[cond_false];exact RX N (m3 N d) L (by omega) e.ax 0 1 fun x _=>Wa N L d x (by omega) (by omega)
theorem Pv(N:Nat)(rec:an→Int→akd Int)(L:Nat)(hL:L≤100):∀(l:akb an)(k m:Nat),(∀x∈l,rec x ((L:Int)+1)=some ((gn L x:Nat):Int))→ri N ((L:Int)+1+1) rec l k (m:Int)=some ((l.foldl (fun m a=>max m (1+gn L a)) m:Nat):Int)
 |[],_,_,_=>rfl
 |x::l,k,m,h=>by
  have h1:=KJ L x;rw[ri,aj4 (show(L:Int)+1+1>1 by omega)];simp only[cond_true];rw[rZ (by omega) (by omega),show(L:Int)+1+1-1=(L:Int)+1 by omega,h x ajt,ajm];rw[rZ (by omega) (by omega),show(1:Int)+((gn L x:Nat):Int)=((1+gn L x:Nat):Int) by omega,SS];exact Pv N rec L hL l (k+1) _ fun y hy=>h y (ajw _ hy)
theorem aih(N:Nat)(rec:an→Int→akd Int):∀l:akb an,ri N 1 rec l 0 1=some 1
 |[]=>rfl
 |x::l=>by rw[ri];rfl
theorem Q4(N:Nat):∀(L d:Nat)(e:an),L<d→L≤100→ng N d e ((L:Int)+1)=some ((gn L e:Nat):Int)
 |L,0,_,h,_=>absurd h (ajP _)
 |0,d+1,e,_,_=>by rw[ng];exact aih N _ _
 |L+1,d+1,e,h,hL=>by
  rw[ng];exact Pv N (ng N d) L (by omega) e.ax 0 1 fun x _=>Q4 N L d x (by omega) (by omega)
theorem Sc(N:Nat):∀(l:akb an)(v:Nat),v≤2000→tI N l (v:Int)=some ((min (v+l.length) 2001:Nat):Int)
 |[],v,h=>by rw[tI];congr 2;simp only[ajz];omega
 |x::l,v,h=>by
  rw[tI,rZ (by omega) (by omega)];by_cases h2:v+1>2000
  ·rw[aj4 (by omega)];simp only[cond_true]
   congr 1
   simp only[ajq];omega
  ·rw[aj5 (by omega)];simp only[cond_false];rw[show(v:Int)+1=((v+1:Nat):Int) by omega,Sc N l (v+1) (by omega)]
   congr 3
   simp only[ajq];omega
theorem ahQ(N:Nat)(e:an):Dv N e=some ((min (cQ e).length 2001:Nat):Int):=by
 unfold Dv G7;have:=Sc N (cQ e) 0 (by omega);rw[ajH]at this;exact this
theorem QX(N:Nat)(rec:an→Int→akd Int)(m:Nat)(hm:m≤4000):∀(l:akb an)(k n:Nat),n≤m+1→(∀x∈l,∀q:Nat,q≤m→rec x (q:Int)=some ((min (cQ x).length (q+1):Nat):Int))→tT N (m:Int) rec l k (n:Int)=some ((min (n+(iI l).length) (m+1):Nat):Int)
 |[],k,n,hn,_=>by rw[tT,iI];congr 2;simp only[ajz];omega
 |x::l,k,n,hn,h=>by
  rw[tT];by_cases h2:n≤m
  ·rw[aj4 (by omega)];simp only[cond_true];rw[rZ (by omega) (by omega),show(m:Int)-(n:Int)=((m-n:Nat):Int) by omega,h x ajt (m-n) (by omega),ajm];rw[rZ (by omega) (by omega),show(n:Int)+((min (cQ x).length (m-n+1):Nat):Int)=((n+min (cQ x).length (m-n+1):Nat):Int) by omega];rw[QX N rec m hm l (k+1) _ (by omega) fun y hy=>h y (ajw _ hy),Aw,ajo]
   congr 2
   omega
  ·rw[aj5 (by omega)];simp only[cond_false]
   congr 1
   omega
theorem Wr(N:Nat):∀(d:Nat)(e:an)(m:Nat),SizeOf.sizeOf e<d→m≤4000→nY N d e (m:Int)=some ((min (cQ e).length (m+1):Nat):Int)
 |0,_,_,h,_=>absurd h (ajP _)
 |d+1,e,m,h,hm=>by
  rw[nY];have:=QX N (nY N d) m hm e.ax 0 1 (by omega) fun x hx q hq=>Wr N d x q (by have:=fy hx;omega) (by omega);rw[show((1:Nat):Int)=1 from rfl]at this;rw[this]
  congr 2
  unfold cQ;simp only[ajq];omega
def jE(e:an):Int:=bif decide (40<gn 40 e)then 13 else bif decide (2000<(cQ e).length)then 2 else jr (cQ e)
theorem Ye(N:Nat)(hN:2147483648<N)(e:an)(h:qC e):Cw N e=some (jE e):=by
 unfold Cw IF Lv jE;have hd:m3 N N e 41=_:=Wa N 40 N e (by omega) (by omega);rw[hd,ajm,ajm,ahQ,ajm];rw[kW (p:=((gn 40 e:Nat):Int)>40) (q:=40<gn 40 e) (by omega),kW (p:=((min (cQ e).length 2001:Nat):Int)>2000) (q:=2000<(cQ e).length) (by omega)];cases decide (40<gn 40 e)<;>cases decide (2000<(cQ e).length)<;>try rfl
 simp only[cond_false];exact UJ N hN (cQ e) h
theorem aey(N:Nat)(hN:2147483648<N)(e:an)(hs:SizeOf.sizeOf e<N)(h:qC e):DP N e=some (jE e):=by
 unfold DP IP Lz HR KB L7 jE;have hd:ng N N e 41=_:=Q4 N 40 N e (by omega) (by omega);have hz:nY N N e 2000=_:=Wr N N e 2000 hs (by omega);rw[hd,ajm,ajm,hz,ajm,ajm,RJ N hN N e hs h,ajm];rw[kW (p:=((gn 40 e:Nat):Int)>40) (q:=40<gn 40 e) (by omega)];rw[show(if(2001:Int)<((min (cQ e).length 2001:Nat):Int)then(2001:Int)else((min (cQ e).length 2001:Nat):Int))=((min (cQ e).length 2001:Nat):Int) by split<;>omega];rw[kW (p:=((min (cQ e).length 2001:Nat):Int)>2000) (q:=2000<(cQ e).length) (by omega)];cases decide (40<gn 40 e)<;>cases decide (2000<(cQ e).length)<;>rfl
section
variable {m:akb (akc×Int)} {S T:akb akc}
theorem UI{a:Int}(h:(a !=0)=false):a=0:=by
 rw[bne_eq_false_iff_eq]at h;exact h
theorem Ib{n:Nat}(h:n≤9223372036854775807):aS (n:Int)=(n:Int):=rZ (by omega) (by omega)
end
def pw(B:Nat)(l:aF):Prop:=l.xL.length≤B
theorem pw.ok{l:aF}(h:pw 1000000000 l):mz l:=ajF h (by decide)
theorem nB{n k:Nat}(h:n≤k):Nat.ble n k=true:=Nat.ble_eq_true_of_le h
theorem aaA{α:Type}{l:akb α}{i:Nat}{d:α}(h:l[i]?=some d):d∈l:=ajA h
theorem Hn(a b:Nat):((a:Int) !=(b:Int))= !(a==b):=VK a b
set_option maxRecDepth 100000
theorem oC(n:Int):(Int64.ofInt n).toInt=IntKind.i64.wrap n:=by
 have h:=eK n;unfold aw aH aS at h;injection h with h;injection h with h;injection h with _ h;exact h.symm
theorem EJ(a b:Int64):(a+b).toInt=IntKind.i64.wrap (a.toInt+b.toInt):=by
 have h:=lg a b;unfold aw aH aS at h;injection h with h;injection h with h;injection h with _ h;exact h.symm
theorem IG(a b:Int64):(a*b).toInt=IntKind.i64.wrap (a.toInt*b.toInt):=by
 have h:=dN a b;unfold aw aH aS at h;injection h with h;injection h with h;injection h with _ h;exact h.symm
theorem G4(a b:Int64):(a-b).toInt=IntKind.i64.wrap (a.toInt-b.toInt):=by
 have h:=ga a b;unfold aw aH aS at h;injection h with h;injection h with h;injection h with _ h;exact h.symm
theorem iF(a:Int64): -9223372036854775808≤a.toInt∧a.toInt≤9223372036854775807:=sE.1 (ahg a)
theorem xl{a b:Int64}(h:a.toInt=b.toInt):a=b:=Int64.toInt_inj.1 h
theorem Gq(a b:Int64):Int64.ofInt (a.toInt+b.toInt)=a+b:=xl (by rw[oC,EJ])
theorem I2(a b:Int64):Int64.ofInt (a.toInt*b.toInt)=a*b:=xl (by rw[oC,IG])
theorem JU(x:Int)(h:0≤x∧x<18446744073709551616):IntKind.u64.wrap ((BitVec.ofInt IntKind.u64.bits x&&&BitVec.ofInt IntKind.u64.bits 4294967295).toNat:Int)=x%4294967296:=by
 obtain⟨n,rfl⟩:=Int.eq_ofNat_of_zero_le h.1;have e:(BitVec.ofInt IntKind.u64.bits (n:Int)&&&BitVec.ofInt IntKind.u64.bits 4294967295).toNat=n%4294967296:=by
  show(BitVec.ofInt 64 (n:Int)&&&BitVec.ofInt 64 4294967295).toNat=_;rw[BitVec.toNat_and];have h1:(BitVec.ofInt 64 (n:Int)).toNat=n:=by
   rw[BitVec.toNat_ofInt];omega
  have h2:(BitVec.ofInt 64 (4294967295:Int)).toNat=2^32-1:=by decide
  rw[h1,h2,Nat.and_two_pow_sub_one_eq_mod]
 rw[e,IntKind.wrap_u64];omega
theorem X5(x:Int):x.fdiv (2^min (32:Int).toNat IntKind.u64.bits)=x / 4294967296:=by
 show x.fdiv 4294967296=_;rw[Int.fdiv_eq_ediv_of_nonneg _ (by omega)]
theorem ae1(a b:Int)(ha:0≤a∧a<18446744073709551616)(hb:0≤b∧b<18446744073709551616):
 let ah:=a / 4294967296
 let al:=a%4294967296
 let bh:=b / 4294967296
 let bl:=b%4294967296
 let W:=IntKind.u64.wrap
 let low:=W (al*bl)
 let uZ:=W (W (ah*bl)+low / 4294967296)
 let I9:=W (W (al*bh)+uZ%4294967296)
 W (W (W (ah*bh)+uZ / 4294967296)+I9 / 4294967296)=a*b / 18446744073709551616:=by
 intro ah al bh bl W low uZ I9;have h1:0≤ah∧ah≤4294967295:=by omega
 have h2:0≤al∧al≤4294967295:=by omega
 have h3:0≤bh∧bh≤4294967295:=by omega
 have h4:0≤bl∧bl≤4294967295:=by omega
 have pb:∀{x y:Int},(0≤x∧x≤4294967295)→(0≤y∧y≤4294967295)→0≤x*y∧x*y≤18446744065119617025:=fun hx hy=>
  ⟨Int.mul_nonneg hx.1 hy.1,Int.le_trans (Int.mul_le_mul hx.2 hy.2 hy.1 (by omega)) (by decide)⟩
 have p1:=pb h1 h3;have p2:=pb h1 h4;have p3:=pb h2 h3;have p4:=pb h2 h4;have e:a*b=18446744073709551616*(ah*bh)+4294967296*(ah*bl)+4294967296*(al*bh)+al*bl:=by
  have ea:a=4294967296*ah+al:=by omega
  have eb:b=4294967296*bh+bl:=by omega
  have:∀x y z w:Int,(4294967296*x+y)*(4294967296*z+w)=18446744073709551616*(x*z)+4294967296*(x*w)+4294967296*(y*z)+y*w:=fun x y z w=>by
   rw[Int.add_mul,Int.mul_add,Int.mul_add];rw[show 4294967296*x*(4294967296*z)=18446744073709551616*(x*z)from by
     rw[Int.mul_assoc,Int.mul_left_comm x,←Int.mul_assoc];rfl]
   rw[Int.mul_assoc 4294967296 x w,Int.mul_left_comm y];omega
  rw[←this,←ea,←eb]
 generalize hP:ah*bh=P at*;generalize hQ:ah*bl=Q at*;generalize hR:al*bh=R at*;generalize hT:al*bl=T at*;have w1:low=T:=by show IntKind.u64.wrap _=_;rw[IntKind.wrap_u64];omega
 have w2:uZ=Q+T / 4294967296:=by show IntKind.u64.wrap (IntKind.u64.wrap _+low / _)=_;rw[IntKind.wrap_u64,IntKind.wrap_u64,w1];omega
 have w3:I9=R+uZ%4294967296:=by show IntKind.u64.wrap (IntKind.u64.wrap _+uZ%_)=_;rw[IntKind.wrap_u64,IntKind.wrap_u64];omega
 show IntKind.u64.wrap (IntKind.u64.wrap (IntKind.u64.wrap P+uZ / 4294967296)+I9 / 4294967296)=_;rw[IntKind.wrap_u64,IntKind.wrap_u64,IntKind.wrap_u64,e,w3,w2];omega
theorem Y1(n:Int):0≤IntKind.u64.wrap n∧IntKind.u64.wrap n<18446744073709551616:=by rw[IntKind.wrap_u64];omega
theorem YG(N:Nat)(a b:Int)(ha:0≤a∧a<18446744073709551616)(hb:0≤b∧b<18446744073709551616):CM N a b=some (a*b / 18446744073709551616,a*b%18446744073709551616):=by
 unfold CM;simp only[JU _ ha,JU _ hb,JU _ (Y1 _),X5];rw[ae1 a b ha hb,IntKind.wrap_u64 (a*b)]
theorem Wg(N:Nat)(a:Int64):yX N a=some (a.toInt.natAbs:Int):=by
 unfold yX;have:=iF a;rw[IntKind.wrap_u64,IntKind.wrap_u64];by_cases h:a.toInt<0
 ·rw[aj4 h,cond_true];congr 1;omega
 ·rw[aj5 h,cond_false];congr 1;omega
theorem agm(a b:Int):(a.natAbs:Int)*b.natAbs=if(decide (a<0)==decide (b<0))=true then a*b else-(a*b):=by
 by_cases h1:a<0<;>by_cases h2:b<0
 ·rw[show(a.natAbs:Int)= -a by omega,show(b.natAbs:Int)= -b by omega,Int.neg_mul_neg];simp [h1,h2]
 ·rw[show(a.natAbs:Int)= -a by omega,show(b.natAbs:Int)=b by omega,Int.neg_mul];simp [h1,h2]
 ·rw[show(a.natAbs:Int)=a by omega,show(b.natAbs:Int)= -b by omega,Int.mul_neg];simp [h1,h2]
 ·rw[show(a.natAbs:Int)=a by omega,show(b.natAbs:Int)=b by omega];simp [h1,h2]
def oJ(a b:Int64):Int64×Bool:=bif dz (a.toInt*b.toInt)then(a*b,true)else(0,false)
theorem P6(N:Nat)(a b:Int64):xp N a b=some (oJ a b):=by
 unfold xp oJ;have ha:=iF a;have hb:=iF b;rw[Wg,Wg,ajm,ajm,YG N _ _ (by omega) (by omega),ajm];dsimp only;have h0:0≤(a.toInt.natAbs:Int)*b.toInt.natAbs:=Int.mul_nonneg (by omega) (by omega);have hu:(a.toInt.natAbs:Int)*b.toInt.natAbs≤85070591730234615865843651857942052864:=
  Int.le_trans (Int.mul_le_mul (show(a.toInt.natAbs:Int)≤9223372036854775808 by omega) (show(b.toInt.natAbs:Int)≤9223372036854775808 by omega) (by omega) (by omega)) (by decide)
 have hm:=agm a.toInt b.toInt;have hw:=I2 a b;generalize a*b=c at*;generalize (a.toInt.natAbs:Int)*b.toInt.natAbs=q at*;generalize a.toInt*b.toInt=z at*;have key:(bif (q / 18446744073709551616 !=0)then some true else(bif (decide (q%18446744073709551616>9223372036854775808))then some true else(bif (q%18446744073709551616==9223372036854775808)then some (!(!((decide (a.toInt<0))==(decide (b.toInt<0)))))else some false)))=some (!dz z):=by
  have:dz z=(q / 18446744073709551616==0&&(decide (q%18446744073709551616≤9223372036854775808)&&(!(q%18446744073709551616==9223372036854775808)|| !(decide (a.toInt<0)==decide (b.toInt<0))))):=by
   rw[Bool.eq_iff_iff,sE];cases hs:decide (a.toInt<0)==decide (b.toInt<0)with
   |true=>
    rw[hs,if_pos rfl]at hm;simp only[ajp,Bool.or_eq_true,Bool.not_eq_true',beq_iff_eq,decide_eq_true_iff,beq_eq_false_iff_ne,Bool.not_true,Bool.false_eq_true,or_false];omega
   |false=>
    rw[hs,if_neg (by decide)]at hm;simp only[ajp,Bool.or_eq_true,Bool.not_eq_true',beq_iff_eq,decide_eq_true_iff,beq_eq_false_iff_ne,Bool.not_false,or_true,and_true];omega
  rw[this,show(q / 18446744073709551616 !=0)= !(q / 18446744073709551616==0)from rfl,By];cases q / 18446744073709551616==0<;>cases decide (q%18446744073709551616≤9223372036854775808)<;>cases q%18446744073709551616==9223372036854775808<;>cases decide (a.toInt<0)==decide (b.toInt<0)<;>rfl
 rw[key,ajm];cases hf:dz z with
 |false=>rfl
 |true=>
  rw[sE]at hf;simp only[Bool.not_true,cond_false,cond_true];cases hs:decide (a.toInt<0)==decide (b.toInt<0)with
  |true=>
   rw[hs,if_pos rfl]at hm;rw[cond_true,←hw,show q%18446744073709551616=z by omega]
  |false=>
   rw[hs,if_neg (by decide)]at hm;rw[cond_false,←hw]
   congr 2
   refine xl ?_;rw[oC,oC,IntKind.wrap_i64,IntKind.wrap_i64,IntKind.wrap_u64];omega
theorem acP{a b:Int}(hb:b≠0):(a*b).tdiv b=a:=Int.mul_tdiv_cancel _ hb
theorem X2{a b c:Int}(ha: -9223372036854775808≤a∧a≤9223372036854775807)(hb: -9223372036854775808≤b∧b≤9223372036854775807)(hc:c=IntKind.i64.wrap (a*b))(mE:b≠0)(h:c.tdiv b=a):c=a*b:=by
 have h1:=Int.tmod_add_mul_tdiv c b;rw[h]at h1;have h2:(c.tmod b).natAbs<b.natAbs:=by
  rw[Int.natAbs_tmod];exact Nat.mod_lt _ (by omega)
 rw[IntKind.wrap_i64]at hc;rw[Int.mul_comm b a]at h1;generalize a*b=z at*;omega
theorem So(N:Nat)(a b:Int64):AA N a b=some (oJ a b):=by
 unfold AA oJ;have ha:=iF a;have hb:=iF b;rw[show(bif a.toInt==0 then some true else some (b.toInt==0))=some (a.toInt==0||b.toInt==0) by cases a.toInt==0<;>rfl,ajm];by_cases h0:a.toInt=0∨b.toInt=0
 ·have:(a.toInt==0||b.toInt==0)=true:=by rw[Bool.or_eq_true,beq_iff_eq,beq_iff_eq];exact h0
  have hz:a.toInt*b.toInt=0:=Int.mul_eq_zero.2 h0;rw[this,hz,←I2 a b,hz];rfl
 ·have h1:a.toInt≠0:=fun h=>h0 (.inl h);have h2:b.toInt≠0:=fun h=>h0 (.inr h);have:(a.toInt==0||b.toInt==0)=false:=by rw[aka,beq_eq_false_iff_ne,beq_eq_false_iff_ne];exact⟨h1,h2⟩
  have iP:(b.toInt !=0)=true:=bne_iff_ne.2 h2;rw[this,iP];simp only[cond_false,cond_true];have key:dz (a.toInt*b.toInt)= !((a.toInt== -1&&b.toInt== -9223372036854775808)||((b.toInt== -1&&a.toInt== -9223372036854775808)||(Int64.ofInt ((a*b).toInt.tdiv b.toInt)).toInt !=a.toInt)):=by
   rw[Bool.eq_iff_iff,sE,Bool.not_eq_true',aka,aka,Bool.and_eq_false_iff,Bool.and_eq_false_iff,bne_eq_false_iff_eq,beq_eq_false_iff_ne,beq_eq_false_iff_ne,beq_eq_false_iff_ne,beq_eq_false_iff_ne,oC];constructor
   ·intro hf;have hc:(a*b).toInt=a.toInt*b.toInt:=by rw[IG,IntKind.wrap_i64];omega
    refine⟨?_,?_,?_⟩
    ·by_cases h3:a.toInt= -1
     ·right;intro h4;rw[h3,h4]at hf;exact absurd hf.2 (by decide)
     ·exact .inl h3
    ·by_cases h3:b.toInt= -1
     ·right;intro h4;rw[h3,h4]at hf;exact absurd hf.2 (by decide)
     ·exact .inl h3
    ·rw[hc,acP h2,IntKind.wrap_i64];omega
   ·rintro⟨h3,h4,h5⟩;have hq:(a*b).toInt.tdiv b.toInt=a.toInt:=by
     have hc:=iF (a*b);have hd:((a*b).toInt.tdiv b.toInt).natAbs≤(a*b).toInt.natAbs:=by
      rw[Int.natAbs_tdiv];exact Nat.div_le_self _ _
     rw[IntKind.wrap_i64]at h5;by_cases h6:(a*b).toInt.tdiv b.toInt=9223372036854775808
     ·exfalso;rw[h6]at h5 hd;have qz:(a*b).toInt= -9223372036854775808:=by omega
      have hbm:b.toInt= -1:=by
       rw[qz]at h6;have h7:=Int.tmod_add_mul_tdiv (-9223372036854775808) b.toInt;rw[h6]at h7;have h8:((-9223372036854775808:Int).tmod b.toInt).natAbs<b.toInt.natAbs:=by
         rw[Int.natAbs_tmod];exact Nat.mod_lt _ (by omega)
       omega
      omega
     ·omega
    have:=X2 ha hb (IG a b) h2 hq;have hc:=iF (a*b);omega
  rw[key];cases a.toInt== -1<;>cases b.toInt== -9223372036854775808<;>cases b.toInt== -1<;>cases a.toInt== -9223372036854775808<;>cases (Int64.ofInt ((a*b).toInt.tdiv b.toInt)).toInt !=a.toInt<;>rfl
def GH(a b:Int64):Int64×Bool:=bif dz (a.toInt+b.toInt)then(a+b,true)else(0,false)
theorem QC(N:Nat)(a b:Int64):zx N a b=some (a+b,dz (a.toInt+b.toInt)):=by
 unfold zx;have ha:=iF a;have hb:=iF b
 congr 2
 rw[EJ,IntKind.wrap_i64,Bool.eq_iff_iff,sE,beq_iff_eq,decide_eq_decide];omega
theorem Qd(N:Nat)(a b:Int64):xX N a b=some (GH a b):=by
 unfold xX GH;have ha:=iF a;have hb:=iF b;have e1:((9223372036854775807:Int64)-b).toInt=IntKind.i64.wrap (9223372036854775807-b.toInt):=G4 _ _;have e2:((-9223372036854775808:Int64)-b).toInt=IntKind.i64.wrap (-9223372036854775808-b.toInt):=G4 _ _;rw[e1,e2,IntKind.wrap_i64,IntKind.wrap_i64];have key:(bif (decide (b.toInt>0))then(bif (decide (a.toInt>(9223372036854775807-b.toInt+9223372036854775808)%18446744073709551616-9223372036854775808))then some true else(bif (decide (b.toInt<0))then some (decide (a.toInt<(-9223372036854775808-b.toInt+9223372036854775808)%18446744073709551616-9223372036854775808))else some false))else(bif (decide (b.toInt<0))then some (decide (a.toInt<(-9223372036854775808-b.toInt+9223372036854775808)%18446744073709551616-9223372036854775808))else some false))=some (!dz (a.toInt+b.toInt)):=by
  have hf:dz (a.toInt+b.toInt)=(decide (-9223372036854775808≤a.toInt+b.toInt)&&decide (a.toInt+b.toInt≤9223372036854775807)):=rfl;rw[hf];by_cases h1:b.toInt>0
  ·rw[aj4 h1,cond_true,show decide (b.toInt<0)=false from aj5 (by omega),cond_false,show decide (-9223372036854775808≤a.toInt+b.toInt)=true from aj4 (by omega),Bool.true_and];by_cases h2:a.toInt+b.toInt≤9223372036854775807
   ·rw[aj4 h2,aj5 (by omega)];rfl
   ·rw[aj5 h2,aj4 (by omega)];rfl
  ·rw[aj5 h1,cond_false,show decide (a.toInt+b.toInt≤9223372036854775807)=true from aj4 (by omega),Bool.and_true];by_cases h3:b.toInt<0
   ·rw[aj4 h3,cond_true];by_cases h2: -9223372036854775808≤a.toInt+b.toInt
    ·rw[aj4 h2,aj5 (by omega)];rfl
    ·rw[aj5 h2,aj4 (by omega)];rfl
   ·rw[aj5 h3,cond_false,aj4 (by omega)];rfl
 rw[key,ajm];cases dz (a.toInt+b.toInt)<;>rfl
def JR(b:Int64)(m:aU):aU:=⟨m.aV,m.cH*b⟩
def pf(b:Int64)(m:aU):Bool:=dz (m.cH.toInt*b.toInt)
theorem KV(a:aF)(b:Int64):jg a b=bif dM a then bif b.toInt==0 then .ok zLin else bif dz (a.xK.toInt*b.toInt)&&a.xL.all (pf b)then .ok ⟨a.xK*b,a.xL.map (JR b)⟩else .error .range else .error .arg:=by
 unfold jg;have:(a.xL.map fun m=>(⟨m.aV,Int64.ofInt (m.cH.toInt*b.toInt)⟩:aU))=a.xL.map (JR b):=ajS fun m _=>by rw[I2];rfl
 rw[this,I2];show(if dM a=true then _ else _)=_;cases dM a with
 |false=>rfl
 |true=>
  by_cases h:b.toInt=0
  ·rw[if_pos rfl,if_pos h,h];rfl
  ·rw[if_pos rfl,if_neg h,beq_eq_false_iff_ne.2 h];show(if(dz (a.xK.toInt*b.toInt)&&a.xL.all (pf b))=true then _ else _)=_;cases dz (a.xK.toInt*b.toInt)&&a.xL.all (pf b)<;>rfl
theorem Sq(N:Nat)(q:Int64×Bool)(b:Int64):∀(l:akb aU)(k:Nat)(f:Bool)(acc:akb aU),acc.length+l.length≤1000000000→
 se N q b l k f acc=some (bif f&&l.all (pf b)then((⟨q.1,acc++l.map (JR b)⟩:aF),0)else(zLin,3))
 |[],_,f,acc,_=>by rw[se,List.map_nil,ajI];cases f<;>rfl
 |m::l,k,f,acc,h=>by
  simp only[ajq]at h;rw[se,P6,ajm,nB (by omega),show(bif f then some (oJ m.cH b).2 else some false)=some (f&&(oJ m.cH b).2) by cases f<;>rfl,ajm];simp only[cond_true];rw[Sq N q b l (k+1) _ _ (by simp only[ajo,ajq,ajz];omega),aj7,ajM];unfold oJ;rw[show pf b m=dz (m.cH.toInt*b.toInt)from rfl];cases dz (m.cH.toInt*b.toInt)with
  |true=>rw[cond_true,ajE];cases f<;>rfl
  |false=>cases f<;>rfl
theorem ML(N:Nat)(hN:16<N)(a:aF)(b:Int64)(h:pw 1000000000 a):qc N a b=some (qP zLin (jg a b)):=by
 unfold qc;rw[GG N hN a h.ok,ajm,P6,ajm,Sq N _ _ _ _ _ _ (by simp only[ajz];exact(ajH _).symm▸h),KV];unfold oJ;cases dM a with
 |false=>rfl
 |true=>
  cases b.toInt==0 with
  |true=>rfl
  |false=>cases dz (a.xK.toInt*b.toInt)<;>cases a.xL.all (pf b)<;>rfl
theorem LB(N:Nat)(hN:16<N)(a:aF)(h:mz a):vv N a=some (bif dM a then 0 else 1):=by
 unfold vv;rw[Jq N hN a h,ajm];cases dM a<;>rfl
theorem PD(N:Nat)(q:Int64×Bool)(b:Int64):∀(l:akb aU)(k:Nat)(acc:akb aU),acc.length+l.length≤1000000000→
 tU N q b l k acc=some (bif l.all (pf b)then((⟨q.1,acc++l.map (JR b)⟩:aF),0)else(zLin,3))
 |[],_,acc,_=>by rw[tU,List.map_nil,ajI];rfl
 |m::l,k,acc,h=>by
  simp only[ajq]at h;rw[tU,So,ajm,nB (by omega),cond_true];dsimp only;rw[PD N q b l (k+1) _ (by simp only[ajo,ajq,ajz];omega),aj7,ajM];unfold oJ;rw[show pf b m=dz (m.cH.toInt*b.toInt)from rfl];cases dz (m.cH.toInt*b.toInt)with
  |true=>rw[cond_true,ajE];rfl
  |false=>rfl
theorem Kq(N:Nat)(hN:16<N)(a:aF)(b:Int64)(h:pw 1000000000 a):qO N a b=some (qP zLin (jg a b)):=by
 unfold qO;rw[LB N hN a h.ok,ajm,So,ajm,PD N _ _ _ _ _ (by simp only[ajz];exact(ajH _).symm▸h),KV];unfold oJ;cases dM a with
 |false=>rfl
 |true=>
  cases b.toInt==0 with
  |true=>rfl
  |false=>cases dz (a.xK.toInt*b.toInt)<;>cases a.xL.all (pf b)<;>rfl
def jq(t:akc×Int×Int):Bool:=dz (t.2.1+t.2.2)
def iC(t:akc×Int×Int):akd aU:=if t.2.1+t.2.2=0 then none else some ⟨t.1,Int64.ofInt (t.2.1+t.2.2)⟩
theorem TT(k:Int)(l:akb (akc×Int×Int)):H9 k l=bif dz k&&l.all jq then .ok ⟨Int64.ofInt k,l.filterMap iC⟩else .error .range:=by
 unfold H9;show(if(dz k&&l.all jq)=true then(Except.ok ⟨Int64.ofInt k,l.filterMap iC⟩:X aF)else _)=_;cases dz k&&l.all jq<;>rfl
def Mz(acc:akb aU):akd aU→akb aU
 |none=>acc
 |some m=>acc++[m]
theorem BL(N:Nat)(s:akc)(x y:Int64)(f:Bool)(K:Int64)(acc:akb aU)(h:acc.length<1000000000):
 ∃L,uL N s x y f K acc=some (f&&dz (x.toInt+y.toInt),L)∧L.length≤acc.length+1∧(dz (x.toInt+y.toInt)=true→L=Mz acc (iC (s,x.toInt,y.toInt))):=by
 unfold uL;rw[QC,ajm,nB (by omega),show(bif f then some (x+y,dz (x.toInt+y.toInt)).2 else some false)=some (f&&dz (x.toInt+y.toInt)) by cases f<;>rfl,ajm];dsimp only;have e (hf:dz (x.toInt+y.toInt)=true):(x+y).toInt=x.toInt+y.toInt:=by
  rw[sE]at hf;rw[EJ,IntKind.wrap_i64];omega
 cases hz:(x+y).toInt !=0 with
 |true=>
  refine⟨_,rfl,by simp,fun hf=> ?_⟩;unfold iC;rw[if_neg (by show ¬x.toInt+y.toInt=0;rw[←e hf];exact bne_iff_ne.1 hz)];show acc++[(⟨s,x+y⟩:aU)]=acc++[⟨s,Int64.ofInt (x.toInt+y.toInt)⟩];rw[Gq]
 |false=>
  refine⟨_,rfl,Nat.le_succ _,fun hf=> ?_⟩;unfold iC;rw[if_pos (by show x.toInt+y.toInt=0;rw[←e hf];exact UI hz)];rfl
theorem adH(acc:akb aU)(t:akc×Int×Int)(l:akb (akc×Int×Int)):Mz acc (iC t)++l.filterMap iC=acc++(t::l).filterMap iC:=by
 rw[List.filterMap_cons];cases iC t with
 |none=>rfl
 |some m=>show acc++[m]++_=_;rw[ajE];rfl
theorem Fj{N:Nat}{K:Int64}{n:Nat}{l r:akb aU}{f f':Bool}{acc L:akb aU}{t:akc×Int×Int}{T:akb (akc×Int×Int)}
 (ih:∀f acc,acc.length+l.length+r.length≤1000000000→∃L,kT N K n l r f acc=some (f&&T.all jq,L)∧(T.all jq=true→L=acc++T.filterMap iC))
 (hf:f'=(f&&jq t)) (hL:L.length+l.length+r.length≤1000000000) (h:jq t=true→L=Mz acc (iC t)):
 ∃L',kT N K n l r f' L=some (f&&(t::T).all jq,L')∧((t::T).all jq=true→L'=acc++(t::T).filterMap iC):=by
 obtain⟨L',h1,h2⟩:=ih f' L hL;refine⟨L',?_,fun h3=> ?_⟩
 ·rw[h1,hf,aj7,Bool.and_assoc]
 ·rw[aj7,ajp]at h3;rw[h2 h3.2,h h3.1,adH]
theorem yF(N:Nat)(K:Int64):∀(n:Nat)(a b:akb aU)(f:Bool)(acc:akb aU),a.length+b.length<n→acc.length+a.length+b.length≤1000000000→
 ∃L,kT N K n a b f acc=some (f&&(dJ a b).all jq,L)∧((dJ a b).all jq=true→L=acc++(dJ a b).filterMap iC)
 |0,a,b,f,acc,h,_=>absurd h (ajP _)
 |n+1,[],[],f,acc,_,_=>by
  rw[kT,dJ];exact⟨acc,by rw[List.all_nil,Bool.and_true];rfl,fun _=>by rw[List.filterMap_nil,ajI]⟩
 |n+1,x::l,[],f,acc,h,hb=>by
  simp only[ajq,ajz]at h hb;rw[kT,dJ];obtain⟨L,e1,e2,e3⟩:=BL N x.aV x.cH 0 f K acc (by omega);rw[show decide (((x::l).length:Int)>0)=true from aj4 (by simp only[ajq];omega),show((([]:akb aU).length:Int)==0)=true from rfl];simp only[cond_true,ajm,List.getElem?_cons_zero,e1,show decide (1≤(x::l).length)=true from aj4 (by simp only[ajq];omega),List.drop_one,List.tail_cons];exact Fj (fun f acc hb=>yF N K n l [] f acc (by simp only[ajz];omega) hb) rfl (by simp only[ajz];omega) e3
 |n+1,[],y::r,f,acc,h,hb=>by
  simp only[ajq,ajz]at h hb;rw[kT,dJ];obtain⟨L,e1,e2,e3⟩:=BL N y.aV 0 y.cH f K acc (by omega);rw[show decide (((y::r).length:Int)>0)=true from aj4 (by simp only[ajq];omega),show(((y::r).length:Int)==0)=false from beq_eq_false_iff_ne.2 (by simp only[ajq];omega),show decide ((([]:akb aU).length:Int)>0)=false from rfl,show((([]:akb aU).length:Int)==0)=true from rfl];simp only[cond_true,cond_false,ajm,List.getElem?_cons_zero,e1,show decide (1≤(y::r).length)=true from aj4 (by simp only[ajq];omega),List.drop_one,List.tail_cons];exact Fj (fun f acc hb=>yF N K n [] r f acc (by simp only[ajz];omega) hb) rfl (by simp only[ajz];omega) e3
 |n+1,x::l,y::r,f,acc,h,hb=>by
  simp only[ajq]at h hb;rw[kT,dJ];have p1:∀(z:aU)(l:akb aU),decide (((z::l).length:Int)>0)=true:=fun z l=>aj4 (by simp only[ajq];omega);have p2:∀(z:aU)(l:akb aU),(((z::l).length:Int)==0)=false:=fun z l=>beq_eq_false_iff_ne.2 (by simp only[ajq];omega);have p3:∀(z:aU)(l:akb aU),decide (1≤(z::l).length)=true:=fun z l=>aj4 (by simp only[ajq];omega);simp only[p1,p2,cond_true,cond_false,ajm,List.getElem?_cons_zero,show Op.bytesLess (bL x.aV) (bL y.aV)=lt x.aV y.aV from rfl,show Op.bytesLess (bL y.aV) (bL x.aV)=lt y.aV x.aV from rfl];cases hxy:lt x.aV y.aV with
  |true=>
   obtain⟨L,e1,e2,e3⟩:=BL N x.aV x.cH 0 f K acc (by omega);simp only[cond_true,e1,ajm,p3,List.drop_one,List.tail_cons,if_true];exact Fj (fun f acc hb=>yF N K n l (y::r) f acc (by simp only[ajq];omega) hb) rfl (by simp only[ajq];omega) e3
  |false=>
   simp only[cond_false,Bool.false_eq_true,if_false];cases hyx:lt y.aV x.aV with
   |true=>
    obtain⟨L,e1,e2,e3⟩:=BL N y.aV 0 y.cH f K acc (by omega);simp only[cond_true,e1,ajm,p3,List.drop_one,List.tail_cons,if_true];exact Fj (fun f acc hb=>yF N K n (x::l) r f acc (by simp only[ajq];omega) hb) rfl (by simp only[ajq];omega) e3
   |false=>
    obtain⟨L,e1,e2,e3⟩:=BL N x.aV x.cH y.cH f K acc (by omega);simp only[cond_true,cond_false,e1,ajm,p3,List.drop_one,List.tail_cons,Bool.false_eq_true,if_false];exact Fj (fun f acc hb=>yF N K n l r f acc (by omega) hb) rfl (by omega) e3
theorem U7(a b:aF):j9 a b=bif dM a&&dM b then bif dz (a.xK.toInt+b.xK.toInt)&&(dJ a.xL b.xL).all jq then .ok ⟨a.xK+b.xK,(dJ a.xL b.xL).filterMap iC⟩else .error .range else .error .arg:=by
 unfold j9;rw[TT,Gq];cases dM a&&dM b<;>rfl
theorem UD(N:Nat)(hN:16<N)(a b:aF)(hl:a.xL.length+b.xL.length≤1000000000)(hf:a.xL.length+b.xL.length<N):uc N a b=some (qP zLin (j9 a b)):=by
 unfold uc He;have ha:mz a:=ajF (ajF (aj2 _ _) hl) (by decide);have hb:mz b:=ajF (ajF (Nat.le_add_left _ _) hl) (by decide);rw[GG N hN a ha,GG N hN b hb,ajm,ajm,QC,ajm,U7];dsimp only;obtain⟨L,e1,e2⟩:=yF N (a.xK+b.xK) N a.xL b.xL (dz (a.xK.toInt+b.xK.toInt)) [] hf (by simp only[ajz];omega);rw[e1,ajm];cases dM a with
 |false=>rfl
 |true=>
  cases dM b with
  |false=>rfl
  |true=>
   cases h1:dz (a.xK.toInt+b.xK.toInt)with
   |false=>rfl
   |true=>
    cases h2:(dJ a.xL b.xL).all jq with
    |false=>rfl
    |true=>rw[e2 h2];rfl
theorem TV(N:Nat)(l:akb akc)(s:akc)(hl:l.length<1000000000):∀(n i:Nat),i≤l.length→l.length-i<n→xf N l l.length s n (i:Int)=some ((l.drop i).any fun w=>bL w==bL s)
 |0,i,_,h=>absurd h (ajP _)
 |n+1,i,hi,h=>by
  rw[xf,show Nat.beq l.length l.length=true from Nat.beq_refl _,cond_true];by_cases hk:i<l.length
  ·rw[show decide ((i:Int)<(l.length:Int))=true from aj4 (by omega),show decide ((0:Int)≤(i:Int))=true from aj4 (by omega),cond_true,cond_true,ajO,ajr hk,ajm,List.drop_eq_getElem_cons hk,aj8,IE (by omega)];dsimp only;rw[TV N l s hl n (i+1) (by omega) (by omega)];cases bL l[i]==bL s<;>rfl
  ·rw[show decide ((i:Int)<(l.length:Int))=false from aj5 (by omega),List.drop_eq_nil_of_le (by omega)];rfl
theorem NK{α:Type}(p:akb α)(x:α)(q:akb α):(p++x::q)[p.length]?=some x:=by simp
theorem Rn{α:Type}(p:akb α)(x y:α)(q:akb α):(p++x::q).set p.length y=p++y::q:=by simp
theorem adD(x s:akc):(!((Op.bytesLess (bL x) (bL s))||(bL x==bL s)))=lt s x:=by
 show(!(lt x s||same x s))=lt s x;cases h1:lt x s with
 |true=>
  cases h2:lt s x with
  |false=>rfl
  |true=>have:=rI h1 h2;rw[uf]at this;cases this
 |false=>
  cases h2:lt s x with
  |false=>rw[C4 h1 h2,we.2 rfl];rfl
  |true=>
   cases h3:same x s with
   |false=>rfl
   |true=>rw[we.1 h3,uf]at h2;cases h2
theorem VS(N:Nat)(s:akc):∀(q post:akb akc)(n k:Nat),q.length<n→q.length+1+post.length=k+1→k<1000000000→
 tk N k n (q.length:Int) (q.reverse++s::post)=some (k+1,(jo q s).reverse++post)
 |[],post,n+1,k,_,hk,_=>by
  rw[tk,show decide ((([]:akb akc).length:Int)>0)=false from rfl];rfl
 |x::q,post,n+1,k,hn,hk,hb=>by
  simp only[ajq]at hn hk;have hL:(((x::q).reverse++s::post).length)=k+1:=by simp only[ajo,List.length_reverse,ajq];omega
  have hw:aS (((x::q).length:Int)-1)=(q.length:Int):=by
   rw[ajq,show(((q.length+1:Nat):Int)-1)=((q.length:Nat):Int) by omega];exact Ib (by omega)
  have c1:decide (((x::q).length:Int)>0)=true:=aj4 (by simp only[ajq];omega);have c2:decide ((0:Int)≤(q.length:Int))=true:=aj4 (by omega);have c3:decide ((q.length:Int)<((k+1):Int))=true:=aj4 (by omega);have c4:decide ((0:Int)≤((x::q).length:Int))=true:=aj4 (by simp only[ajq];omega);have c5:decide (((x::q).length:Int)<((k+1):Int))=true:=aj4 (by simp only[ajq];omega);have e1:(x::q).reverse++s::post=q.reverse++x::s::post:=by rw[List.reverse_cons,ajE];rfl
  have g1:((x::q).reverse++s::post)[q.length]?=some x:=by rw[e1];have:=NK q.reverse x (s::post);rw[List.length_reverse]at this;exact this
  have g2:((x::q).reverse++s::post)[(x::q).length]?=some s:=by have:=NK (x::q).reverse s post;rw[List.length_reverse]at this;exact this
  have s1:((x::q).reverse++s::post).set (x::q).length x=q.reverse++x::x::post:=by
   have:=Rn (x::q).reverse s x post;rw[List.length_reverse]at this;rw[this,List.reverse_cons,ajE];rfl
  have g3:(q.reverse++x::x::post)[q.length]?=some x:=by have:=NK q.reverse x (x::post);rw[List.length_reverse]at this;exact this
  have s2:(q.reverse++x::x::post).set q.length s=q.reverse++s::x::post:=by have:=Rn q.reverse x s (x::post);rw[List.length_reverse]at this;exact this
  have hL2:(q.reverse++x::x::post).length=k+1:=by simp only[ajo,List.length_reverse,ajq];omega
  rw[tk,hw,c1,hL,show Nat.beq (k+1) (k+1)=true from Nat.beq_refl _,c2,c3,c4,c5];simp only[cond_true,ajO,g1,g2,ajm];rw[adD,jo];cases aX:lt s x with
  |false=>
   simp only[cond_false,Bool.false_eq_true,if_false];rw[e1,List.reverse_cons,List.reverse_cons,ajE,ajE];rfl
  |true=>
   simp only[cond_true,if_true,s1,hL2,g3,s2,ajm,show Nat.beq (k+1) (k+1)=true from Nat.beq_refl _];rw[VS N s q (x::post) n k (by omega) (by simp only[ajq];omega) hb,List.reverse_cons,ajE];rfl
theorem ai2(N:Nat)(l:akb akc)(s:akc)(hl:l.length<1000000)(hN:1000000<N):BT N l.length s l=some ((jk l s).length,jk l s):=by
 unfold BT FM jk;have h0:=TV N l s (by omega) N 0 (Nat.zero_le _) (by omega);rw[ajW]at h0;rw[show((0:Nat):Int)=(0:Int)from rfl]at h0;rw[h0,ajm];show _=some ((if l.any (fun w=>bL w==bL s)=true then l else(jo l.reverse s).reverse).length,_);show _=some (_,(if l.any (fun w=>bL w==bL s)=true then l else(jo l.reverse s).reverse));cases l.any fun w=>bL w==bL s with
 |true=>rfl
 |false=>
  have hL:(l++[s]).length=l.length+1:=by simp
  rw[hL,show Nat.beq l.length l.length=true from Nat.beq_refl _,show Nat.beq (l.length+1) (l.length+1)=true from Nat.beq_refl _,nB (by omega)];simp only[cond_true,cond_false,Bool.false_eq_true,if_false];have:=VS N s l.reverse [] N l.length (by rw[List.length_reverse];omega) (by rw[List.length_reverse];rfl) (by omega);rw[List.length_reverse,List.reverse_reverse,ajI]at this;rw[show aS ((l.length:Int)+1-1)=(l.length:Int) by rw[show((l.length:Int)+1-1)=((l.length:Nat):Int) by omega];exact Ib (by omega)];rw[this];have hlen:(jo l.reverse s).reverse.length=l.length+1:=by
    have KU:∀(q:akb akc),(jo q s).length=q.length+1:=by
     intro q
     induction q with
     |nil=>rfl
     |cons x q ih=>rw[jo];split<;>simp [ih]
    rw[List.length_reverse,KU,List.length_reverse]
  rw[hlen]
theorem Vo(l:akb akc)(s:akc):(jk l s).length≤l.length+1:=by
 have KU:∀(q:akb akc),(jo q s).length=q.length+1:=by
  intro q
  induction q with
  |nil=>rfl
  |cons x q ih=>rw[jo];split<;>simp [ih]
 unfold jk;split
 ·omega
 ·rw[List.length_reverse,KU,List.length_reverse];exact ajy _
theorem KA(N:Nat)(hN:1000000<N)(c:Nat→akb akc→akd (akb akc)):∀(l:akb aU)(k:Nat)(L:akb akc),L.length+l.length<1000000→
 uD N c l k L.length L=c ((l.map (·.aV)).foldl jk L).length ((l.map (·.aV)).foldl jk L)
 |[],_,_,_=>rfl
 |m::l,k,L,h=>by
  simp only[ajq]at h;rw[uD,ai2 N L m.aV (by omega) hN,ajm];dsimp only;rw[KA N hN c l (k+1) (jk L m.aV) (by have:=Vo L m.aV;omega)];rfl
theorem Nq:∀(l L:akb akc),(l.foldl jk L).length≤L.length+l.length
 |[],_=>ajy _
 |s::l,L=>by
  rw[List.foldl_cons];have h1:=Nq l (jk L s);have h2:=Vo L s;simp only[ajq];omega
theorem aaq(N:Nat)(hN:1000000<N)(a b:aF)(h:a.xL.length+b.xL.length<900000):DM N [a,b]=some (tf [a,b]):=by
 unfold DM tf;have ha:=KA N hN (fun cX gh=>oa N [b] 1 cX gh) a.xL 0 [] (by simp only[ajz];omega);rw[oa];refine Eq.trans ha ?_;have hl:=Nq (a.xL.map (·.aV)) [];simp only[ajz,ajs]at hl;rw[oa,KA N hN _ b.xL 0 _ (by omega)];rw[oa,show Nat.beq _ _=true from Nat.beq_refl _,cond_true];rw[List.flatMap_cons,List.flatMap_cons,List.flatMap_nil,ajI,List.foldl_append]
theorem KF(N:Nat)(s:akc):∀(l:akb aU)(k:Nat),∃c:Int64,vL N s l k=some c∧c.toInt=gT l s
 |[],_=>⟨0,rfl,rfl⟩
 |m::l,k=>by
  obtain⟨c,h1,h2⟩:=KF N s l (k+1);rw[vL,h1,gT];show ∃c',(bif same m.aV s then _ else _)=_∧_;cases same m.aV s with
  |true=>exact⟨_,rfl,rfl⟩
  |false=>exact⟨c,rfl,h2⟩
theorem Lb(N:Nat)(q:Int64×Bool)(a b:aF):∀(l:akb akc)(k:Nat)(acc:akb aU),acc.length+l.length≤1000000000→
 p6 N q a b l k acc=some (bif (l.map fun n=>(n,gT a.xL n,gT b.xL n)).all jq then((⟨q.1,acc++(l.map fun n=>(n,gT a.xL n,gT b.xL n)).filterMap iC⟩:aF),0)else(zLin,3))
 |[],_,acc,_=>by rw[p6,List.map_nil,List.filterMap_nil,ajI];rfl
 |s::l,k,acc,h=>by
  simp only[ajq]at h;obtain⟨x,hx,ex⟩:=KF N s a.xL 0;obtain⟨y,hy,ey⟩:=KF N s b.xL 0;rw[p6];unfold Br;rw[hx,hy,ajm,ajm,Qd,ajm,nB (by omega),ajM,aj7,←ex,←ey];simp only[cond_true];rw[Lb N q a b l (k+1) acc (by omega),Lb N q a b l (k+1) _ (by simp only[ajo,ajq,ajz];omega)];unfold GH;rw[show jq (s,x.toInt,y.toInt)=dz (x.toInt+y.toInt)from rfl];cases hf:dz (x.toInt+y.toInt)with
  |false=>rfl
  |true=>
   simp only[cond_true,Bool.true_and];have e:(x+y).toInt=x.toInt+y.toInt:=by
    rw[sE]at hf;rw[EJ,IntKind.wrap_i64];omega
   rw[List.filterMap_cons];cases hz:(x+y).toInt !=0 with
   |true=>
    have hk:iC (s,x.toInt,y.toInt)=some ⟨s,x+y⟩:=by
     unfold iC;rw[if_neg (by show ¬x.toInt+y.toInt=0;rw[←e];exact bne_iff_ne.1 hz),Gq]
    rw[hk,cond_true,ajE];rfl
   |false=>
    have hk:iC (s,x.toInt,y.toInt)=none:=by
     unfold iC;rw[if_pos (by show x.toInt+y.toInt=0;rw[←e];exact UI hz)]
    rw[hk];rfl
theorem Tk(N:Nat)(hN:1000000<N)(a b:aF)(hl:a.xL.length+b.xL.length<900000):rm N a b=some (qP zLin (j9 a b)):=by
 unfold rm;have ha:mz a:=ajF (ajF (aj2 _ _) (Nat.le_of_lt hl)) (by decide);have hb:mz b:=ajF (ajF (Nat.le_add_left _ _) (Nat.le_of_lt hl)) (by decide);have hn:(tf [a,b]).length≤900000:=by
  unfold tf;have:=Nq ([a,b].flatMap fun x=>x.xL.map (·.aV)) [];simp only[List.flatMap_cons,List.flatMap_nil,ajI,ajo,ajs,ajz]at this ⊢;omega
 rw[LB N (by omega) a ha,LB N (by omega) b hb,ajm,ajm,Qd,ajm,aaq N hN a b hl,ajm,Lb N _ _ _ _ _ _ (by simp only[ajz];omega),←aiJ];unfold Mj GH;rw[TT,Gq];cases dM a with
 |false=>rfl
 |true=>
  cases dM b with
  |false=>rfl
  |true=>
   cases dz (a.xK.toInt+b.xK.toInt)with
   |false=>rfl
   |true=>cases ((tf [a,b]).map fun n=>(n,gT a.xL n,gT b.xL n)).all jq<;>rfl
def Qj(e:an):Prop:=∀x∈cQ e,mU x=true∧my x=true
theorem Qj.op{e:an}(h:Qj e):1≤e.ar∧e.ar≤18:=by
 have:=(h e ajt).2;unfold my at this;simp only[ajp,decide_eq_true_eq]at this;exact⟨this.1,this.2.1⟩
section
variable {α:Type}
end
section
variable {N:Nat} {m:akb (akc×Int)} {vars:akb akc} {p p':NV}
end
theorem Bg{y:an}:∀{l:akb an},y∈iI l→∃x∈l,y∈cQ x
 |[],h=>by rw[iI]at h;cases h
 |x::l,h=>by
  rw[Aw]at h;rcases ajZ.1 h with h|h
  ·exact⟨x,ajt,h⟩
  ·obtain⟨z,h1,h2⟩:=Bg h;exact⟨z,ajw _ h1,h2⟩
section
variable {N:Nat} {p:NV}
theorem ji{α:Type}{L l:akb α}{x:α}{k:Nat}(h:L.drop k=x::l):L.drop (k+1)=l:=by
 rw[←List.drop_drop,h];rfl
theorem kD{α:Type}{L l:akb α}{x:α}{k:Nat}(h:L.drop k=x::l):k<L.length:=by
 by_cases hk:k<L.length
 ·exact hk
 ·rw[List.drop_eq_nil_of_le (by omega)]at h;cases h
end
structure J4(x:aI):Prop where
 fZ:pw 1000000 x.aK
 at_:x.bC.length≤1000000
 y6:∀l∈x.bC,pw 1000000 l
structure W4(e:an):Prop where
 fZ:pw 1000000 e.aK
 idx:e.xIdx.length≤1000000
 each:∀x∈e.xIdx,J4 x
 args:e.ax.length≤1000000
def tz(e:an):Prop:=∀y∈cQ e,W4 y
theorem tz.arg{e x:an}(h:tz e)(hx:x∈e.ax):tz x:=fun y hy=>h y (lu hx hy)
theorem tz.ok{e:an}(h:tz e):qC e:=fun y hy=>
 ⟨ajF (h y hy).fZ (by decide),fun x hx=>⟨ajF ((h y hy).each x hx).fZ (by decide),fun l hl=>ajF (((h y hy).each x hx).y6 l hl) (by decide)⟩,ajF (h y hy).args (by decide)⟩
theorem JS(N:Nat)(l:aF)(h:pw 1000000 l):wO N l=some (l,0):=by
 unfold wO Mw;rw[nB (by have:=h;unfold pw at this;omega)];rfl
theorem Dx{α:Type}:∀(L:akb α)(k:Nat)(x:α),L[k]?=some x→L.set k x=L
 |[],_,_,_=>rfl
 |y::L,0,x,h=>by cases h;rfl
 |y::L,k+1,x,h=>by rw[List.set_cons_succ,Dx L k x (by rw[ajY]at h;exact h)]
theorem rH(n:Nat):Nat.beq n n=true:=Nat.beq_refl n
theorem WX(N:Nat)(e:an)(rec:an→akd (an×Int))(v8:akb aI)(v2:aF×Int):∀(l:akb an)(k:Nat),e.ax.drop k=l→(∀x∈l,rec x=some (x,0))→v8.length=e.xIdx.length→
 sI N v8 e.xIdx e.ax e v2 rec l k e.ax=some (⟨e.ar,e.aV,e.ba,e.aC,v2.1,v8,e.ax⟩,0)
 |[],k,_,_,h8=>by rw[sI,h8,rH,rH];rfl
 |x::l,k,hd,hx,h8=>by
  rw[sI,hx x ajt,ajm,rH,show decide ((k:Int)<(e.ax.length:Int))=true from aj4 (by have:=kD hd;omega),cd hd];simp only[cond_true,ajm,bne_self_eq_false,cond_false];rw[Dx _ _ _ (cd hd)];exact WX N e rec v8 v2 l (k+1) (ji hd) (fun y hy=>hx y (ajw _ hy)) h8
theorem We(N:Nat)(c:akb aI→akd (an×Int))(v8:akb aI)(k4:Nat)(x:aI)(hx:v8[k4]?=some x):∀(l:akb aF)(k:Nat),x.bC.drop k=l→(∀y∈l,pw 1000000 y)→
 sQ N x.bC c v8 k4 (x.aK,0) x l k x.bC=c v8
 |[],k,_,_=>by
  rw[sQ,rH,cond_true];dsimp only;rw[Dx v8 k4 x hx,Dx v8 k4 x hx]
 |y::l,k,hd,hy=>by
  rw[sQ,JS N y (hy y ajt),ajm,rH,show decide ((k:Int)<(x.bC.length:Int))=true from aj4 (by have:=kD hd;omega),cd hd];simp only[cond_true,ajm,bne_self_eq_false,cond_false];rw[Dx _ _ _ (cd hd)];exact We N c v8 k4 x hx l (k+1) (ji hd) fun z hz=>hy z (ajw _ hz)
theorem WW(N:Nat)(e:an)(rec:an→akd (an×Int))(v2:aF×Int)(ha:e.ax.length≤1000000)(hr:∀x∈e.ax,rec x=some (x,0)):∀(l:akb aI)(k:Nat),e.xIdx.drop k=l→(∀y∈l,J4 y)→
 rz N e e.xIdx v2 rec l k e.xIdx=some (⟨e.ar,e.aV,e.ba,e.aC,v2.1,e.xIdx,e.ax⟩,0)
 |[],k,_,_=>by
  rw[rz];unfold Ot;rw[nB (by omega),cond_true,ajm];exact WX N e rec e.xIdx v2 e.ax 0 rfl hr rfl
 |x::l,k,hd,hy=>by
  have h1:=hy x ajt;have hl:=h1.at_;rw[rz,JS N x.aK h1.fZ,ajm,rH,show decide ((k:Int)<(e.xIdx.length:Int))=true from aj4 (by have:=kD hd;omega),cd hd];unfold Oz;simp only[cond_true,ajm,bne_self_eq_false,cond_false];rw[nB (by omega),cond_true,ajm,List.length_set,rH,cond_true];rw[We N _ e.xIdx k x (cd hd) x.bC 0 rfl h1.y6];exact WW N e rec v2 ha hr l (k+1) (ji hd) fun z hz=>hy z (ajw _ hz)
theorem Ty(N:Nat):∀(d:Nat)(e:an),SizeOf.sizeOf e<d→tz e→n7 N d e=some (e,0)
 |0,_,h,_=>absurd h (ajP _)
 |d+1,e,h,hb=>by
  have h1:=hb e ajt;have hl:=h1.idx;rw[n7,JS N e.aK h1.fZ,ajm];unfold Oq;rw[nB (by omega)];refine Eq.trans (WW N e _ (e.aK,0) h1.args (fun x hx=>Ty N d x (by have:=fy hx;omega) (hb.arg hx)) e.xIdx 0 rfl h1.each) ?_;cases e;rfl
theorem KT(N:Nat)(e:an)(h:SizeOf.sizeOf e<N)(hb:tz e):tP N e=some e:=by
 unfold tP KL;rw[Ty N N e h hb];rfl
section
variable {N:Nat} {p:NV}
end
structure y8(B:Nat)(x:aI):Prop where
 fZ:x.aK.xL.length≤B
 at_:x.bC.length≤B
 y6:∀l∈x.bC,l.xL.length≤B
structure H0(B:Nat)(e:an):Prop where
 fZ:e.aK.xL.length≤B
 idx:e.xIdx.length≤B
 each:∀x∈e.xIdx,y8 B x
 args:e.ax.length≤B
def lr(B:Nat)(e:an):Prop:=∀y∈cQ e,H0 B y
theorem lr.arg{B:Nat}{e x:an}(h:lr B e)(hx:x∈e.ax):lr B x:=fun y hy=>h y (lu hx hy)
theorem y8.mono{A B:Nat}(h:A≤B){x:aI}(k:y8 A x):y8 B x:=⟨ajF k.fZ h,ajF k.at_ h,fun l hl=>ajF (k.y6 l hl) h⟩
theorem H0.mono{A B:Nat}(h:A≤B){e:an}(k:H0 A e):H0 B e:=⟨ajF k.fZ h,ajF k.idx h,fun x hx=>(k.each x hx).mono h,ajF k.args h⟩
abbrev xM:Nat:=140737488355328
theorem Af{a b:Nat}(h:a+b≤9223372036854775807):aS ((a:Int)+(b:Int))=((a+b:Nat):Int):=by
 rw[←Int.natCast_add];exact Ib h
def Wt(m n:Nat)(Q:Prop)(r:akd Int):Prop:=∃v:Nat,r=some (v:Int)∧n≤v∧v≤m+500000000000000∧(v≤m→Q)
theorem KZ(N:Nat)(m:Nat)(hm:m≤100000)(rec:an→Int→akd Int)(pO:an→Prop)(hr:∀(x:an)(q:Nat),q≤m→pO x→Wt q 1 (lr q x) (rec x (q:Int))):∀(l:akb an)(k v:Nat),v≤m+500000000000000→(∀x∈l,pO x)→
 Wt m v (v+l.length≤m∧∀x∈l,lr m x) (py N (m:Int) rec l k (v:Int))∧pP N (m:Int) rec l k (v:Int)=py N (m:Int) rec l k (v:Int)
 |[],k,v,hv,_=>⟨⟨v,rfl,ajy _,by omega,fun h=>⟨h,fun _ h=>by cases h⟩⟩,rfl⟩
 |x::l,k,v,hv,hx=>by
  rw[py,pP,le_dec];by_cases h:v≤m
  ·rw[aj4 h,cond_true,cond_true,show aS ((m:Int)-(v:Int))=((m-v:Nat):Int) by rw[show(m:Int)-(v:Int)=((m-v:Nat):Int) by omega];exact Ib (by omega)];obtain⟨n,e1,e2,e3,e4⟩:=hr x (m-v) (Nat.sub_le _ _) (hx x ajt);rw[e1,ajm,ajm];dsimp only;rw[Af (by omega)];by_cases hn:v+n≤m
   ·obtain⟨⟨u,f1,f2,f3,f4⟩,f5⟩:=KZ N m hm rec pO hr l (k+1) (v+n) (by omega) fun y hy=>hx y (ajw _ hy);refine⟨⟨u,f1,by omega,f3,fun hu=> ?_⟩,f5⟩;obtain⟨g1,g2⟩:=f4 hu;refine⟨by simp only[ajq];omega,fun y hy=> ?_⟩;rcases ajR.1 hy with rfl|hy
    ·exact fun z hz=>(e4 (by omega) z hz).mono (by omega)
    ·exact g2 y hy
   ·have stop:∀(l:akb an)(k:Nat),py N (m:Int) rec l k ((v+n:Nat):Int)=some ((v+n:Nat):Int)∧pP N (m:Int) rec l k ((v+n:Nat):Int)=some ((v+n:Nat):Int):=by
     intro l k;cases l with
     |nil=>exact⟨rfl,rfl⟩
     |cons y l=>rw[py,pP,le_dec,aj5 hn];exact⟨rfl,rfl⟩
    rw[(stop l (k+1)).1,(stop l (k+1)).2];exact⟨⟨v+n,rfl,by omega,by omega,fun h=>absurd h hn⟩,rfl⟩
  ·rw[aj5 h];exact⟨⟨v,rfl,ajy _,by omega,fun h'=>absurd h' h⟩,rfl⟩
theorem SP(N:Nat)(m:Nat)(hm:m≤100000)(c:Int→akd Int)(lo:Nat)(Q:Prop)(hc:∀v:Nat,v≤m+500000000000000→lo≤v→Wt m v Q (c (v:Int))):∀(l:akb aF)(k v:Nat),v≤m+500000000000000→lo≤v→(∀x∈l,x.xL.length≤xM)→
 Wt m v (Q∧∀x∈l,x.xL.length≤m) (wi N c (m:Int) l k (v:Int))
 |[],k,v,hv,fV,_=>by
  obtain⟨u,h1,h2,h3,h4⟩:=hc v hv fV;exact⟨u,h1,h2,h3,fun h=>⟨h4 h,fun _ h=>by cases h⟩⟩
 |x::l,k,v,hv,fV,hx=>by
  rw[wi,le_dec];by_cases h:v≤m
  ·have wG:x.xL.length≤140737488355328:=hx x ajt;rw[aj4 h,cond_true];dsimp only;rw[Af (by omega)];obtain⟨u,f1,f2,f3,f4⟩:=SP N m hm c lo Q hc l (k+1) (v+x.xL.length) (by omega) (by omega) fun y hy=>hx y (ajw _ hy);refine⟨u,f1,by omega,f3,fun hu=>⟨(f4 hu).1,fun y hy=> ?_⟩⟩;rcases ajR.1 hy with rfl|hy
   ·omega
   ·exact(f4 hu).2 y hy
  ·rw[aj5 h,cond_false];obtain⟨u,h1,h2,h3,h4⟩:=hc v hv fV;exact⟨u,h1,h2,h3,fun hu=>absurd (ajF h2 hu) h⟩
theorem T7(N:Nat)(m:Nat)(hm:m≤100000)(rec:an→Int→akd Int)(pO:an→Prop)(hr:∀(x:an)(q:Nat),q≤m→pO x→Wt q 1 (lr q x) (rec x (q:Int)))(e:an)(ha:∀x∈e.ax,pO x):∀(l:akb aI)(k v:Nat),v≤m+500000000000000→(∀x∈l,y8 xM x)→
 Wt m v ((e.ax.length≤m∧∀x∈e.ax,lr m x)∧∀x∈l,y8 m x) (n4 N (m:Int) rec e l k (v:Int))
 |[],k,v,hv,_=>by
  rw[n4];obtain⟨u,h1,h2,h3,h4⟩:=(KZ N m hm rec pO hr e.ax 0 v hv ha).1;exact⟨u,h1,h2,h3,fun h=>⟨⟨by have:=(h4 h).1;omega,(h4 h).2⟩,fun _ h=>by cases h⟩⟩
 |x::l,k,v,hv,hx=>by
  rw[n4,le_dec];by_cases h:v≤m
  ·have wG:=hx x ajt;have h1:x.aK.xL.length≤140737488355328:=wG.fZ;have h2:x.bC.length≤140737488355328:=wG.at_;rw[aj4 h,cond_true,Af (by omega),Af (by omega)];obtain⟨u,f1,f2,f3,f4⟩:=SP N m hm (fun cX=>n4 N (m:Int) rec e l (k+1) cX) 0 _ (fun v hv _=>T7 N m hm rec pO hr e ha l (k+1) v hv fun y hy=>hx y (ajw _ hy)) x.bC 0 (v+x.aK.xL.length+x.bC.length) (by omega) (Nat.zero_le _) wG.y6;refine⟨u,f1,by omega,f3,fun hu=> ?_⟩;obtain⟨⟨g1,g2⟩,g3⟩:=f4 hu;refine⟨g1,fun y hy=> ?_⟩;rcases ajR.1 hy with rfl|hy
   ·exact⟨by omega,by omega,g3⟩
   ·exact g2 y hy
  ·rw[aj5 h,cond_false];obtain⟨⟨u,h1,h2,h3,h4⟩,h5⟩:=KZ N m hm rec pO hr e.ax 0 v hv ha;rw[h5];exact⟨u,h1,h2,h3,fun hu=>absurd (ajF h2 hu) h⟩
theorem WJ(N:Nat):∀(d:Nat)(e:an)(m:Nat),m≤100000→SizeOf.sizeOf e<d→lr xM e→Wt m 1 (lr m e) (lZ N d e (m:Int))
 |0,_,_,_,h,_=>absurd h (ajP _)
 |d+1,e,m,hm,h,hl=>by
  have he:=hl e ajt;have h1:e.aK.xL.length≤140737488355328:=he.fZ;have h2:e.xIdx.length≤140737488355328:=he.idx;rw[lZ,show(1:Int)=((1:Nat):Int)from rfl,Af (by omega),Af (by omega)];obtain⟨u,f1,f2,f3,f4⟩:=T7 N m hm (lZ N d) (fun x=>SizeOf.sizeOf x<d∧lr xM x) (fun x q hq hx=>WJ N d x q (by omega) hx.1 hx.2) e (fun x hx=>⟨by have:=fy hx;omega,hl.arg hx⟩) e.xIdx 0 (1+e.aK.xL.length+e.xIdx.length) (by omega) he.each;refine⟨u,f1,by omega,f3,fun hu=> ?_⟩;obtain⟨⟨g1,g2⟩,g3⟩:=f4 hu;intro y hy;rcases ajR.1 hy with rfl|hy
  ·exact⟨by omega,by omega,g3,g1⟩
  ·obtain⟨x,hx,hy⟩:=Bg hy;exact g2 x hx y hy
def Bt(Q:Prop)(r:akd Bool):Prop:=∃b,r=some b∧(b=false→Q)
def dG{α:Type}(t:α→α→Bool):akb α→akb α→Bool
 |[],[]=>true
 |x::a,y::b=>t x y&&dG t a b
 |_,_=>false
theorem sS{α:Type}(t:α→α→Bool):∀a b:akb α,(a.length==b.length)=false→dG t a b=false
 |[],[],h=>by cases h
 |[],y::b,_=>rfl
 |x::a,[],_=>rfl
 |x::a,y::b,h=>by
  rw[dG,sS t a b (by simpa using h),Bool.and_false]
def mR(x y:aU):Bool:=(bL x.aV==bL y.aV)&&((x.cH.toInt==y.cH.toInt)&&true)
def hJ(a b:aF):Bool:=(a.xK.toInt==b.xK.toInt)&&dG mR a.xL b.xL
def eo(a b:aD):Bool:=(a.a8==b.a8)&&((a.bz==b.bz)&&((a.bE==b.bE)&&((a.bK==b.bK)&&((a.bI==b.bI)&&true))))
def mv(a b:ay):Bool:=(a.xN.toInt==b.xN.toInt)&&((a.xD.toInt==b.xD.toInt)&&true)
def jb(a b:aI):Bool:=(bL a.bU==bL b.bU)&&(hJ a.aK b.aK&&dG hJ a.bC b.bC)
def kQ:Nat→an→an→Bool
 |0,_,_=>false
 |d+1,a,b=>(a.ar==b.ar)&&((bL a.aV==bL b.aV)&&(mv a.ba b.ba&&(eo a.aC b.aC&&(hJ a.aK b.aK&&(dG jb a.xIdx b.xIdx&&dG (kQ d) a.ax b.ax)))))
theorem jL{α:Type}{L:akb α}{k:Nat}(h:L.drop k=[]):L.length≤k:=by
 by_cases hk:L.length≤k
 ·exact hk
 ·have:=congrArg List.length h;simp at this;omega
theorem Pn(N:Nat)(b:aF):∀(l r:akb aU)(k:Nat),b.xL.drop k=r→l.length=r.length→vm N b l k=some (dG mR l r)
 |[],[],_,_,_=>rfl
 |[],y::r,_,_,h=>by simp at h
 |x::l,[],_,_,h=>by simp at h
 |x::l,y::r,k,hd,hl=>by
  rw[vm,ajO,cd hd,ajm,Pn N b l r (k+1) (ji hd) (by simpa using hl)];rw[dG];show(bif mR x y then _ else _)=_;cases mR x y<;>rfl
theorem Lg(N:Nat)(a b:aF):wx N a b=some (hJ a b):=by
 unfold wx hJ;rw[Hn,show(a.xK.toInt !=b.xK.toInt)= !(a.xK.toInt==b.xK.toInt)from rfl];cases a.xK.toInt==b.xK.toInt with
 |false=>rfl
 |true=>
  cases h:a.xL.length==b.xL.length with
  |false=>rw[sS _ _ _ h];rfl
  |true=>exact Pn N b a.xL b.xL 0 rfl (beq_iff_eq.1 h)
theorem Rz(N:Nat)(L:akb aF):∀(l r:akb aF)(k:Nat),L.drop k=r→l.length=r.length→vg N L l k=some (dG hJ l r)
 |[],[],_,_,_=>rfl
 |[],y::r,_,_,h=>by simp at h
 |x::l,[],_,_,h=>by simp at h
 |x::l,y::r,k,hd,hl=>by
  rw[vg,ajO,cd hd,ajm,Lg,ajm,Rz N L l r (k+1) (ji hd) (by simpa using hl)];rw[dG];cases hJ x y<;>rfl
theorem afs(N:Nat)(a b:akb aF):Cl N a b=some (dG hJ a b):=by
 unfold Cl;rw[Hn];cases h:a.length==b.length with
 |false=>rw[sS _ _ _ h];rfl
 |true=>exact Rz N b a b 0 rfl (beq_iff_eq.1 h)
theorem V9:∀l r:akb UInt8,(Lib.compareBytes l r==0)=(l==r)
 |[],[]=>rfl
 |[],_::_=>rfl
 |_::_,[]=>rfl
 |a::l,b::r=>by
  rw[Lib.compareBytes,List.cons_beq_cons];by_cases h:a<b
  ·rw[if_pos h,show(a==b)=false from beq_eq_false_iff_ne.2 fun e=>by rw[e]at h;exact absurd h (UInt8.lt_irrefl b)];rfl
  ·rw[if_neg h];by_cases h2:b<a
   ·rw[if_pos h2,show(a==b)=false from beq_eq_false_iff_ne.2 fun e=>by rw[e]at h2;exact absurd h2 (UInt8.lt_irrefl b)];rfl
   ·rw[if_neg h2,V9 l r,show a=b from UInt8.le_antisymm (UInt8.not_lt.1 h2) (UInt8.not_lt.1 h),aj6,Bool.true_and]
def Cz(t:Bool)(r:akd Int):Prop:=∃c,r=some c∧(c==0)=t
theorem KE(N:Nat)(a b:akc):Cz (bL a==bL b) (Ch N a b):=⟨_,rfl,V9 _ _⟩
theorem qd(N:Nat)(a b:Int):Cz (a==b) (lO N a b):=by
 unfold lO E6;rw[bne_self_eq_false,bne_self_eq_false];simp only[ajm,cond_false];by_cases h:a<b
 ·rw[aj4 h];exact⟨-1,rfl,(beq_eq_false_iff_ne.2 (by omega)).symm⟩
 ·rw[aj5 h];by_cases h2:a>b
  ·rw[aj4 h2];exact⟨1,rfl,(beq_eq_false_iff_ne.2 (by omega)).symm⟩
  ·rw[aj5 h2];exact⟨0,rfl,(beq_iff_eq.2 (by omega)).symm⟩
theorem R5(N:Nat)(a b:Int64):Cz (a.toInt==b.toInt) (zq N a b):=by
 unfold zq BX;rw[bne_self_eq_false,bne_self_eq_false];simp only[ajm,cond_false];by_cases h:a.toInt<b.toInt
 ·rw[aj4 h];exact⟨-1,rfl,(beq_eq_false_iff_ne.2 (by omega)).symm⟩
 ·rw[aj5 h];by_cases h2:a.toInt>b.toInt
  ·rw[aj4 h2];exact⟨1,rfl,(beq_eq_false_iff_ne.2 (by omega)).symm⟩
  ·rw[aj5 h2];exact⟨0,rfl,(beq_iff_eq.2 (by omega)).symm⟩
theorem Uv(N:Nat)(a b:Int64):Cz (a.toInt==b.toInt) (xo N a b):=by
 unfold xo;by_cases h:a.toInt<b.toInt
 ·rw[aj4 h];exact⟨-1,rfl,(beq_eq_false_iff_ne.2 (by omega)).symm⟩
 ·rw[aj5 h];by_cases h2:a.toInt>b.toInt
  ·rw[aj4 h2];exact⟨1,rfl,(beq_eq_false_iff_ne.2 (by omega)).symm⟩
  ·rw[aj5 h2];exact⟨0,rfl,(beq_iff_eq.2 (by omega)).symm⟩
theorem O1(N:Nat):∀(l:akb Int)(k:Nat),Cz (l.all (·==0)) (vJ N l k)
 |[],_=>⟨0,rfl,rfl⟩
 |x::l,k=>by
  rw[vJ,aj7];cases h:x==0 with
  |false=>rw[show(x !=0)=true by unfold bne;rw[h];rfl];exact⟨x,rfl,h⟩
  |true=>rw[show(x !=0)=false by unfold bne;rw[h];rfl];exact O1 N l (k+1)
theorem mg{c:Int}{t:Bool}(h:(c==0)=t):(c !=0)= !t:=by unfold bne;rw[h]
theorem agw(N:Nat)(a b:aU):Cz (mR a b) (BS N a b):=by
 unfold BS mR;cases h:bL a.aV==bL b.aV with
 |true=>
  obtain⟨c,e1,e2⟩:=Uv N a.cH b.cH;rw[e1];exact⟨c,rfl,by rw[e2];cases a.cH.toInt==b.cH.toInt<;>rfl⟩
 |false=>
  obtain⟨c,e1,e2⟩:=KE N a.aV b.aV;rw[e1];exact⟨c,rfl,by rw[e2,h];rfl⟩
theorem Wc(N:Nat)(A B:akb aU):∀(l r:akb aU)(k:Nat),k≤A.length→A.drop k=l→B.drop k=r→Cz (dG mR l r) (o7 N A B l k)
 |[],[],k,hk,ha,hb=>by
  have h1:=jL ha;have h2:=jL hb;rw[o7,aj5 (show ¬(A.length:Int)<(B.length:Int) by omega)];exact⟨0,rfl,rfl⟩
 |[],y::r,k,hk,ha,hb=>by
  have h1:=jL ha;have h2:=kD hb;rw[o7,aj4 (show(A.length:Int)<(B.length:Int) by omega)];exact⟨-1,rfl,rfl⟩
 |x::l,[],k,hk,ha,hb=>by
  have h2:=jL hb;rw[o7,aj4 (show(k:Int)≥(B.length:Int) by omega)];exact⟨1,rfl,rfl⟩
 |x::l,y::r,k,hk,ha,hb=>by
  have h2:=kD hb;have h3:=kD ha;obtain⟨c,e1,e2⟩:=agw N x y;rw[o7,aj5 (show ¬(k:Int)≥(B.length:Int) by omega),cond_false,ajO,cd hb,ajm,e1,ajm,mg e2,dG];cases h:mR x y with
  |false=>rw[h]at e2;exact⟨c,rfl,e2⟩
  |true=>exact Wc N A B l r (k+1) (by omega) (ji ha) (ji hb)
theorem J1(N:Nat)(a b:aF):Cz (hJ a b) (wy N a b):=by
 unfold wy H5 hJ;obtain⟨c,e1,e2⟩:=Wc N a.xL b.xL a.xL b.xL 0 (Nat.zero_le _) rfl rfl;rw[e1,ajm,mg e2];cases h:dG mR a.xL b.xL with
 |false=>rw[h]at e2;exact⟨c,rfl,by rw[e2,Bool.and_false]⟩
 |true=>
  obtain⟨c',f1,f2⟩:=Uv N a.xK b.xK;rw[f1];exact⟨c',rfl,by rw[f2,Bool.and_true]⟩
theorem SM(N:Nat)(A B:akb aF):∀(l r:akb aF)(k:Nat),k≤A.length→A.drop k=l→B.drop k=r→Cz (dG hJ l r) (oS N A B l k)
 |[],[],k,hk,ha,hb=>by
  have h1:=jL ha;have h2:=jL hb;rw[oS,aj5 (show ¬(A.length:Int)<(B.length:Int) by omega)];exact⟨0,rfl,rfl⟩
 |[],y::r,k,hk,ha,hb=>by
  have h1:=jL ha;have h2:=kD hb;rw[oS,aj4 (show(A.length:Int)<(B.length:Int) by omega)];exact⟨-1,rfl,rfl⟩
 |x::l,[],k,hk,ha,hb=>by
  have h2:=jL hb;rw[oS,aj4 (show(k:Int)≥(B.length:Int) by omega)];exact⟨1,rfl,rfl⟩
 |x::l,y::r,k,hk,ha,hb=>by
  have h2:=kD hb;have h3:=kD ha;obtain⟨c,e1,e2⟩:=J1 N x y;rw[oS,aj5 (show ¬(k:Int)≥(B.length:Int) by omega),cond_false,ajO,cd hb,ajm,e1,ajm,mg e2,dG];cases h:hJ x y with
  |false=>rw[h]at e2;exact⟨c,rfl,e2⟩
  |true=>exact SM N A B l r (k+1) (by omega) (ji ha) (ji hb)
theorem XF(N:Nat)(a b:akb aF):Cz (dG hJ a b) (BN N a b):=by
 unfold BN Gf;obtain⟨c,e1,e2⟩:=qd N (a.length:Int) (b.length:Int);rw[lY]at e2;rw[e1,ajm,mg e2];cases h:a.length==b.length with
 |false=>rw[h]at e2;exact⟨c,rfl,by rw[e2,sS _ _ _ h]⟩
 |true=>
  obtain⟨c',f1,f2⟩:=SM N a b a b 0 (Nat.zero_le _) rfl rfl;rw[f1];exact⟨c',rfl,f2⟩
theorem ZE(N:Nat)(a b:aI):Cz (jb a b) (C6 N a b):=by
 unfold C6 jb;obtain⟨c,e1,e2⟩:=KE N a.bU b.bU;obtain⟨c',f1,f2⟩:=J1 N a.aK b.aK;obtain⟨c2,k1,k2⟩:=XF N a.bC b.bC;rw[e1,f1,k1,ajm,ajm,ajm,mg e2,mg f2];cases h:bL a.bU==bL b.bU with
 |false=>rw[h]at e2;exact⟨c,rfl,e2⟩
 |true=>
  cases h2:hJ a.aK b.aK with
  |false=>rw[h2]at f2;exact⟨c',rfl,f2⟩
  |true=>exact⟨c2,rfl,k2⟩
theorem Pq(N:Nat)(A B:akb aI):∀(l r:akb aI)(k:Nat),k≤A.length→A.drop k=l→B.drop k=r→Cz (dG jb l r) (om N A B l k)
 |[],[],k,hk,ha,hb=>by
  have h1:=jL ha;have h2:=jL hb;rw[om,aj5 (show ¬(A.length:Int)<(B.length:Int) by omega)];exact⟨0,rfl,rfl⟩
 |[],y::r,k,hk,ha,hb=>by
  have h1:=jL ha;have h2:=kD hb;rw[om,aj4 (show(A.length:Int)<(B.length:Int) by omega)];exact⟨-1,rfl,rfl⟩
 |x::l,[],k,hk,ha,hb=>by
  have h2:=jL hb;rw[om,aj4 (show(k:Int)≥(B.length:Int) by omega)];exact⟨1,rfl,rfl⟩
 |x::l,y::r,k,hk,ha,hb=>by
  have h2:=kD hb;have h3:=kD ha;obtain⟨c,e1,e2⟩:=ZE N x y;rw[om,aj5 (show ¬(k:Int)≥(B.length:Int) by omega),cond_false,ajO,cd hb,ajm,e1,ajm,mg e2,dG];cases h:jb x y with
  |false=>rw[h]at e2;exact⟨c,rfl,e2⟩
  |true=>exact Pq N A B l r (k+1) (by omega) (ji ha) (ji hb)
theorem agK(N:Nat)(a b:akb aI):Cz (dG jb a b) (Ey N a b):=by
 unfold Ey GS;obtain⟨c,e1,e2⟩:=qd N (a.length:Int) (b.length:Int);rw[lY]at e2;rw[e1,ajm,mg e2];cases h:a.length==b.length with
 |false=>rw[h]at e2;exact⟨c,rfl,by rw[e2,sS _ _ _ h]⟩
 |true=>
  obtain⟨c',f1,f2⟩:=Pq N a b a b 0 (Nat.zero_le _) rfl rfl;rw[f1];exact⟨c',rfl,f2⟩
theorem aeV(N:Nat)(a b:aD):Cz (eo a b) (CF N a b):=by
 unfold CF Aj eo;obtain⟨c1,e1,f1⟩:=qd N a.a8 b.a8;obtain⟨c2,e2,f2⟩:=qd N a.bz b.bz;obtain⟨c3,e3,f3⟩:=qd N a.bE b.bE;obtain⟨c4,e4,f4⟩:=qd N a.bK b.bK;obtain⟨c5,e5,f5⟩:=qd N a.bI b.bI;obtain⟨c,e,f⟩:=O1 N [c1,c2,c3,c4,c5] 0;rw[e1,e2,e3,e4,e5];simp only[ajm];rw[e];refine⟨c,rfl,?_⟩;rw[f];simp only[aj7,List.all_nil,f1,f2,f3,f4,f5]
theorem PR(N:Nat)(A B:akb an)(rec:an→an→akd Int)(t:an→an→Bool)(hr:∀x∈A,∀y,Cz (t x y) (rec x y)):∀(l r:akb an)(k:Nat),k≤A.length→A.drop k=l→B.drop k=r→Cz (dG t l r) (px N A B rec l k)
 |[],[],k,hk,ha,hb=>by
  have h1:=jL ha;have h2:=jL hb;rw[px,aj5 (show ¬(A.length:Int)<(B.length:Int) by omega)];exact⟨0,rfl,rfl⟩
 |[],y::r,k,hk,ha,hb=>by
  have h1:=jL ha;have h2:=kD hb;rw[px,aj4 (show(A.length:Int)<(B.length:Int) by omega)];exact⟨-1,rfl,rfl⟩
 |x::l,[],k,hk,ha,hb=>by
  have h2:=jL hb;rw[px,aj4 (show(k:Int)≥(B.length:Int) by omega)];exact⟨1,rfl,rfl⟩
 |x::l,y::r,k,hk,ha,hb=>by
  have h2:=kD hb;have h3:=kD ha;obtain⟨c,e1,e2⟩:=hr x (aaA (cd ha)) y;rw[px,aj5 (show ¬(k:Int)≥(B.length:Int) by omega),cond_false,ajO,cd hb,ajm,e1,ajm,mg e2,dG];cases h:t x y with
  |false=>rw[h]at e2;exact⟨c,rfl,e2⟩
  |true=>exact PR N A B rec t hr l r (k+1) (by omega) (ji ha) (ji hb)
theorem VH(N:Nat):∀(d:Nat)(a b:an)(D:Nat),SizeOf.sizeOf a<d→3*d≤D→Cz (kQ d a b) (qJ N D a b)
 |0,_,_,_,h,_=>absurd h (ajP _)
 |d+1,a,b,D,h,hD=>by
  obtain⟨D,rfl⟩:∃k,D=k+3:=⟨D-3,by omega⟩;rw[qJ,BH,DY,kQ];obtain⟨c1,e1,f1⟩:=qd N a.ar b.ar;obtain⟨c2,e2,f2⟩:=KE N a.aV b.aV;obtain⟨c3,e3,f3⟩:=R5 N a.ba.xN b.ba.xN;obtain⟨c4,e4,f4⟩:=R5 N a.ba.xD b.ba.xD;obtain⟨c5,e5,f5⟩:=aeV N a.aC b.aC;obtain⟨c6,e6,f6⟩:=J1 N a.aK b.aK;obtain⟨c,e,f⟩:=O1 N [c1,c2,c3,c4,c5,c6] 0;obtain⟨c7,e7,f7⟩:=agK N a.xIdx b.xIdx;obtain⟨c8,e8,f8⟩:=qd N (a.ax.length:Int) (b.ax.length:Int);obtain⟨c9,e9,f9⟩:=PR N a.ax b.ax (qJ N D) (kQ d) (fun x hx y=>VH N d x y D (by have:=fy hx;omega) (by omega)) a.ax b.ax 0 (Nat.zero_le _) rfl rfl;rw[lY]at f8;unfold Aj;rw[e1,e2,e3,e4,e5,e6];simp only[ajm];rw[e,e7,e8,e9];simp only[ajm];simp only[aj7,List.all_nil,f1,f2,f3,f4,f5,f6]at f;rw[mg f,mg f7,mg f8];unfold mv;generalize (a.ar==b.ar)=t1 at*;generalize (bL a.aV==bL b.aV)=t2 at*;generalize (a.ba.xN.toInt==b.ba.xN.toInt)=t3 at*;generalize (a.ba.xD.toInt==b.ba.xD.toInt)=t4 at*;generalize eo a.aC b.aC=t5 at*;generalize hJ a.aK b.aK=t6 at*;cases hh:t1&&(t2&&(t3&&(t4&&(t5&&(t6&&true)))))with
  |false=>
   rw[hh]at f;refine⟨c,rfl,?_⟩;rw[f];revert hh;cases t1<;>cases t2<;>cases t3<;>cases t4<;>cases t5<;>cases t6<;>first|(intro _;rfl)|(intro h;cases h)
  |true=>
   have ht:t1=true∧t2=true∧t3=true∧t4=true∧t5=true∧t6=true:=by
    revert hh;cases t1<;>cases t2<;>cases t3<;>cases t4<;>cases t5<;>cases t6<;>first|(intro _;exact⟨rfl,rfl,rfl,rfl,rfl,rfl⟩)|(intro h;cases h)
   obtain⟨rfl,rfl,rfl,rfl,rfl,rfl⟩:=ht;cases h7:dG jb a.xIdx b.xIdx with
   |false=>rw[h7]at f7;exact⟨c7,rfl,f7⟩
   |true=>
    cases h8:a.ax.length==b.ax.length with
    |false=>rw[h8]at f8;exact⟨c8,rfl,by rw[f8,sS _ _ _ h8];rfl⟩
    |true=>exact⟨c9,rfl,by rw[f9];rfl⟩
theorem adz(N:Nat)(a b:aI):A6 N a b=some (jb a b):=by
 unfold A6 jb;rw[Lg,afs,ajm,ajm];cases bL a.bU==bL b.bU<;>cases hJ a.aK b.aK<;>rfl
theorem Ub(N:Nat)(L:akb aI):∀(l r:akb aI)(k:Nat),L.drop k=r→l.length=r.length→uP N L l k=some (dG jb l r)
 |[],[],_,_,_=>rfl
 |[],y::r,_,_,h=>by simp at h
 |x::l,[],_,_,h=>by simp at h
 |x::l,y::r,k,hd,hl=>by
  rw[uP,ajO,cd hd,ajm,adz,ajm,Ub N L l r (k+1) (ji hd) (by simpa using hl)];rw[dG];cases jb x y<;>rfl
theorem acY(N:Nat)(a b:akb aI):EN N a b=some (dG jb a b):=by
 unfold EN;rw[Hn];cases h:a.length==b.length with
 |false=>rw[sS _ _ _ h];rfl
 |true=>exact Ub N b a b 0 rfl (beq_iff_eq.1 h)
theorem S1(N:Nat)(L:akb an)(rec:an→an→akd Bool)(t:an→an→Bool):∀(l r:akb an)(k:Nat),(∀x∈l,∀y,rec x y=some (t x y))→L.drop k=r→l.length=r.length→uW N L rec l k=some (dG t l r)
 |[],[],_,_,_,_=>rfl
 |[],y::r,_,_,_,h=>by simp at h
 |x::l,[],_,_,_,h=>by simp at h
 |x::l,y::r,k,hr,hd,hl=>by
  rw[uW,ajO,cd hd,ajm,hr x ajt,ajm,S1 N L rec t l r (k+1) (fun z hz=>hr z (ajw _ hz)) (ji hd) (by simpa using hl)];rw[dG];cases t x y<;>rfl
theorem Td(N:Nat):∀(d:Nat)(a b:an)(D:Nat),SizeOf.sizeOf a<d→3*d≤D→tV N D a b=some (kQ d a b)
 |0,_,_,_,h,_=>absurd h (ajP _)
 |d+1,a,b,D,h,hD=>by
  obtain⟨D,rfl⟩:∃k,D=k+2:=⟨D-2,by omega⟩;have ha:yt N (D+1) a.ax b.ax=some (dG (kQ d) a.ax b.ax):=by
   rw[yt,Hn];cases h8:a.ax.length==b.ax.length with
   |false=>rw[sS _ _ _ h8];rfl
   |true=>exact S1 N b.ax _ (kQ d) a.ax b.ax 0 (fun x hx y=>Td N d x y D (by have:=fy hx;omega) (by omega)) rfl (beq_iff_eq.1 h8)
  rw[tV,ha,Lg,acY,kQ];rw[show((a.ba.xN.toInt==b.ba.xN.toInt)&&((a.ba.xD.toInt==b.ba.xD.toInt)&&true))=mv a.ba b.ba from rfl,show((a.aC.a8==b.aC.a8)&&((a.aC.bz==b.aC.bz)&&((a.aC.bE==b.aC.bE)&&((a.aC.bK==b.aC.bK)&&((a.aC.bI==b.aC.bI)&&true)))))=eo a.aC b.aC from rfl];cases a.ar==b.ar<;>cases bL a.aV==bL b.aV<;>cases mv a.ba b.ba<;>cases eo a.aC b.aC<;>cases hJ a.aK b.aK<;>cases dG jb a.xIdx b.xIdx<;>rfl
theorem A5{α:Type}{t:α→α→Bool}:∀{a b:akb α},(∀x∈a,∀y,t x y=true→x=y)→dG t a b=true→a=b
 |[],[],_,_=>rfl
 |[],_::_,_,h=>by cases h
 |_::_,[],_,h=>by cases h
 |x::a,y::b,ht,h=>by
  have h':(t x y&&dG t a b)=true:=h;rw[ajp]at h';rw[ht x ajt y h'.1,A5 (fun z hz=>ht z (ajw _ hz)) h'.2]
theorem Ek{α:Type}{t:α→α→Bool}:∀{a:akb α},(∀x∈a,t x x=true)→dG t a a=true
 |[],_=>rfl
 |x::a,ht=>by
  show(t x x&&dG t a a)=true;rw[ht x ajt,Ek fun y hy=>ht y (ajw _ hy)];rfl
theorem Ly{a b:akc}(h:(bL a==bL b)=true):a=b:=O4 (by simpa using h)
theorem Re{a b:Int64}(h:(a.toInt==b.toInt)=true):a=b:=Int64.toInt_inj.1 (by simpa using h)
theorem agf{a b:aU}(h:mR a b=true):a=b:=by
 unfold mR at h;simp only[ajp]at h;cases a;cases b
 congr 1
 ·exact Ly h.1
 ·exact Re h.2.1
theorem OY{a b:aF}(h:hJ a b=true):a=b:=by
 unfold hJ at h;simp only[ajp]at h;cases a;cases b
 congr 1
 ·exact Re h.1
 ·exact A5 (fun x _ y=>agf) h.2
theorem Ms(a:aF):hJ a a=true:=by
 unfold hJ;rw[Ek fun x _=>by unfold mR;simp];simp
theorem adq{a b:aI}(h:jb a b=true):a=b:=by
 unfold jb at h;simp only[ajp]at h;cases a;cases b
 congr 1
 ·exact OY h.2.1
 ·exact Ly h.1
 ·exact A5 (fun x _ y=>OY) h.2.2
theorem ahR(a:aI):jb a a=true:=by
 unfold jb;rw[Ek fun x _=>Ms x,Ms];simp
theorem Ol{a b:aD}:eo a b=true↔a=b:=by
 unfold eo;simp only[ajp,beq_iff_eq,and_true];constructor
 ·rintro⟨h1,h2,h3,h4,h5⟩;cases a;cases b;simp only at*;subst h1;subst h2;subst h3;subst h4;subst h5;rfl
 ·rintro rfl;exact⟨rfl,rfl,rfl,rfl,rfl⟩
theorem PI{a b:ay}:mv a b=true↔a=b:=by
 unfold mv;simp only[ajp,beq_iff_eq,and_true];constructor
 ·rintro⟨h1,h2⟩;exact zY h1 h2
 ·rintro rfl;exact⟨rfl,rfl⟩
theorem UQ:∀{d:Nat}{a b:an},kQ d a b=true→a=b
 |0,a,b,h=>by cases h
 |d+1,a,b,h=>by
  rw[kQ]at h;simp only[ajp]at h;cases a;cases b
  simp only at h;obtain⟨h1,h2,h3,h4,h5,h6,h7⟩:=h
  congr 1
  ·simpa using h1
  ·exact Ly h2
  ·exact PI.1 h3
  ·exact Ol.1 h4
  ·exact OY h5
  ·exact A5 (fun x _ y=>adq) h6
  ·exact A5 (fun x _ y=>UQ) h7
theorem QI:∀{d:Nat}{a:an},SizeOf.sizeOf a<d→kQ d a a=true
 |0,a,h=>absurd h (ajP _)
 |d+1,a,h=>by
  rw[kQ];have h1:=Ek (t:=kQ d) (a:=a.ax) fun x hx=>QI (by have:=fy hx;omega);have h2:=Ek (t:=jb) (a:=a.xIdx) fun x _=>ahR x;have h3:=Ol.2 (rfl:a.aC=a.aC);have h4:=PI.2 (rfl:a.ba=a.ba);have h5:=Ms a.aK;simp [h1,h2,h3,h4,h5]
noncomputable def ic(a b:an):Bool:=kQ (SizeOf.sizeOf a+1) a b
theorem Si{a b:an}:ic a b=true↔a=b:=by
 unfold ic;refine⟨UQ,?_⟩;rintro rfl;exact QI (aj9 _)
def dj(op:Int)(l:akb an):an:=⟨op,bs [],bg,b8,zLin,[],l⟩
def fU(t:aD)(v:ay):an:=⟨1,bs [],v,t,zLin,[],[]⟩
def lA(l:aF):an:=⟨2,bs [],bg,b8,l,[],[]⟩
def vK:aD:=⟨3,0,0,0,0⟩
def x8(op:Int):Bool:=op==4||(op==5||(op==6||(op==7||(op==9||op==10))))
abbrev Kn:=dR
def jU:Kn:=⟨b8,false⟩
def jf:Nat→an→Kn
 |0,_=>jU
 |d+1,e=>bif e.ar==1||e.ar==12 then⟨e.aC,true⟩else bif e.ar==2 then⟨vK,true⟩
  else match e.ax with
  |[a]=>bif e.ar==8 then jf d a else jU
  |[a,b]=>bif x8 e.ar then(bif (jf d a).dk then jf d a else jf d b)else jU
  |[_,a,b]=>bif e.ar==11&&((jf d a).dk&&((jf d b).dk&&eo (jf d a).yT (jf d b).yT))then jf d a else jU
  |_=>jU
noncomputable def cM(e:an):Kn:=jf (SizeOf.sizeOf e) e
theorem NP:∀(d d':Nat)(e:an),SizeOf.sizeOf e≤d→SizeOf.sizeOf e≤d'→jf d e=jf d' e
 |0,_,e,h,_=>by cases e;simp at h
 |_,0,e,_,h=>by cases e;simp at h
 |d+1,d'+1,e,h,h'=>by
  have ih:∀x∈e.ax,jf d x=jf d' x:=fun x hx=>NP d d' x (by have:=fy hx;omega) (by have:=fy hx;omega);rw[jf,jf];revert ih
  match e.ax with
  |[]=>intro _;rfl
  |[a]=>intro ih;simp only[ih a (by simp)]
  |[a,b]=>intro ih;simp only[ih a (by simp),ih b (by simp)]
  |[c,a,b]=>intro ih;simp only[ih a (by simp),ih b (by simp)]
  |_::_::_::_::_=>intro _;rfl
theorem TK(e:an):cM e=bif e.ar==1||e.ar==12 then⟨e.aC,true⟩else bif e.ar==2 then⟨vK,true⟩
 else match e.ax with
 |[a]=>bif e.ar==8 then cM a else jU
 |[a,b]=>bif x8 e.ar then(bif (cM a).dk then cM a else cM b)else jU
 |[_,a,b]=>bif e.ar==11&&((cM a).dk&&((cM b).dk&&eo (cM a).yT (cM b).yT))then cM a else jU
 |_=>jU:=by
 have ih:∀x∈e.ax,jf (SizeOf.sizeOf e) x=cM x:=fun x hx=>NP _ _ x (by have:=fy hx;omega) (ajy _);unfold cM;rw[NP _ (SizeOf.sizeOf e+1) e (ajy _) (Nat.le_succ _),jf];revert ih;unfold cM
 match e.ax with
 |[]=>intro _;rfl
 |[a]=>intro ih;simp only[ih a (by simp)]
 |[a,b]=>intro ih;simp only[ih a (by simp),ih b (by simp)]
 |[c,a,b]=>intro ih;simp only[ih a (by simp),ih b (by simp)]
 |_::_::_::_::_=>intro _;rfl
noncomputable def uq(a b:an):Kn:=bif (cM a).dk then cM a else cM b
noncomputable def rh(e:an)(k:Kn)(i:Nat):Kn:=
 bif x8 e.ar||(e.ar==8||(e.ar==11&& !(i==0)))then k
 else bif e.ar==12 then(match e.ax with|[a]=>cM a|_=>jU)
 else bif e.ar==13||(e.ar==14||e.ar==15)then(match e.ax with|[a,b]=>uq a b|_=>jU)else jU
def jj(e:an):akd aF:=bif e.ar==2 then some e.aK else bif e.ar==1&&e.aC.a8==3 then some ⟨e.ba.xN,[]⟩else none
def lk(f g:aF):X aF:=match jg g (-1)with| .error e=> .error e| .ok h=>j9 f h
def NM(a b:an):akd Int64:=match jj a,jj b with
 |some f,some g=>(match lk f g with| .ok d=>bif d.xL.length==0 then some d.xK else none| .error _=>none)
 |_,_=>none
def rL(op sign:Int):Bool:=bif op==13 then decide (sign<0)else bif op==14 then decide (sign≤0)else sign==0
noncomputable def mu(op:Int)(a b:an):Bool×Bool:=
 bif a.ar==1&&(b.ar==1&&eo a.aC b.aC)then(rL op (j5 a.aC a.ba b.ba),true)
 else match NM a b with
 |some k=>(rL op (l0 k.toInt 0),true)
 |none=>bif ic a b then(!(op==13),true)else(false,false)
noncomputable def iw:Nat→an→Bool×Bool
 |0,_=>(false,false)
 |d+1,e=>match e.ax with
  |[a]=>bif e.ar==18 then((iw d a).2&& !(iw d a).1,(iw d a).2)else(false,false)
  |[a,b]=>bif e.ar==13||(e.ar==14||e.ar==15)then mu e.ar a b
   else bif e.ar==16||e.ar==17 then
    (bif ((iw d a).2&&(iw d a).1==(e.ar==17))||((iw d b).2&&(iw d b).1==(e.ar==17))then(e.ar==17,true)
    else(!(e.ar==17)&&((iw d a).2&&(iw d b).2),(iw d a).2&&(iw d b).2))
   else(false,false)
  |_=>(false,false)
noncomputable def er(e:an):Bool×Bool:=iw (SizeOf.sizeOf e) e
theorem Nl:∀(d d':Nat)(e:an),SizeOf.sizeOf e≤d→SizeOf.sizeOf e≤d'→iw d e=iw d' e
 |0,_,e,h,_=>by cases e;simp at h
 |_,0,e,_,h=>by cases e;simp at h
 |d+1,d'+1,e,h,h'=>by
  have ih:∀x∈e.ax,iw d x=iw d' x:=fun x hx=>Nl d d' x (by have:=fy hx;omega) (by have:=fy hx;omega);rw[iw,iw];revert ih
  match e.ax with
  |[]=>intro _;rfl
  |[a]=>intro ih;simp only[ih a (by simp)]
  |[a,b]=>intro ih;simp only[ih a (by simp),ih b (by simp)]
  |_::_::_::_=>intro _;rfl
theorem Px(e:an):er e=match e.ax with
 |[a]=>bif e.ar==18 then((er a).2&& !(er a).1,(er a).2)else(false,false)
 |[a,b]=>bif e.ar==13||(e.ar==14||e.ar==15)then mu e.ar a b
  else bif e.ar==16||e.ar==17 then
   (bif ((er a).2&&(er a).1==(e.ar==17))||((er b).2&&(er b).1==(e.ar==17))then(e.ar==17,true)
   else(!(e.ar==17)&&((er a).2&&(er b).2),(er a).2&&(er b).2))
  else(false,false)
 |_=>(false,false):=by
 have ih:∀x∈e.ax,iw (SizeOf.sizeOf e) x=er x:=fun x hx=>Nl _ _ x (by have:=fy hx;omega) (ajy _);unfold er;rw[Nl _ (SizeOf.sizeOf e+1) e (ajy _) (Nat.le_succ _),iw];revert ih;unfold er
 match e.ax with
 |[]=>intro _;rfl
 |[a]=>intro ih;simp only[ih a (by simp)]
 |[a,b]=>intro ih;simp only[ih a (by simp),ih b (by simp)]
 |_::_::_::_=>intro _;rfl
def oe(t:aD)(r:ay×Int):akd an:=bif r.2==0 then some (fU t r.1)else none
def iJ(r:X aF):akd an:=match r with| .ok l=>some (lA l)| .error _=>none
def rV(e:an):akd an:=match e.ax with
 |[a]=>bif e.ar==8&&a.ar==1 then oe a.aC (qM 8 a.aC a.ba a.ba)else none
 |[a,b]=>bif x8 e.ar&&(a.ar==1&&(b.ar==1&&eo a.aC b.aC))then oe a.aC (qM e.ar a.aC a.ba b.ba)else none
 |_=>none
noncomputable def ue(e:an):akd an:=match e.ax with
 |[a]=>bif e.ar==12 then(bif a.ar==1 then oe e.aC (ur a.aC e.aC a.ba)else bif (cM a).dk&&eo (cM a).yT e.aC then some a else none)else none
 |_=>none
def yY(op:Int)(a b:an):akd an:=match jj a,jj b with
 |some f,some g=>bif a.ar==2||b.ar==2 then iJ (bif op==5 then lk f g else j9 f g)else none
 |_,_=>none
def gp(e:an):Bool:=e.ar==1&&e.aC.a8==3
def o9(a b:an):akd an:=
 bif a.ar==2&&gp b then iJ (jg a.aK b.ba.xN)else bif gp a&&b.ar==2 then iJ (jg b.aK a.ba.xN)else none
def td(e:an):akd an:=
 bif e.ar==2 then(bif e.aK.xL.length==0&&(decide (-2147483647≤e.aK.xK.toInt)&&decide (e.aK.xK.toInt≤2147483647))then some (fU vK ⟨e.aK.xK,1⟩)else none)
 else match e.ax with
 |[a]=>bif e.ar==8&&a.ar==2 then iJ (jg a.aK (-1))else none
 |[a,b]=>bif e.ar==4||e.ar==5 then yY e.ar a b else bif e.ar==6 then o9 a b else none
 |_=>none
noncomputable def sy(e:an):akd an:=match e.ax with
 |[c,a,b]=>bif e.ar==11&&(er c).2 then some (bif (er c).1 then a else b)else none
 |_=>none
noncomputable def tp(e:an):akd an:=match e.ax with
 |[_,a,b]=>bif e.ar==11&&ic a b then some a else none
 |[a,b]=>bif (e.ar==9||(e.ar==10||(e.ar==16||e.ar==17)))&&ic a b then some a else none
 |_=>none
def eV(e:an):Bool:=e.ar==1&&mv e.ba (pE e.aC)
def jy(e:an):Bool:=e.ar==1&&((iy e.aC).2==0&&mv e.ba (iy e.aC).1)
def sY(e:an):akd an:=match e.ax with
 |[a,b]=>bif e.ar==4 then(bif eV b then some a else bif eV a then some b else none)
  else bif e.ar==5 then(bif eV b then some a else bif eV a then some (dj 8 [b])else none)
  else bif e.ar==6 then(bif eV b then some b else bif eV a then some a else none)
  else bif e.ar==7 then(bif eV a then some a else none)else none
 |_=>none
def s6(e:an):akd an:=match e.ax with
 |[a,b]=>bif e.ar==6 then(bif jy b then some a else bif jy a then some b else none)else bif e.ar==7 then(bif jy b then some a else none)else none
 |_=>none
noncomputable def tb(e:an)(k:Kn):akd an:=match e.ax with
 |[a,b]=>bif (e.ar==5||e.ar==7)&&(k.dk&&ic a b)then
    (bif e.ar==5 then some (fU k.yT (pE k.yT))else bif !(k.yT.a8==2)&&(iy k.yT).2==0 then some (fU k.yT (iy k.yT).1)else none)else none
 |_=>none
def tZ(e:an)(k:Kn):akd an:=
 bif k.dk&&(!(k.yT.a8==2)||k.yT.bI==2)then
  (match e.ax with
  |[a]=>bif e.ar==8&&a.ar==8 then a.ax[0]? else none
  |[a,b]=>bif e.ar==4 then(bif b.ar==8 then(b.ax[0]?).map fun x=>dj 5 [a,x]else bif a.ar==8 then(a.ax[0]?).map fun x=>dj 5 [b,x]else none)
   else bif e.ar==5&&b.ar==8 then(b.ax[0]?).map fun x=>dj 4 [a,x]else none
  |_=>none)else none
def sB(e:an):akd an:=match e.ax with
 |[c,a,b]=>bif e.ar==11&&c.ar==18 then(c.ax[0]?).map fun x=>dj 11 [x,b,a]else none
 |[c]=>bif e.ar==18 then
    (bif c.ar==18 then c.ax[0]? else bif c.ar==13 then(match c.ax with|[x,y]=>some (dj 14 [y,x])|_=>none)
    else bif c.ar==14 then(match c.ax with|[x,y]=>some (dj 13 [y,x])|_=>none)else none)else none
 |_=>none
noncomputable def tc(e:an):akd an:=match e.ax with
 |[a,b]=>bif e.ar==16||e.ar==17 then
    (bif (er a).2&&(er a).1==(e.ar==16)then some b else bif (er b).2&&(er b).1==(e.ar==16)then some a else none)else none
 |_=>none
abbrev Rw:=akd (an×akc)
def iZ(o:akd an)(s:akc)(r:Rw):Rw:=match o with|some x=>some (x,s)|none=>r
def MM:akc:=bs [102,111,108,100]
def Oe:akc:=bs [99,97,115,116]
def Li:akc:=bs [105,110,100,101,120]
def OJ:akc:=bs [105,102]
def Ow:akc:=bs [115,97,109,101]
def M0:akc:=bs [122,101,114,111]
def NG:akc:=bs [111,110,101]
def Ls:akc:=bs [99,97,110,99,101,108]
def OV:akc:=bs [110,101,103,97,116,101]
def Oi:akc:=bs [110,111,116]
def Ou:akc:=bs [108,111,103,105,99]
noncomputable def mD(e:an)(k:Kn):Rw:=
 iZ (rV e) MM (iZ (ue e) Oe (iZ (td e) Li (iZ (sy e) OJ (iZ (tp e) Ow (iZ (sY e) M0 (iZ (s6 e) NG
  (iZ (tb e k) Ls (iZ (tZ e k) OV (iZ (sB e) Oi (iZ (tc e) Ou none))))))))))
def tF(e:an)(i:Nat)(x:an):an:=⟨e.ar,e.aV,e.ba,e.aC,e.aK,e.xIdx,e.ax.set i x⟩
noncomputable def jt(rec:an→Kn→Rw)(e:an)(k:Kn):Nat→akb an→Rw
 |_,[]=>none
 |i,x::l=>match rec x (rh e k i)with
  |some (y,s)=>some (tF e i y,s)
  |none=>jt rec e k (i+1) l
noncomputable def kC:Nat→an→Kn→Rw
 |0,_,_=>none
 |d+1,e,k=>match mD e k with
  |some r=>some r
  |none=>jt (kC d) e k 0 e.ax
noncomputable def iG(e:an)(k:Kn):Rw:=kC (SizeOf.sizeOf e) e k
noncomputable def ln(t:aD)(e:an):Rw:=bif cO t&&jE e==0 then iG e ⟨t,!eu e⟩else none
theorem yN{a g:aF}{b:Int64}(h:jg a b= .ok g):g.xL.length≤a.xL.length:=by
 rw[KV]at h;cases h1:dM a<;>rw[h1]at h
 ·cases h
 ·cases h2:b.toInt==0<;>rw[h2]at h
  ·cases h3:dz (a.xK.toInt*b.toInt)&&a.xL.all (pf b)<;>rw[h3]at h
   ·cases h
   ·cases h;exact Nat.le_of_eq (ajs _)
  ·cases h;exact Nat.zero_le _
theorem zR:∀a b:akb aU,(dJ a b).length≤a.length+b.length
 |[],[]=>by rw[dJ];exact ajy _
 |x::l,[]=>by rw[dJ];have:=zR l [];simp only[ajq,ajz]at*;omega
 |[],y::r=>by rw[dJ];have:=zR [] r;simp only[ajq,ajz]at*;omega
 |x::l,y::r=>by
  rw[dJ];have h1:=zR l (y::r);have h2:=zR (x::l) r;have h3:=zR l r;split
  ·simp only[ajq]at*;omega
  ·split<;>simp only[ajq]at* <;>omega
termination_by a b=>a.length+b.length
theorem TE{a b g:aF}(h:j9 a b= .ok g):g.xL.length≤a.xL.length+b.xL.length:=by
 rw[U7]at h;cases h1:dM a&&dM b<;>rw[h1]at h
 ·cases h
 ·cases h2:dz (a.xK.toInt+b.xK.toInt)&&(dJ a.xL b.xL).all jq<;>rw[h2]at h
  ·cases h
  ·cases h
   exact ajF (List.length_filterMap_le _ _) (zR _ _)
theorem air{f g d:aF}(h:lk f g= .ok d):d.xL.length≤f.xL.length+g.xL.length:=by
 unfold lk at h;cases h1:jg g (-1)with
 |error e=>rw[h1]at h;cases h
 |ok q=>rw[h1]at h;have:=yN h1;have:=TE h;omega
theorem Ns{a:an}{f:aF}(h:jj a=some f):f.xL.length≤a.aK.xL.length:=by
 unfold jj at h;cases h2:a.ar==2 with
 |true=>rw[h2]at h;cases h;exact ajy _
 |false=>
  rw[h2]at h;cases h3:a.ar==1&&a.aC.a8==3 with
  |true=>rw[h3]at h;cases h;exact Nat.zero_le _
  |false=>rw[h3]at h;cases h
def own(w:an→Nat):Prop:=∀e l,w ⟨e.ar,e.aV,e.ba,e.aC,e.aK,e.xIdx,l⟩=w e
def W(w:an→Nat)(e:an):Nat:=((cQ e).map w).sum
def WL(w:an→Nat)(l:akb an):Nat:=(l.map (W w)).sum
theorem Vf(w:an→Nat):∀l:akb an,((iI l).map w).sum=WL w l
 |[]=>by rw[iI];rfl
 |x::l=>by
  rw[Aw,List.map_append,List.sum_append,Vf w l];show _=(List.map (W w) (x::l)).sum;rw[ajM,List.sum_cons];rfl
theorem gF(w:an→Nat)(e:an):W w e=w e+WL w e.ax:=by
 unfold W;unfold cQ;rw[ajM,List.sum_cons,Vf]
theorem m4(w:an→Nat)(x:an)(l:akb an):WL w (x::l)=W w x+WL w l:=by unfold WL;rw[ajM,List.sum_cons]
theorem Ej(w:an→Nat):WL w []=0:=rfl
theorem Ff{w:an→Nat}:∀{l:akb an}{x:an},x∈l→W w x≤WL w l
 |y::l,x,h=>by
  rw[m4];rcases ajR.1 h with rfl|h
  ·omega
  ·have:=Ff (w:=w) h;omega
theorem Qy{w:an→Nat}:∀{l:akb an}{i:Nat}{a:an}(x:an),l[i]?=some a→WL w (l.set i x)+W w a=WL w l+W w x
 |[],i,a,x,h=>by cases h
 |y::l,0,a,x,h=>by cases h;rw[List.set_cons_zero,m4,m4];omega
 |y::l,i+1,a,x,h=>by
  rw[ajY]at h;rw[List.set_cons_succ,m4,m4];have:=Qy (w:=w) x h;omega
theorem Yd{w:an→Nat}(hw:own w){e a:an}{i:Nat}(x:an)(h:e.ax[i]?=some a):W w (tF e i x)+W w a=W w e+W w x:=by
 rw[gF w (tF e i x),gF w e];have h1:w (tF e i x)=w e:=hw e _;have h2:WL w (tF e i x).ax+W w a=WL w e.ax+W w x:=Qy (w:=w) x h;omega
inductive ft:an→an→Prop
 |arg {e x:an}:4≤e.ar→x∈e.ax→ft e x
 |mC {e a x:an}:4≤e.ar→a∈e.ax→4≤a.ar→x∈a.ax→ft e x
 |val {e:an} (t:aD) (v:ay):e.ar=2∨(4≤e.ar∧e.ax≠ [])→ft e (fU t v)
 |idx {e:an} {l:aF}:4≤e.ar→e.ax≠ []→l.xL.length≤(e.ax.map fun x=>x.aK.xL.length).sum→(∀x∈e.ax,x.ar=1∨x.ar=2)→(∃x∈e.ax,x.ar=2)→ft e (lA l)
 |neg {e a b:an} (op:Int):4≤e.ar→4≤op→e.ax=[a,b]→ft e (dj op [b])
 |two {e a b c:an} (op:Int):4≤e.ar→4≤op→e.ax=[a,b]→4≤b.ar→b.ax=[c]→ft e (dj op [a,c])
 |MV {e a b c:an} (op:Int):4≤e.ar→4≤op→e.ax=[a,b]→4≤a.ar→a.ax=[c]→ft e (dj op [b,c])
 |swap {e a x y:an} (op:Int):4≤e.ar→4≤op→e.ax=[a]→4≤a.ar→a.ax=[x,y]→ft e (dj op [y,x])
 |three {e c a b x:an} (op:Int):4≤e.ar→4≤op→e.ax=[c,a,b]→4≤c.ar→c.ax=[x]→ft e (dj op [x,b,a])
theorem sx(w:an→Nat)(a b:an):WL w [a,b]=W w a+W w b:=by rw[m4,m4,Ej];omega
theorem ET(w:an→Nat)(a:an):WL w [a]=W w a:=by rw[m4,Ej];omega
theorem QE(w:an→Nat)(a b c:an):WL w [a,b,c]=W w a+(W w b+W w c):=by rw[m4,m4,m4,Ej];omega
def wT(e:an):Nat:=e.aK.xL.length
theorem aiT:own wT:=fun _ _=>rfl
theorem aeR(w:an→Nat)(t:aD)(v:ay):W w (fU t v)=w (fU t v):=by rw[gF];show _+WL w []=_;rw[Ej];rfl
theorem Zk(w:an→Nat)(l:aF):W w (lA l)=w (lA l):=by rw[gF];show _+WL w []=_;rw[Ej];rfl
theorem C7(w:an→Nat)(op:Int)(l:akb an):W w (dj op l)=w (dj op l)+WL w l:=gF w _
theorem Q5{f g:an→Nat}:∀{l:akb an},(∀x∈l,f x≤g x)→(l.map f).sum≤(l.map g).sum
 |[],_=>ajy _
 |x::l,h=>by
  rw[ajM,ajM,List.sum_cons,List.sum_cons];have:=Q5 fun y hy=>h y (ajw x hy);have:=h x ajt;omega
theorem afo{e x:an}(h:ft e x):W wT x≤W wT e:=by
 cases h with
 |arg h0 h1=>rw[gF wT e];have:=Ff (w:=wT) h1;omega
 |mC h0 h1 h2 h3=>rename_i a;rw[gF wT e];have h4:=Ff (w:=wT) h1;have h5:=Ff (w:=wT) h3;rw[gF wT a]at h4;omega
 |val t v h0=>rw[aeR];exact Nat.zero_le _
 |idx h0 h1 h2 h3 h4=>
  rename_i l
  rw[Zk,gF wT e];show l.xL.length≤_;have:(e.ax.map fun x=>x.aK.xL.length).sum≤WL wT e.ax:=Q5 fun x _=>by rw[gF wT x];exact aj2 _ _
  omega
 |neg op h0 ho h1=>rename_i a b;rw[C7,gF wT e,h1,ET,sx];rw[show ∀l,wT (dj op l)=0 from fun _=>rfl];omega
 |two op h0 ho h1 h2 h3=>rename_i a b c;rw[C7,gF wT e,h1,sx,sx,gF wT b,h3,ET];rw[show ∀l,wT (dj op l)=0 from fun _=>rfl];omega
 |MV op h0 ho h1 h2 h3=>rename_i a b c;rw[C7,gF wT e,h1,sx,sx,gF wT a,h3,ET];rw[show ∀l,wT (dj op l)=0 from fun _=>rfl];omega
 |swap op h0 ho h1 h2 h3=>rename_i a x y;rw[C7,gF wT e,h1,ET,sx,gF wT a,h3,sx];rw[show ∀l,wT (dj op l)=0 from fun _=>rfl];omega
 |three op h0 ho h1 h2 h3=>rename_i c a b x;rw[C7,gF wT e,h1,QE,QE,gF wT c,h3,ET];rw[show ∀l,wT (dj op l)=0 from fun _=>rfl];omega
theorem eh{α:Type}{b:Bool}{o:akd α}{x:α}(h:(bif b then o else none)=some x):b=true∧o=some x:=by
 cases b with
 |true=>exact⟨rfl,h⟩
 |false=>cases h
theorem iD{α:Type}{b:Bool}{o p:akd α}{x:α}(h:(bif b then o else p)=some x):(b=true∧o=some x)∨(b=false∧p=some x):=by
 cases b with
 |true=>exact .inl ⟨rfl,h⟩
 |false=>exact .inr ⟨rfl,h⟩
theorem nr{o:akd an}{s t:akc}{r:Rw}{x:an}(h:iZ o s r=some (x,t)):(o=some x∧s=t)∨r=some (x,t):=by
 unfold iZ at h;cases o with
 |none=>exact .inr h
 |some y=>cases h;exact .inl ⟨rfl,rfl⟩
theorem Yg{op:Int}(h:x8 op=true):4≤op∧op≤10∧op≠8:=by
 unfold x8 at h;simp only[Bool.or_eq_true,beq_iff_eq]at h;omega
theorem MR{t:aD}{r:ay×Int}{x:an}(h:oe t r=some x):x=fU t r.1∧r.2=0:=by
 obtain⟨h1,h2⟩:=eh h;cases h2
 exact⟨rfl,by simpa using h1⟩
theorem Jl{r:X aF}{x:an}(h:iJ r=some x):∃l,r= .ok l∧x=lA l:=by
 unfold iJ at h;cases r with
 |ok l=>cases h;exact⟨l,rfl,rfl⟩
 |error e=>cases h
def rk(e:an):Prop:=(e.ax.length:Int)=kG e.ar∧∀a∈e.ax,(a.ax.length:Int)=kG a.ar
theorem Mc{a:an}(h:(a.ax.length:Int)=kG a.ar)(h1:kG a.ar=1):∃x,a.ax=[x]:=by
 rw[h1]at h
 match a.ax,h with
 |[x],_=>exact⟨x,rfl⟩
 |[],h=>simp at h
 |_::_::_,h=>simp at h;omega
theorem ahZ{e x:an}(h:rV e=some x):ft e x:=by
 unfold rV at h;split at h
 ·rename_i a ha
  obtain⟨h1,h2⟩:=eh h;obtain⟨rfl,_⟩:=MR h2;simp only[ajp,beq_iff_eq]at h1;exact .val _ _ (.inr ⟨by omega,by rw[ha];simp⟩)
 ·rename_i a b ha
  obtain⟨h1,h2⟩:=eh h;obtain⟨rfl,_⟩:=MR h2;simp only[ajp,beq_iff_eq]at h1;exact .val _ _ (.inr ⟨(Yg h1.1).1,by rw[ha];simp⟩)
 ·cases h
theorem Z4{e x:an}(h:ue e=some x):ft e x:=by
 unfold ue at h;split at h
 ·rename_i a ha
  obtain⟨h1,h2⟩:=eh h;have ho:e.ar=12:=by simpa using h1
  rcases iD h2 with⟨_,h3⟩|⟨_,h3⟩
  ·obtain⟨rfl,_⟩:=MR h3;exact .val _ _ (.inr ⟨by omega,by rw[ha];simp⟩)
  ·obtain⟨_,h4⟩:=eh h3;cases h4
   exact .arg (by omega) (by rw[ha];simp)
 ·cases h
theorem aej{e x:an}(h:td e=some x):ft e x:=by
 unfold td at h;rcases iD h with⟨h1,h2⟩|⟨h1,h2⟩
 ·obtain⟨_,h3⟩:=eh h2;cases h3
  exact .val _ _ (.inl (by simpa using h1))
 ·split at h2
  ·rename_i a ha
   obtain⟨h3,h4⟩:=eh h2;simp only[ajp,beq_iff_eq]at h3;obtain⟨l,h5,rfl⟩:=Jl h4;have:=yN h5;exact .idx (by omega) (by rw[ha];simp) (by rw[ha];simp;omega) (by rw[ha];simp;omega) (by rw[ha];simp;omega)
  ·rename_i a b ha
   rcases iD h2 with⟨h3,h4⟩|⟨h3,h4⟩
   ·simp only[Bool.or_eq_true,beq_iff_eq]at h3;unfold yY at h4;split at h4
    ·rename_i f g hf hg
     obtain⟨h5,h6⟩:=eh h4;simp only[Bool.or_eq_true,beq_iff_eq]at h5;obtain⟨l,h7,rfl⟩:=Jl h6;have l1:=Ns hf;have l2:=Ns hg;have l3:l.xL.length≤f.xL.length+g.xL.length:=by
      cases h8:e.ar==5 with
      |true=>rw[h8]at h7;exact air h7
      |false=>rw[h8]at h7;exact TE h7
     have fo:∀{y:an}{q:aF},jj y=some q→y.ar=1∨y.ar=2:=fun{y q} hq=>by
      unfold jj at hq;rcases iD hq with⟨h9,_⟩|⟨_,h9⟩
      ·exact .inr (by simpa using h9)
      ·obtain⟨az,_⟩:=eh h9;simp only[ajp,beq_iff_eq]at az;exact .inl az.1
     refine .idx (by omega) (by rw[ha];simp) (by rw[ha];simp;omega) ?_ ?_
     ·rw[ha];intro y hy;simp only[ajR,aj3,or_false]at hy;rcases hy with rfl|rfl
      ·exact fo hf
      ·exact fo hg
     ·rw[ha];rcases h5 with h5|h5
      ·exact⟨a,by simp,h5⟩
      ·exact⟨b,by simp,h5⟩
    ·cases h4
   ·obtain⟨h5,h6⟩:=eh h4;have ho:e.ar=6:=by simpa using h5
    unfold o9 at h6;rcases iD h6 with⟨h7,h8⟩|⟨_,h8⟩
    ·obtain⟨l,h9,rfl⟩:=Jl h8;have:=yN h9;simp only[gp,ajp,beq_iff_eq]at h7;exact .idx (by omega) (by rw[ha];simp) (by rw[ha];simp;omega) (by rw[ha];simp;omega) (by rw[ha];simp;omega)
    ·obtain⟨h7,h8⟩:=eh h8;obtain⟨l,h9,rfl⟩:=Jl h8;have:=yN h9;simp only[gp,ajp,beq_iff_eq]at h7;exact .idx (by omega) (by rw[ha];simp) (by rw[ha];simp;omega) (by rw[ha];simp;omega) (by rw[ha];simp;omega)
  ·cases h2
theorem aau{e x:an}(h:sy e=some x):ft e x:=by
 unfold sy at h;split at h
 ·rename_i c a b ha
  obtain⟨h1,h2⟩:=eh h;simp only[ajp,beq_iff_eq]at h1;cases h2
  refine .arg (by omega) ?_;rw[ha];cases (er c).1<;>simp
 ·cases h
theorem aak{e x:an}(h:tp e=some x):ft e x:=by
 unfold tp at h;split at h
 ·rename_i c a b ha
  obtain⟨h1,h2⟩:=eh h;simp only[ajp,beq_iff_eq]at h1;cases h2
  exact .arg (by omega) (by rw[ha];simp)
 ·rename_i a b ha
  obtain⟨h1,h2⟩:=eh h;simp only[ajp,Bool.or_eq_true,beq_iff_eq]at h1;cases h2
  exact .arg (by omega) (by rw[ha];simp)
 ·cases h
theorem agr{e x:an}(h:sY e=some x):ft e x:=by
 unfold sY at h;split at h
 ·rename_i a b ha
  have A:∀y,4≤e.ar→y=a∨y=b→ft e y:=fun y h1 h2=> .arg h1 (by rw[ha];rcases h2 with rfl|rfl<;>simp);rcases iD h with⟨h1,h2⟩|⟨_,h⟩
  ·have ho:e.ar=4:=by simpa using h1
   rcases iD h2 with⟨_,h3⟩|⟨_,h3⟩
   ·cases h3;exact A _ (by omega) (.inl rfl)
   ·obtain⟨_,h4⟩:=eh h3;cases h4;exact A _ (by omega) (.inr rfl)
  ·rcases iD h with⟨h1,h2⟩|⟨_,h⟩
   ·have ho:e.ar=5:=by simpa using h1
    rcases iD h2 with⟨_,h3⟩|⟨_,h3⟩
    ·cases h3;exact A _ (by omega) (.inl rfl)
    ·obtain⟨_,h4⟩:=eh h3;cases h4;exact .neg 8 (by omega) (by decide) ha
   ·rcases iD h with⟨h1,h2⟩|⟨_,h⟩
    ·have ho:e.ar=6:=by simpa using h1
     rcases iD h2 with⟨_,h3⟩|⟨_,h3⟩
     ·cases h3;exact A _ (by omega) (.inr rfl)
     ·obtain⟨_,h4⟩:=eh h3;cases h4;exact A _ (by omega) (.inl rfl)
    ·obtain⟨h1,h2⟩:=eh h;have ho:e.ar=7:=by simpa using h1
     obtain⟨_,h4⟩:=eh h2;cases h4;exact A _ (by omega) (.inl rfl)
 ·cases h
theorem ada{e x:an}(h:s6 e=some x):ft e x:=by
 unfold s6 at h;split at h
 ·rename_i a b ha
  have A:∀y,4≤e.ar→y=a∨y=b→ft e y:=fun y h1 h2=> .arg h1 (by rw[ha];rcases h2 with rfl|rfl<;>simp);rcases iD h with⟨h1,h2⟩|⟨_,h⟩
  ·have ho:e.ar=6:=by simpa using h1
   rcases iD h2 with⟨_,h3⟩|⟨_,h3⟩
   ·cases h3;exact A _ (by omega) (.inl rfl)
   ·obtain⟨_,h4⟩:=eh h3;cases h4;exact A _ (by omega) (.inr rfl)
  ·obtain⟨h1,h2⟩:=eh h;have ho:e.ar=7:=by simpa using h1
   obtain⟨_,h4⟩:=eh h2;cases h4;exact A _ (by omega) (.inl rfl)
 ·cases h
theorem aeL{e x:an}{k:Kn}(h:tb e k=some x):ft e x:=by
 unfold tb at h;split at h
 ·rename_i a b ha
  obtain⟨h1,h2⟩:=eh h;simp only[ajp,Bool.or_eq_true,beq_iff_eq]at h1;rcases iD h2 with⟨_,h3⟩|⟨_,h3⟩
  ·cases h3;exact .val _ _ (.inr ⟨by omega,by rw[ha];simp⟩)
  ·obtain⟨_,h4⟩:=eh h3;cases h4;exact .val _ _ (.inr ⟨by omega,by rw[ha];simp⟩)
 ·cases h
theorem TB{l:akb an}{x:an}(h:l[0]?=some x):x∈l:=ajA h
theorem XZ{e x:an}{k:Kn}(hr:rk e)(h:tZ e k=some x):ft e x:=by
 unfold tZ at h;obtain⟨_,h⟩:=eh h;split at h
 ·rename_i a ha
  obtain⟨h1,h2⟩:=eh h;simp only[ajp,beq_iff_eq]at h1;exact .mC (by omega) (by rw[ha];simp) (by omega) (TB h2)
 ·rename_i a b ha
  have one:∀y,y=a∨y=b→y.ar=8→∃c,y.ax=[c]:=fun y hy ho=>Mc (hr.2 y (by rw[ha];rcases hy with rfl|rfl<;>simp)) (by rw[ho];rfl);rcases iD h with⟨h1,h⟩|⟨_,h⟩
  ·have ho:e.ar=4:=by simpa using h1
   rcases iD h with⟨h2,h⟩|⟨_,h⟩
   ·have hb:b.ar=8:=by simpa using h2
    obtain⟨c,hc⟩:=one b (.inr rfl) hb;rw[hc]at h;cases h
    exact .two 5 (by omega) (by decide) ha (by omega) hc
   ·obtain⟨h2,h⟩:=eh h;have hb:a.ar=8:=by simpa using h2
    obtain⟨c,hc⟩:=one a (.inl rfl) hb;rw[hc]at h;cases h
    exact .MV 5 (by omega) (by decide) ha (by omega) hc
  ·obtain⟨h1,h⟩:=eh h;simp only[ajp,beq_iff_eq]at h1;obtain⟨c,hc⟩:=one b (.inr rfl) h1.2;rw[hc]at h;cases h
   exact .two 4 (by omega) (by decide) ha (by omega) hc
 ·cases h
theorem aaV{e x:an}(hr:rk e)(h:sB e=some x):ft e x:=by
 unfold sB at h;split at h
 ·rename_i c a b ha
  obtain⟨h1,h⟩:=eh h;simp only[ajp,beq_iff_eq]at h1;obtain⟨y,hy⟩:=Mc (hr.2 c (by rw[ha];simp)) (by rw[h1.2];rfl);rw[hy]at h;cases h
  exact .three 11 (by omega) (by decide) ha (by omega) hy
 ·rename_i c ha
  obtain⟨h1,h⟩:=eh h;have ho:e.ar=18:=by simpa using h1
  rcases iD h with⟨h2,h⟩|⟨_,h⟩
  ·have hb:c.ar=18:=by simpa using h2
   exact .mC (by omega) (by rw[ha];simp) (by omega) (TB h)
  ·rcases iD h with⟨h2,h⟩|⟨_,h⟩
   ·have hb:c.ar=13:=by simpa using h2
    split at h
    ·rename_i p q hp
     cases h
     exact .swap 14 (by omega) (by decide) ha (by omega) hp
    ·cases h
   ·obtain⟨h2,h⟩:=eh h;have hb:c.ar=14:=by simpa using h2
    split at h
    ·rename_i p q hp
     cases h
     exact .swap 13 (by omega) (by decide) ha (by omega) hp
    ·cases h
 ·cases h
theorem Z8{e x:an}(h:tc e=some x):ft e x:=by
 unfold tc at h;split at h
 ·rename_i a b ha
  obtain⟨h1,h⟩:=eh h;simp only[Bool.or_eq_true,beq_iff_eq]at h1;rcases iD h with⟨_,h⟩|⟨_,h⟩
  ·cases h;exact .arg (by omega) (by rw[ha];simp)
  ·obtain⟨_,h⟩:=eh h;cases h;exact .arg (by omega) (by rw[ha];simp)
 ·cases h
theorem R7{e x:an}{k:Kn}{s:akc}(hr:rk e)(h:mD e k=some (x,s)):ft e x:=by
 unfold mD at h;rcases nr h with⟨h,_⟩|h
 ·exact ahZ h
 rcases nr h with⟨h,_⟩|h
 ·exact Z4 h
 rcases nr h with⟨h,_⟩|h
 ·exact aej h
 rcases nr h with⟨h,_⟩|h
 ·exact aau h
 rcases nr h with⟨h,_⟩|h
 ·exact aak h
 rcases nr h with⟨h,_⟩|h
 ·exact agr h
 rcases nr h with⟨h,_⟩|h
 ·exact ada h
 rcases nr h with⟨h,_⟩|h
 ·exact aeL h
 rcases nr h with⟨h,_⟩|h
 ·exact XZ hr h
 rcases nr h with⟨h,_⟩|h
 ·exact aaV hr h
 rcases nr h with⟨h,_⟩|h
 ·exact Z8 h
 cases h
theorem MJ{rec:an→Kn→Rw}{e x:an}{k:Kn}{s:akc}:∀(l:akb an)(i:Nat),e.ax.drop i=l→jt rec e k i l=some (x,s)→
 ∃j a y,e.ax[j]?=some a∧rec a (rh e k j)=some (y,s)∧x=tF e j y
 |[],i,_,h=>by cases h
 |a::l,i,hd,h=>by
  rw[jt]at h;cases hr:rec a (rh e k i)with
  |some r=>rw[hr]at h;cases h;exact⟨i,a,r.1,cd hd,by rw[hr],rfl⟩
  |none=>rw[hr]at h;exact MJ l (i+1) (ji hd) h
def mc(e:an):Prop:=∀y∈cQ e,(y.ax.length:Int)=kG y.ar
theorem mc.arg{e x:an}(h:mc e)(hx:x∈e.ax):mc x:=fun y hy=>h y (lu hx hy)
theorem wP(e:an):e∈cQ e:=ajt
theorem mc.rk{e:an}(h:mc e):rk e:=⟨h e (wP e),fun a ha=>h a (lu ha (wP a))⟩
theorem O9{w:an→Nat}(hw:own w){R:Nat→Nat→Prop}(hR:∀a b p q:Nat,R a b→p+b=q+a→R p q)(F6:∀{e x:an},ft e x→R (W w x) (W w e)):
 ∀(d:Nat)(e x:an)(k:Kn)(s:akc),mc e→kC d e k=some (x,s)→R (W w x) (W w e)
 |0,_,_,_,_,_,h=>by cases h
 |d+1,e,x,k,s,hr,h=>by
  rw[kC]at h;cases h1:mD e k with
  |some r=>rw[h1]at h;cases h;exact F6 (R7 hr.rk (by rw[h1]))
  |none=>
   rw[h1]at h;obtain⟨j,a,y,h2,h3,rfl⟩:=MJ e.ax 0 rfl h;have ih:=O9 hw hR F6 d a y _ s (hr.arg (ajA h2)) h3;exact hR _ _ _ _ ih (Yd hw y h2)
theorem Km:∀(d d':Nat)(e:an)(k:Kn),SizeOf.sizeOf e≤d→SizeOf.sizeOf e≤d'→kC d e k=kC d' e k
 |0,_,e,_,h,_=>by cases e;simp at h
 |_,0,e,_,_,h=>by cases e;simp at h
 |d+1,d'+1,e,k,h,h'=>by
  rw[kC,kC];have ih:∀(l:akb an)(i:Nat),(∀x∈l,x∈e.ax)→jt (kC d) e k i l=jt (kC d') e k i l:=fun l=>by
    induction l with
    |nil=>intro i _;rfl
    |cons x l ih=>
     intro i hl;have hx:=fy (hl x ajt);rw[jt,jt,Km d d' x _ (by omega) (by omega),ih _ fun y hy=>hl y (ajw _ hy)]
  rw[ih e.ax 0 fun x hx=>hx]
theorem Qz(e:an)(k:Kn):iG e k=match mD e k with
 |some r=>some r
 |none=>jt iG e k 0 e.ax:=by
 unfold iG;rw[Km _ (SizeOf.sizeOf e+1) e k (ajy _) (Nat.le_succ _),kC];have ih:∀(l:akb an)(i:Nat),(∀x∈l,x∈e.ax)→jt (kC (SizeOf.sizeOf e)) e k i l=jt (fun e k=>kC (SizeOf.sizeOf e) e k) e k i l:=fun l=>by
  induction l with
  |nil=>intro i _;rfl
  |cons x l ih=>
   intro i hl;have hx:=fy (hl x ajt);rw[jt,jt,Km (SizeOf.sizeOf e) (SizeOf.sizeOf x) x _ (by omega) (ajy _),ih _ fun y hy=>hl y (ajw _ hy)]
 rw[ih e.ax 0 fun x hx=>hx]<;>rfl
theorem Rs:∀l:akb an,jr l=0→∀x∈l,mJ x=0
 |[],_,x,hx=>by cases hx
 |y::l,h,x,hx=>by
  rw[jr]at h;cases hy:mJ y !=0 with
  |true=>
   rw[hy]at h;simp only[cond_true]at h;rw[h]at hy;cases hy
  |false=>
   rw[hy]at h;rcases ajR.1 hx with rfl|hx
   ·rw[fu]at hy;simpa using hy
   ·exact Rs l h x hx
def vE(e:an):Prop:=∀y∈cQ e,mJ y=0
theorem vE.arg{e x:an}(h:vE e)(hx:x∈e.ax):vE x:=fun y hy=>h y (lu hx hy)
structure wo(e:an):Prop where
 plain:my e=true
 named:qH e=true
 VN:mU e=true
 typed:kP e=true
 formed:vS e=true
theorem Hm{x:an}(h:mJ x=0):wo x:=by
 unfold mJ at h;cases p:my x<;>rw[p]at h
 ·cases h
 cases q:qH x<;>rw[q]at h
 ·cases h
 cases r:mU x<;>rw[r]at h
 ·cases h
 cases s:kP x<;>rw[s]at h
 ·cases h
 cases t:vS x<;>rw[t]at h
 ·cases h
 exact⟨p,q,r,s,t⟩
theorem GX{e:an}(h:jE e=0):vE e∧gn 40 e≤40∧(cQ e).length≤2000:=by
 unfold jE at h;cases h1:decide (40<gn 40 e)with
 |true=>rw[h1]at h;cases h
 |false=>
  cases h2:decide (2000<(cQ e).length)with
  |true=>rw[h1,h2]at h;cases h
  |false=>
   rw[h1,h2]at h;exact⟨fun x hx=>Rs (cQ e) h x hx,by simpa using h1,by simpa using h2⟩
theorem vE.mc{e:an}(h:vE e):mc e:=fun y hy=>by
 have:=(Hm (h y hy)).VN;unfold mU at this;rw[ajp,beq_iff_eq]at this;exact this.1
theorem Lm{t:aD}{e x:an}{s:akc}(h:ln t e=some (x,s)):cO t=true∧jE e=0∧iG e ⟨t,!eu e⟩=some (x,s):=by
 obtain⟨h1,h2⟩:=eh h;simp only[ajp,beq_iff_eq]at h1;exact⟨h1.1,h1.2,h2⟩
theorem W6{w:an→Nat}(hw:own w)(F6:∀{e x:an},ft e x→W w x≤W w e){t:aD}{e x:an}{s:akc}(h:ln t e=some (x,s)):W w x≤W w e:=by
 obtain⟨_,h1,h2⟩:=Lm h;exact O9 (R:=fun a b=>a≤b) hw (fun a b p q h e=>by omega) F6 _ e x _ s (GX h1).1.mc h2
theorem aba{P:an→Prop}(lG:∀t v,P (fU t v))(sP:∀l,P (lA l))(fa:∀op l,4≤op→l.length≤3→P (dj op l)){e x:an}(h:ft e x)(he:∀y∈cQ e,P y):∀y∈cQ x,P y:=by
 have hA:∀{a:an},a∈e.ax→∀y∈cQ a,P y:=fun ha y hy=>he y (lu ha hy);have hO:∀op l,4≤op→l.length≤3→(∀a∈l,∀y∈cQ a,P y)→∀y∈cQ (dj op l),P y:=fun op l ho hl ha y hy=>by
  rcases ajR.1 hy with rfl|hy
  ·exact fa op l ho hl
  ·obtain⟨a,h1,h2⟩:=Bg hy;exact ha a h1 y h2
 cases h with
 |arg h0 h1=>exact hA h1
 |mC h0 h1 h2 h3=>exact fun y hy=>hA h1 y (lu h3 hy)
 |val t v h0=>exact fun y hy=>by rcases ajR.1 hy with rfl|hy;exact lG t v;exact absurd hy (by rw[show(fU t v).ax=[]from rfl,iI];simp)
 |idx h0 h1 h2 h3 h4=>rename_i l;exact fun y hy=>by rcases ajR.1 hy with rfl|hy;exact sP l;exact absurd hy (by rw[show(lA l).ax=[]from rfl,iI];simp)
 |neg op h0 ho h1=>exact hO _ _ ho (by simp) fun a ha=>by simp at ha;subst ha;exact hA (by rw[h1];simp)
 |two op h0 ho h1 h2 h3=>
  rename_i a b c
  exact hO _ _ ho (by simp) fun z hz=>by
   simp at hz;rcases hz with rfl|rfl
   ·exact hA (by rw[h1];simp)
   ·exact fun y hy=>hA (a:=b) (by rw[h1];simp) y (lu (x:=z) (by rw[h3];simp) hy)
 |MV op h0 ho h1 h2 h3=>
  rename_i a b c
  exact hO _ _ ho (by simp) fun z hz=>by
   simp at hz;rcases hz with rfl|rfl
   ·exact hA (by rw[h1];simp)
   ·exact fun y hy=>hA (a:=a) (by rw[h1];simp) y (lu (x:=z) (by rw[h3];simp) hy)
 |swap op h0 ho h1 h2 h3=>
  rename_i a p q
  exact hO _ _ ho (by simp) fun z hz=>by
   simp at hz;exact fun y hy=>hA (a:=a) (by rw[h1];simp) y (lu (x:=z) (by rw[h3];rcases hz with rfl|rfl<;>simp) hy)
 |three op h0 ho h1 h2 h3=>
  rename_i c a b p
  exact hO _ _ ho (by simp) fun z hz=>by
   simp at hz;rcases hz with rfl|rfl|rfl
   ·exact fun y hy=>hA (a:=c) (by rw[h1];simp) y (lu (x:=z) (by rw[h3];simp) hy)
   ·exact hA (by rw[h1];simp)
   ·exact hA (by rw[h1];simp)
theorem Qn{P:an→Prop}(lG:∀t v,P (fU t v))(sP:∀l,P (lA l))(fa:∀op l,4≤op→l.length≤3→P (dj op l))(F5:∀e i x,P e→P (tF e i x)):
 ∀(d:Nat)(e x:an)(k:Kn)(s:akc),mc e→kC d e k=some (x,s)→(∀y∈cQ e,P y)→∀y∈cQ x,P y
 |0,_,_,_,_,_,h,_=>by cases h
 |d+1,e,x,k,s,hr,h,he=>by
  rw[kC]at h;cases h1:mD e k with
  |some r=>rw[h1]at h;cases h;exact aba lG sP fa (R7 hr.rk (by rw[h1])) he
  |none=>
   rw[h1]at h;obtain⟨j,a,z,h2,h3,rfl⟩:=MJ e.ax 0 rfl h;have ha:=ajA h2;have ih:=Qn lG sP fa F5 d a z _ s (hr.arg ha) h3 fun y hy=>he y (lu ha hy);intro y hy;rcases ajR.1 hy with rfl|hy
   ·exact F5 e j z (he e (wP e))
   ·obtain⟨b,h4,h5⟩:=Bg hy;have h4':b∈e.ax.set j z:=h4;rcases List.mem_or_eq_of_mem_set h4' with h4|rfl
    ·exact he y (lu h4 h5)
    ·exact ih y h5
theorem ZR{P:an→Prop}(lG:∀t v,P (fU t v))(sP:∀l,P (lA l))(fa:∀op l,4≤op→l.length≤3→P (dj op l))(F5:∀e i x,P e→P (tF e i x))
 {t:aD} {e x:an} {s:akc} (h:ln t e=some (x,s)) (he:∀y∈cQ e,P y):∀y∈cQ x,P y:=by
 obtain⟨_,h1,h2⟩:=Lm h;exact Qn lG sP fa F5 _ e x _ s (GX h1).1.mc h2 he
theorem rU{a b:Int64}(h1: -9223372036854775808≤a.toInt+b.toInt)(h2:a.toInt+b.toInt≤9223372036854775807):(a+b).toInt=a.toInt+b.toInt:=by rw[EJ,IntKind.wrap_i64];omega
theorem nI{a b:Int64}(h1: -9223372036854775808≤a.toInt-b.toInt)(h2:a.toInt-b.toInt≤9223372036854775807):(a-b).toInt=a.toInt-b.toInt:=by rw[G4,IntKind.wrap_i64];omega
theorem oI{a b:Int64}(h1: -9223372036854775808≤a.toInt*b.toInt)(h2:a.toInt*b.toInt≤9223372036854775807):(a*b).toInt=a.toInt*b.toInt:=by rw[IG,IntKind.wrap_i64];omega
theorem nW{a:Int64}(h1: -9223372036854775807≤a.toInt):(-a).toInt= -a.toInt:=by
 have:=Int64.toInt_lt a;rw[Int64.toInt_neg,Int.bmod_def];omega
theorem uS{a b A B:Int}(ha: -A≤a)(SB:a≤A)(hb: -B≤b)(eP:b≤B): -(A*B)≤a*b∧a*b≤A*B:=by
 have h1:a.natAbs≤A.natAbs:=by omega
 have h2:b.natAbs≤B.natAbs:=by omega
 have h3:(a*b).natAbs≤(A*B).natAbs:=by rw[Int.natAbs_mul,Int.natAbs_mul];exact Nat.mul_le_mul h1 h2
 have h4:0≤A*B:=Int.mul_nonneg (by omega) (by omega);omega
theorem ahA:∀n:Fin 31,IntKind.u64.wrap (n.val:Int)=(n.val:Int)∧(Int64.ofInt ((1:Int)*2^(min n.val (IntKind.bits .i64)))).toInt=2^n.val∧min n.val (IntKind.bits .i64)=n.val:=by decide+kernel
theorem xx{f:Int}(h1:0≤f)(h2:f≤30):IntKind.u64.wrap f=f∧(Int64.ofInt ((1:Int)*2^(min f.toNat (IntKind.bits .i64)))).toInt=2^f.toNat∧min f.toNat (IntKind.bits .i64)=f.toNat:=by
 obtain⟨n,rfl⟩:∃n:Nat,f=n:=⟨f.toNat,by omega⟩;have:=ahA ⟨n,by omega⟩
 simpa using this
theorem ai1:∀n:Fin 30,(decide ((0:Int)≤(IntKind.u64.wrap (aS ((64:Int)-((n.val+2:Nat):Int))))))=true∧min ((IntKind.u64.wrap (aS ((64:Int)-((n.val+2:Nat):Int))))).toNat (IntKind.bits .u64)=62-n.val∧
 min ((IntKind.u64.wrap (aS ((64:Int)-((n.val+2:Nat):Int))))).toNat (IntKind.bits .i64)=62-n.val∧(2:Int)^(62-n.val)*(2*2^(n.val+1))=18446744073709551616∧(0:Int)<2^(62-n.val):=by decide+kernel
theorem agj{b:Int}(h1:2≤b)(h2:b≤31):∃k:Nat,(decide ((0:Int)≤(IntKind.u64.wrap (aS ((64:Int)-b)))))=true∧min ((IntKind.u64.wrap (aS ((64:Int)-b)))).toNat (IntKind.bits .u64)=k∧
 min ((IntKind.u64.wrap (aS ((64:Int)-b)))).toNat (IntKind.bits .i64)=k∧(2:Int)^k*(2*2^(b-1).toNat)=18446744073709551616∧(0:Int)<2^k:=by
 obtain⟨n,rfl⟩:∃n:Nat,b=n:=⟨b.toNat,by omega⟩;have:=ai1 ⟨n-2,by omega⟩;simp only[show n-2+2=n by omega,show n-2+1=n-1 by omega]at this;rw[show((n:Int)-1).toNat=n-1 by omega];exact⟨_,this⟩
theorem ID(n:Int64):Int64.ofInt n.toInt=n:=xl (by rw[oC,IntKind.wrap_i64];have:=iF n;omega)
theorem n9{q:Int64}{z:Int}(h:q.toInt=z):q=Int64.ofInt z:=by rw[←h,ID]
theorem ya(N:Nat){t:aD}(F:qx t)(n:Int64):lJ N t n=some (jx t n.toInt):=by
 obtain⟨f1,f2,f3,f4,f5,f6⟩:=FX F.b1 F.b2;obtain⟨k,u1,u2,u3,u4,u5⟩:=agj F.b1 F.b2;have hH:=FN F;unfold lJ HH zX xm ug;rw[dp,ajm,ajm,kI,aj4 F.b1,aj4 F.b2];simp only[Bool.and_self,cond_true];rw[f1,u1];simp only[cond_true,ajm];rw[f3,f4,u2,u3]
 change _=some (⟨Int64.ofInt (mO (t.bI==2) (b7 t) n.toInt),1⟩:ay)
 have mh:(-(Int64.ofInt ((1:Int)*2^(min ((IntKind.u64.wrap (aS (t.bz-(1:Int))))).toNat (IntKind.bits .i64)))))=Int64.ofInt (-b7 t):=n9 f3;have yD:((Int64.ofInt ((1:Int)*2^(min ((IntKind.u64.wrap (aS (t.bz-(1:Int))))).toNat (IntKind.bits .i64))))-(1:Int64))=Int64.ofInt (b7 t-1):=n9 f4;rw[mh,yD];rw[kI,dp];have hr:(decide (-(2^(t.bz-1).toNat)≤n.toInt)&&decide (n.toInt≤2^(t.bz-1).toNat-1))=(decide (-b7 t≤n.toInt)&&decide (n.toInt≤b7 t-1)):=rfl;have hm:(t.bI !=1&&t.bI !=2)=false:=by rcases F.o with h|h<;>rw[h]<;>rfl
 rw[hm];simp only[ajm,cond_false];rw[dp,hr];by_cases h1: -b7 t≤n.toInt
 ·by_cases h2:n.toInt≤b7 t-1
  ·rw[aj4 h1,aj4 h2,aae (by omega) h1 h2,ID];rfl
  ·rw[aj4 h1,aj5 h2];simp only[Bool.and_false,cond_false];rcases F.o with ho|ho
   ·rw[ho,aj5 (show ¬n.toInt< -2^(t.bz-1).toNat from fun h=>by have:n.toInt< -b7 t:=h;omega)];simp only[aj6,cond_true,ajm,cond_false];rw[show((1:Int)==2)=false from rfl];unfold mO;simp only[cond_false];rw[show max (-b7 t) (min (b7 t-1) n.toInt)=b7 t-1 by omega]
   ·rw[ho];show some (⟨Int64.ofInt (((Int64.ofInt _).toInt).fdiv (2^k)),1⟩:ay)=_;rw[oC,IntKind.wrap_i64,jF,jF,Int.fdiv_eq_ediv_of_nonneg _ (by omega),Int.mul_emod,Int.emod_emod,←Int.mul_emod,Sg u4 u5 (by unfold b7 at hH;omega)];rfl
 ·rw[aj5 h1];simp only[Bool.false_and,cond_false];rcases F.o with ho|ho
  ·have aX:n.toInt< -b7 t:=by omega
   rw[ho,aj4 (show n.toInt< -2^(t.bz-1).toNat from aX)];simp only[aj6,cond_true,ajm];rw[show((1:Int)==2)=false from rfl];unfold mO;simp only[cond_false];rw[show max (-b7 t) (min (b7 t-1) n.toInt)= -b7 t by omega];rfl
  ·rw[ho];show some (⟨Int64.ofInt (((Int64.ofInt _).toInt).fdiv (2^k)),1⟩:ay)=_;rw[oC,IntKind.wrap_i64,jF,jF,Int.fdiv_eq_ediv_of_nonneg _ (by omega),Int.mul_emod,Int.emod_emod,←Int.mul_emod,Sg u4 u5 (by unfold b7 at hH;omega)];rfl
theorem TL(N:Nat)(hN:2147483648<N){t:aD}(v:ay)(ht:cO t=true)(hk:t.a8=2):n3 N t v=some (cW t v):=by
 have h:=ta N hN t v ht;unfold mq at h;rw[od,ht,ajm,hk]at h;have h':Option.bind (n3 N t v) (fun x=>some x)=some (cW t v):=h;cases hx:n3 N t v with
 |none=>rw[hx]at h';cases h'
 |some b=>rw[hx]at h';exact h'
def sX:aD:=⟨1,0,0,0,0⟩
theorem KX:cO sX=true:=rfl
theorem mw(N:Nat)(hN:2147483648<N)(v:ay):ie N v=some (cW sX v):=by
 have h:=ta N hN sX v KX;unfold mq at h;rw[od,KX,ajm]at h;have h':Option.bind (ie N v) (fun x=>some x)=some (cW sX v):=h;cases hx:ie N v with
 |none=>rw[hx]at h';cases h'
 |some b=>rw[hx]at h';exact h'
theorem eQ.ok{v:ay}(h:eQ v):cW sX v=true:=by
 unfold cW;show(decide (v.xN.toInt≤2147483647)&&(decide (-2147483647≤v.xN.toInt)&&(decide (1≤v.xD.toInt)&&(decide (v.xD.toInt≤2147483647)&&(Nat.gcd v.xN.toInt.natAbs v.xD.toInt.toNat==1)))))=true;rw[aj4 h.n2,aj4 h.n1,aj4 h.d1,aj4 h.d2,h.g];rfl
theorem SV(N:Nat)(hN:2147483648<N){t:aD}(ht:cO t=true)(hk:t.a8=2):∀(l:akb ay)(k:Nat),(∀v∈l,cW t v=true)→w8 N t l k=some 0
 |[],_,_=>rfl
 |v::l,k,h=>by
  rw[w8,TL N hN v ht hk,h v ajt];exact SV N hN ht hk l (k+1) fun x hx=>h x (ajw _ hx)
theorem TZ(N:Nat){t:aD}(ht:cO t=true)(hk:t.a8=2):q8 N t=some 0:=by
 have F:=hX ht hk;have ho:(t.bI==1||t.bI==2)=true:=by rcases F.o with h|h<;>rw[h]<;>rfl
 rw[J9 N t (by rw[hk];rfl),aj4 F.b1,aj4 F.b2,aj4 F.f1,aj4 F.f2,aj4 F.r1,aj4 F.r2,ho];rfl
theorem Qb(N:Nat)(hN:2147483648<N){t:aD}(ht:cO t=true)(hk:t.a8=2){l:akb ay}(h:∀v∈l,cW t v=true):m0 N t l=some 0:=by
 unfold m0;rw[TZ N ht hk,ajm];exact SV N hN ht hk l 0 h
theorem aew{a b:Nat}(hb:0<b)(ha:a≤9223372036854775808)(jM:b≤9223372036854775808)(neg:Bool)(how:Int):qW (a:Int) (b:Int) neg how=((kS a b neg how:Nat):Int):=by
 have hq:a / b≤a:=Nat.div_le_self _ _;have hr:a%b<b:=Nat.mod_lt _ hb;have e1:IntKind.u64.wrap ((a:Int).tdiv (b:Int))=((a / b:Nat):Int):=by rw[←Int.ofNat_tdiv,jF];generalize a / b=q at*;omega
 have e2:(a:Int).tmod (b:Int)=((a%b:Nat):Int):=(Int.ofNat_tmod a b).symm;have e3:IntKind.u64.wrap (2*((a%b:Nat):Int))=((2*(a%b):Nat):Int):=by rw[jF];generalize a%b=q at*;omega
 have e4:IntKind.u64.wrap (((a / b:Nat):Int)+1)=((a / b+1:Nat):Int):=by rw[jF];generalize a / b=q at*;omega
 have e5:((a / b:Nat):Int).tmod 2=((a / b%2:Nat):Int):=(Int.ofNat_tmod (a / b) 2).symm;unfold qW fF kS Av;simp only[e1,e2,e3,e4,e5];have c1:(((a%b:Nat):Int)==0)=(a%b==0):=lY _ 0;have c2:decide (((2*(a%b):Nat):Int)<(b:Int))=decide (2*(a%b)<b):=kW (by omega);have c3:(((2*(a%b):Nat):Int)==(b:Int))=(2*(a%b)==b):=lY _ _;have c4:(((a / b%2:Nat):Int)==0)=(a / b%2==0):=lY _ 0;rw[c1,c2,c3,c4];generalize ((a%b==0||how==3)||((how==1&& !neg)||(how==2&&neg))||(how==4&&(decide (2*(a%b)<b)||(2*(a%b)==b&&a / b%2==0))))=z;cases z<;>rfl
theorem Sz(N:Nat)(v:Int64):Ag N v=some ((v.toInt.natAbs:Nat):Int):=by
 unfold Ag;have:=iF v;by_cases h:v.toInt<0
 ·rw[aj4 h];simp only[cond_true,jF]
  congr 1
  omega
 ·rw[aj5 h];simp only[cond_false,jF]
  congr 1
  omega
theorem agl{a b:Nat}(neg:Bool)(how:Int):kS a b neg how≤a+1:=by
 have hq:a / b≤a:=Nat.div_le_self _ _;unfold kS;cases Av a b neg how
 ·simp only[cond_false];omega
 ·simp only[cond_true];omega
theorem Lx(N:Nat)(n d:Int64){how:Int}(h1:1≤how)(h4:how≤4)(b1: -4611686018427387904≤n.toInt)(b2:n.toInt≤4611686018427387904):
 vh N n d how=some (bif d.toInt==0 then(0,4)else(Int64.ofInt (nF n.toInt d.toInt how),0)):=by
 unfold vh AR;rw[kI,dp,aj4 h1,aj4 h4];simp only[Bool.and_self,ajm,cond_true];by_cases hd:d.toInt=0
 ·rw[hd];rfl
 ·have Ii:=iF d;rw[beq_false_of_ne hd];simp only[cond_false];rw[Sz,Sz];unfold Nb;simp only[ajm];rw[show(((d.toInt.natAbs:Nat):Int) !=0)=true by rw[bne_iff_ne];omega];simp only[cond_true,ajm];rw[aew (by omega) (by omega) (by omega)];have key:=Xg (n:=n.toInt) (d:=d.toInt) hd h1 h4;have hb:=agl (a:=n.toInt.natAbs) (b:=d.toInt.natAbs);cases hs:(decide (n.toInt<0)==decide (d.toInt<0))with
  |true=>
   have cp:(decide (n.toInt<0) !=decide (d.toInt<0))=false:=by unfold bne;rw[hs];rfl
   rw[cp]at key;simp only[cond_false]at key;have:=hb false how;simp only[Bool.not_true,cond_true];rw[kI,aj5 (show ¬(9223372036854775808:Int)≤((kS n.toInt.natAbs d.toInt.natAbs false how:Nat):Int) by omega)];simp only[cond_false];rw[key]
  |false=>
   have cp:(decide (n.toInt<0) !=decide (d.toInt<0))=true:=by unfold bne;rw[hs];rfl
   rw[cp]at key;simp only[cond_true]at key;have:=hb true how;simp only[Bool.not_false,cond_false];rw[←key]
   congr 2
   refine xl ?_;rw[oC,oC,jF,IntKind.wrap_i64,IntKind.wrap_i64];omega
theorem m7{t:aD}(F:qx t){v:ay}(V:Jr t v): -1073741824≤v.xN.toInt∧v.xN.toInt≤1073741824:=by
 have:=FN F;have:=V.n1;have:=V.n2;omega
structure Fx(N:Nat)(t:aD)(a b:ay):Prop where
 hN:2147483648<N
 ht:cO t=true
 hk:t.a8=2
 ha:cW t a=true
 hb:cW t b=true
theorem Fx.ee{N:Nat}{t:aD}{a b:ay}(h:Fx N t a b):m0 N t [a,b]=some 0:=Qb N h.hN h.ht h.hk fun v hv=>by
 simp only[ajR,aj3,or_false]at hv;rcases hv with rfl|rfl
 ·exact h.ha
 ·exact h.hb
theorem YM{N:Nat}{t:aD}{a:ay}(h:Fx N t a a):ym N t a=some (jx t (-a.xN.toInt),0):=by
 have B:=m7 (hX h.ht h.hk) (jN h.ha h.hk);unfold ym Hr I4;rw[h.ee];show Option.bind (Option.bind (lJ N t (-a.xN)) (fun v6=>some (v6,0))) _=_;rw[ya N (hX h.ht h.hk),nW (by omega)];rfl
theorem ae8{N:Nat}{t:aD}{a b:ay}(h:Fx N t a b):zd N t a b=some (jx t (a.xN.toInt+b.xN.toInt),0):=by
 have B:=m7 (hX h.ht h.hk) (jN h.ha h.hk);have C:=m7 (hX h.ht h.hk) (jN h.hb h.hk);unfold zd It Gp;rw[h.ee];show Option.bind (Option.bind (lJ N t (a.xN+b.xN)) (fun v6=>some (v6,0))) _=_;rw[ya N (hX h.ht h.hk),rU (by omega) (by omega)];rfl
theorem Zy{N:Nat}{t:aD}{a b:ay}(h:Fx N t a b):xQ N t a b=some (jx t (a.xN.toInt-b.xN.toInt),0):=by
 have B:=m7 (hX h.ht h.hk) (jN h.ha h.hk);have C:=m7 (hX h.ht h.hk) (jN h.hb h.hk);unfold xQ F4 Ja;rw[h.ee];show Option.bind (Option.bind (lJ N t (a.xN-b.xN)) (fun v6=>some (v6,0))) _=_;rw[ya N (hX h.ht h.hk),nI (by omega) (by omega)];rfl
theorem vi{n d how:Int}(hd:0<d)(h1: -4611686018427387904≤n)(h2:n≤4611686018427387904):(Int64.ofInt (gy n d how)).toInt=gy n d how:=by
 have:=JA (how:=how) hd (B:=4611686018427387904) (by decide) h1 h2;exact gC (by omega) (by omega)
theorem aa8{n d how:Int}(hd:d≠0)(h1: -4611686018427387904≤n)(h2:n≤4611686018427387904):(Int64.ofInt (nF n d how)).toInt=nF n d how:=by
 unfold nF;by_cases h:d<0
 ·rw[aj4 h];exact vi (by omega) (by omega) (by omega)
 ·rw[aj5 h];exact vi (by omega) h1 h2
theorem QP{n d how:Int}(hd:0<d):nF n d how=gy n d how:=by unfold nF;rw[aj5 (show ¬d<0 by omega)];rfl
theorem Xu{N:Nat}{t:aD}{a b:ay}(h:Fx N t a b):Ab N t a b=some (jx t (gy (a.xN.toInt*b.xN.toInt) (dU t) t.bK),0):=by
 have F:=hX h.ht h.hk;have B:=m7 F (jN h.ha h.hk);have C:=m7 F (jN h.hb h.hk);have M:=uS B.1 B.2 C.1 C.2;have S:=ED F;obtain⟨s1,s2,s3⟩:=xx F.f1 F.f2;unfold Ab GA GR;have e:=oI (a:=a.xN) (b:=b.xN) (by omega) (by omega);have wD:(Int64.ofInt ((1:Int)*2^(min (t.bE).toNat (IntKind.bits .i64)))).toInt=dU t:=s2;rw[h.ee,aj4 F.f1,Lx N _ _ F.r1 F.r2 (by rw[e];omega) (by rw[e];omega),wD,e,beq_false_of_ne (show dU t≠0 by omega)];simp only[ajm,cond_true,cond_false,bne_self_eq_false];rw[ya N F,QP (by omega),vi (by omega) (by omega) (by omega)];rfl
theorem Vz{n:Int64}{f:Int}(h1:0≤f)(h2:f≤30)(b1: -4294967296≤n.toInt)(b2:n.toInt≤4294967296):
 (Int64.ofInt (n.toInt*2^(min f.toNat (IntKind.bits .i64)))).toInt=n.toInt*2^f.toNat∧-4611686018427387904≤n.toInt*2^f.toNat∧n.toInt*2^f.toNat≤4611686018427387904:=by
 obtain⟨s1,s2,s3⟩:=xx h1 h2;have S:=V8 (fun x=>1≤x∧x≤1073741824) (by decide) h1 h2;have M:=uS b1 b2 (show-1073741824≤(2:Int)^f.toNat by omega) S.2;rw[s3];exact⟨gC (by omega) (by omega),by omega,by omega⟩
theorem agS{N:Nat}{t:aD}{a b:ay}(h:Fx N t a b):xv N t a b=some (bif b.xN.toInt==0 then(bg,4)else(jx t (nF (a.xN.toInt*dU t) b.xN.toInt t.bK),0)):=by
 have F:=hX h.ht h.hk;have B:=m7 F (jN h.ha h.hk);obtain⟨e,e1,e2⟩:=Vz (n:=a.xN) F.f1 F.f2 (by omega) (by omega);unfold xv Jb Gw;rw[h.ee,aj4 F.f1,Lx N _ _ F.r1 F.r2 (by rw[e];omega) (by rw[e];omega),e];by_cases hb:b.xN.toInt=0
 ·rw[hb];rfl
 ·rw[beq_false_of_ne hb];simp only[ajm,cond_true,cond_false,bne_self_eq_false];rw[ya N F,aa8 hb e1 e2];rfl
theorem zJ(N:Nat)(hN:9223372036854775808<N)(n d:Int64):pj N n d=some (gW n.toInt d.toInt):=by
 unfold pj gW;have hn:=iF n;have Xv:=iF d;by_cases hd:d.toInt=0
 ·rw[hd];rfl
 ·rw[beq_false_of_ne hd];simp only[cond_false];rw[Es,Es];unfold vF;simp only[ajm];rw[Hw N N _ _ (by omega)];simp only[ajm];have hg:0<Nat.gcd n.toInt.natAbs d.toInt.natAbs:=Nat.gcd_pos_of_pos_right _ (by omega);rw[show(((Nat.gcd n.toInt.natAbs d.toInt.natAbs:Nat):Int) !=0)=true by rw[bne_iff_ne];omega]
  change _=some (bif decide (2147483647<n.toInt.natAbs / Nat.gcd n.toInt.natAbs d.toInt.natAbs)||decide (2147483647<d.toInt.natAbs / Nat.gcd n.toInt.natAbs d.toInt.natAbs)then(bg,3)else(⟨Int64.ofInt (bif decide (n.toInt<0) !=decide (d.toInt<0)then-((n.toInt.natAbs / Nat.gcd n.toInt.natAbs d.toInt.natAbs:Nat):Int)else((n.toInt.natAbs / Nat.gcd n.toInt.natAbs d.toInt.natAbs:Nat):Int)),Int64.ofInt ((d.toInt.natAbs / Nat.gcd n.toInt.natAbs d.toInt.natAbs:Nat):Int)⟩,0))
  generalize hgg:Nat.gcd n.toInt.natAbs d.toInt.natAbs=g at*;have a1:n.toInt.natAbs / g≤n.toInt.natAbs:=Nat.div_le_self _ _;have a2:d.toInt.natAbs / g≤d.toInt.natAbs:=Nat.div_le_self _ _;have e1:IntKind.u64.wrap ((n.toInt.natAbs:Int).tdiv (g:Int))=((n.toInt.natAbs / g:Nat):Int):=by rw[←Int.ofNat_tdiv,jF];generalize n.toInt.natAbs / g=q at*;omega
  have e2:IntKind.u64.wrap ((d.toInt.natAbs:Int).tdiv (g:Int))=((d.toInt.natAbs / g:Nat):Int):=by rw[←Int.ofNat_tdiv,jF];generalize d.toInt.natAbs / g=q at*;omega
  simp only[cond_true];rw[e1,e2,ik,ajm,kW (p:=((n.toInt.natAbs / g:Nat):Int)>2147483647) (q:=2147483647<n.toInt.natAbs / g) (by omega),kW (p:=((d.toInt.natAbs / g:Nat):Int)>2147483647) (q:=2147483647<d.toInt.natAbs / g) (by omega)];cases hc:(decide (2147483647<n.toInt.natAbs / g)||decide (2147483647<d.toInt.natAbs / g))with
  |true=>rfl
  |false=>
   rw[aka,decide_eq_false_iff_not,decide_eq_false_iff_not]at hc;unfold bne;cases (decide (n.toInt<0)==decide (d.toInt<0))with
   |true=>rfl
   |false=>
    simp only[cond_false,Bool.not_false,cond_true];clear e1 e2;generalize n.toInt.natAbs / g=p at*;generalize d.toInt.natAbs / g=q at*
    congr 3
    refine xl ?_;rw[nW (by rw[gC]<;>omega),gC (by omega) (by omega),gC (by omega) (by omega)]
theorem A2{a b:Int}(ha: -2147483647≤a)(SB:a≤2147483647)(hb: -2147483647≤b)(eP:b≤2147483647): -4611686014132420609≤a*b∧a*b≤4611686014132420609:=by
 have:=uS ha SB hb eP;omega
theorem eQ.d0{v:ay}(h:eQ v): -2147483647≤v.xD.toInt:=by have:=h.d1;omega
theorem gq{a b:Int64}(h1: -2147483647≤a.toInt)(h2:a.toInt≤2147483647)(h3: -2147483647≤b.toInt)(h4:b.toInt≤2147483647):(a*b).toInt=a.toInt*b.toInt:=by
 have:=A2 h1 h2 h3 h4;exact oI (by omega) (by omega)
theorem Vr{a b:ay}(A:eQ a)(B:eQ b):(a.xN*b.xD+b.xN*a.xD).toInt=a.xN.toInt*b.xD.toInt+b.xN.toInt*a.xD.toInt:=by
 have p:=A2 A.n1 A.n2 B.d0 B.d2;have q:=A2 B.n1 B.n2 A.d0 A.d2;rw[rU]<;>rw[gq A.n1 A.n2 B.d0 B.d2,gq B.n1 B.n2 A.d0 A.d2]<;>omega
theorem Pk{a b:ay}(A:eQ a)(B:eQ b):(a.xN*b.xD-b.xN*a.xD).toInt=a.xN.toInt*b.xD.toInt-b.xN.toInt*a.xD.toInt:=by
 have p:=A2 A.n1 A.n2 B.d0 B.d2;have q:=A2 B.n1 B.n2 A.d0 A.d2;rw[nI]<;>rw[gq A.n1 A.n2 B.d0 B.d2,gq B.n1 B.n2 A.d0 A.d2]<;>omega
theorem ahf{N:Nat}(hN:9223372036854775808<N){a b:ay}(A:eQ a)(B:eQ b):zL N a b=some (gW (a.xN.toInt*b.xD.toInt+b.xN.toInt*a.xD.toInt) (a.xD.toInt*b.xD.toInt)):=by
 unfold zL;rw[mw N (by omega),mw N (by omega),A.ok,B.ok,zJ N hN,Vr A B,gq A.d0 A.d2 B.d0 B.d2];rfl
theorem XC{N:Nat}(hN:9223372036854775808<N){a b:ay}(A:eQ a)(B:eQ b):yq N a b=some (gW (a.xN.toInt*b.xD.toInt-b.xN.toInt*a.xD.toInt) (a.xD.toInt*b.xD.toInt)):=by
 unfold yq;rw[mw N (by omega),mw N (by omega),A.ok,B.ok,zJ N hN,Pk A B,gq A.d0 A.d2 B.d0 B.d2];rfl
theorem XI{N:Nat}(hN:9223372036854775808<N){a b:ay}(A:eQ a)(B:eQ b):zF N a b=some (gW (a.xN.toInt*b.xN.toInt) (a.xD.toInt*b.xD.toInt)):=by
 unfold zF;rw[mw N (by omega),mw N (by omega),A.ok,B.ok,zJ N hN,gq A.n1 A.n2 B.n1 B.n2,gq A.d0 A.d2 B.d0 B.d2];rfl
theorem acn{N:Nat}(hN:9223372036854775808<N){a b:ay}(A:eQ a)(B:eQ b):yH N a b=some (gW (a.xN.toInt*b.xD.toInt) (a.xD.toInt*b.xN.toInt)):=by
 unfold yH;rw[mw N (by omega),mw N (by omega),A.ok,B.ok,zJ N hN,gq A.n1 A.n2 B.d0 B.d2,gq A.d0 A.d2 B.n1 B.n2];rfl
theorem Yo(N:Nat)(n:Int64):l8 N n=some (decide (-2147483647≤n.toInt)&&decide (n.toInt≤2147483647)):=by
 unfold l8;rw[kI,dp];rfl
theorem KW{a b:Int}: -(a.natAbs:Int)≤a.tdiv b∧a.tdiv b≤(a.natAbs:Int):=by
 have h:(a.tdiv b).natAbs≤a.natAbs:=by rw[Int.natAbs_tdiv];exact Nat.div_le_self _ _
 omega
theorem Ny{a b:Int}(hb:b≠0): -(a.natAbs:Int)≤a.tmod b∧a.tmod b≤(a.natAbs:Int):=by
 have h:(a.tmod b).natAbs≤a.natAbs:=by rw[Int.natAbs_tmod];exact Nat.mod_le _ _
 omega
theorem acM(N:Nat)(op:Int)(a b:Int64)(h1: -2147483647≤a.toInt)(h2:a.toInt≤2147483647)(h3: -2147483647≤b.toInt)(h4:b.toInt≤2147483647)(ho:op=4∨op=5∨op=6∨op=7):
 yI N op a b=some (sN op a.toInt b.toInt):=by
 have eA:=rU (a:=a) (b:=b) (by omega) (by omega);have eS:=nI (a:=a) (b:=b) (by omega) (by omega);have eM:=gq h1 h2 h3 h4;have fin:∀(z:Int64)(n:Int),z.toInt=n→(Option.bind (l8 N z) fun v=>bif v then some ((⟨z,(1:Int64)⟩:ay),(0:Int))else some (bg,(3:Int)))=some (bif decide (-2147483647≤n)&&decide (n≤2147483647)then(⟨Int64.ofInt n,1⟩,0)else(bg,3)):=fun z n hz=>by
  subst hz;rw[Yo,ajm,ID];cases (decide (-2147483647≤z.toInt)&&decide (z.toInt≤2147483647))<;>rfl
 unfold yI sN;rcases ho with rfl|rfl|rfl|rfl
 ·exact fin _ _ eA
 ·exact fin _ _ eS
 ·exact fin _ _ eM
 ·show(bif b.toInt==0 then some (bg,(4:Int))else _)=some (bif true&&b.toInt==0 then(bg,4)else bif decide (-2147483647≤kM a.toInt b.toInt)&&decide (kM a.toInt b.toInt≤2147483647)then(⟨Int64.ofInt (kM a.toInt b.toInt),1⟩,0)else(bg,3));by_cases hb:b.toInt=0
  ·rw[hb];rfl
  ·have t1:=KW (a:=a.toInt) (b:=b.toInt);have t2:=Ny (a:=a.toInt) hb;have q1:(Int64.ofInt (a.toInt.tmod b.toInt)).toInt=a.toInt.tmod b.toInt:=gC (by omega) (by omega);have q2:(Int64.ofInt (a.toInt.tdiv b.toInt)).toInt=a.toInt.tdiv b.toInt:=gC (by omega) (by omega);have q3:((Int64.ofInt (a.toInt.tdiv b.toInt))-(1:Int64)).toInt=a.toInt.tdiv b.toInt-1:=by
    rw[nI]<;>rw[q2,show(1:Int64).toInt=1 from rfl]<;>omega
   have key:=abw (a:=a.toInt) hb;rw[beq_false_of_ne hb,bne_iff_ne.2 hb,q1];simp only[cond_false,cond_true,Bool.and_false];rw[dp,ajm];have hx:(!(decide (a.toInt<0)==decide (b.toInt<0)))=(decide (a.toInt<0) !=decide (b.toInt<0)):=rfl;rw[hx];cases hz:(a.toInt.tmod b.toInt !=0&&(decide (a.toInt<0) !=decide (b.toInt<0)))with
   |true=>rw[hz]at key;exact fin _ _ (q3.trans key)
   |false=>rw[hz]at key;exact fin _ _ (q2.trans key)
theorem abb(N:Nat)(a b:Int64):vW N a b=some (l0 a.toInt b.toInt):=by
 unfold vW l0;cases decide (a.toInt<b.toInt)
 ·cases decide (a.toInt>b.toInt)<;>rfl
 ·rfl
theorem TM(N:Nat)(hN:2147483648<N)(t:aD)(a b:ay)(ht:cO t=true):yV N t a b=some (j5 t a b):=by
 unfold yV j5;rw[ta N hN t a ht,ta N hN t b ht,ht];cases ha:cW t a with
 |false=>rfl
 |true=>
  cases hb:cW t b with
  |false=>rfl
  |true=>
   simp only[ajm,cond_true,Bool.not_true,cond_false,Bool.and_self];cases hk:t.a8==1 with
   |true=>
    have gO:t.a8=1:=by simpa using hk
    have A:=mH ha (by omega);have B:=mH hb (by omega);simp only[cond_true];unfold Gc;rw[mw N hN,mw N hN,A.ok,B.ok,abb,gq A.n1 A.n2 B.d0 B.d2,gq B.n1 B.n2 A.d0 A.d2];rfl
   |false=>
    simp only[cond_false];unfold l0;cases decide (a.xN.toInt<b.xN.toInt)
    ·cases decide (a.xN.toInt>b.xN.toInt)<;>rfl
    ·rfl
theorem ahh(N:Nat)(hN:9223372036854775808<N){op:Int}{t:aD}{a b:ay}(ht:cO t=true)(ha:cW t a=true)(hb:cW t b=true)(ho:op=4∨op=5∨op=6∨op=7):
 Cu N op t a b=some (bif t.a8==2 then Bf op t a.xN.toInt b.xN.toInt else bif t.a8==3 then sN op a.xN.toInt b.xN.toInt else vI op a b):=by
 unfold Cu;rcases kinds ht with hk|hk|hk
 ·have A:=mH ha (by omega);have B:=mH hb (by omega);rw[hk];rcases ho with rfl|rfl|rfl|rfl
  ·show Option.bind (zL N a b) _=_;rw[ahf hN A B];rfl
  ·show Option.bind (yq N a b) _=_;rw[XC hN A B];rfl
  ·show Option.bind (zF N a b) _=_;rw[XI hN A B];rfl
  ·show Option.bind (yH N a b) _=_;rw[acn hN A B];rfl
 ·have X:Fx N t a b:=⟨by omega,ht,hk,ha,hb⟩;rw[hk];rcases ho with rfl|rfl|rfl|rfl
  ·show Option.bind (zd N t a b) _=_;rw[ae8 X];rfl
  ·show Option.bind (xQ N t a b) _=_;rw[Zy X];rfl
  ·show Option.bind (Ab N t a b) _=_;rw[Xu X];rfl
  ·show Option.bind (xv N t a b) _=_;rw[agS X];rfl
 ·have A:=mH ha (by omega);have B:=mH hb (by omega);rw[hk];show Option.bind (yI N op a.xN b.xN) _=_;rw[acM N op _ _ A.n1 A.n2 B.n1 B.n2 ho];rfl
theorem W5(N:Nat)(hN:2147483648<N){t:aD}{a:ay}(ht:cO t=true)(ha:cW t a=true)(b:Int):B3 N t a=some (bif t.a8==2 then Bf 8 t a.xN.toInt b else bif t.a8==3 then sN 8 a.xN.toInt b else vI 8 a a):=by
 unfold B3;rcases kinds ht with hk|hk|hk
 ·rw[hk];rfl
 ·rw[hk];show Option.bind (ym N t a) _=_;rw[YM ⟨hN,ht,hk,ha,ha⟩];rfl
 ·have A:=mH ha (by omega);have D:=DT ha hk;have e:(-a.xN).toInt= -a.xN.toInt:=nW (by have:=A.n1;omega);rw[hk];unfold sN;rw[show((8:Int)==7&&b==0)=false from rfl,show((8:Int)==4)=false from rfl,show((8:Int)==5)=false from rfl,show((8:Int)==6)=false from rfl,show((8:Int)==7)=false from rfl,show((3:Int)==2)=false from rfl,show((3:Int)==3)=true from rfl];simp only[cond_false,cond_true];rw[aj4 (show-2147483647≤-a.xN.toInt by have:=A.n2;omega),aj4 (show-a.xN.toInt≤2147483647 by have:=A.n1;omega)];simp only[Bool.and_self,cond_true]
  congr 2
  exact zY (by rw[e];exact(gC (by have:=A.n2;omega) (by have:=A.n1;omega)).symm) D
theorem VX(N:Nat)(hN:2147483648<N){t:aD}{a b:ay}(ht:cO t=true)(op:Int):vc N t a b op true=some (bif op==9 then(bif decide (j5 t a b>0)then b else a)else(bif decide (j5 t a b<0)then b else a),0):=by
 unfold vc;rw[TM N hN t a b ht];simp only[cond_true,ajm];generalize j5 t a b=c;cases h9:op==9 with
 |true=>
  by_cases hc:c>0
  ·rw[aj4 hc,bne_iff_ne.2 (show c≠0 by omega)];rfl
  ·rw[aj5 hc];rfl
 |false=>
  by_cases hc:c<0
  ·rw[aj4 hc,aj5 (show ¬c>0 by omega),bne_iff_ne.2 (show c≠0 by omega)];rfl
  ·rw[aj5 hc];by_cases h0:c>0
   ·rw[aj4 h0];rfl
   ·obtain rfl:c=0:=by omega
    rfl
theorem afZ(a b c:ay):vI 8 a b=vI 8 a c:=by
 unfold vI;rw[show((8:Int)==4)=false from rfl,show((8:Int)==5)=false from rfl,show((8:Int)==6)=false from rfl,show((8:Int)==7)=false from rfl];simp only[cond_false]
theorem aas(N:Nat)(hN:9223372036854775808<N)(op:Int)(t:aD)(a b:ay):yb N op t a b=some (qM op t a b):=by
 have jS:2147483648<N:=Nat.lt_trans (by decide) hN;unfold yb qM;rw[ik,ajm,od,ajm];by_cases h4:op<4
 ·rw[aj4 h4];rfl
 by_cases az:op≤10
 ·rw[aj5 h4,aj5 (show ¬op>10 by omega)];simp only[Bool.or_self,cond_false];cases ht:cO t with
  |false=>rfl
  |true=>
   simp only[cond_true,Bool.not_true,cond_false,bne_self_eq_false];rw[ta N jS t a ht,ta N jS t b ht];cases ha:cW t a with
   |false=>rfl
   |true=>
    simp only[ajm,cond_true,Bool.not_true,Bool.false_or];rw[fu,dp,ajm];by_cases h8:op=8
    ·subst h8;rw[W5 N jS ht ha b.xN.toInt,afZ a a b];rfl
    ·rw[beq_false_of_ne h8];simp only[Bool.not_false,Bool.true_and,cond_false];cases hb:cW t b with
     |false=>rfl
     |true=>
      simp only[Bool.not_true,cond_false];by_cases h9:op=9
      ·subst h9;rw[show((9:Int)==9)=true from rfl,VX N jS ht];rfl
      ·rw[beq_false_of_ne h9];simp only[cond_false];by_cases h1:op=10
       ·subst h1;rw[show((10:Int)==10)=true from rfl,VX N jS ht];rfl
       ·rw[beq_false_of_ne h1];unfold vc;simp only[cond_false];rw[ahh N hN ht ha hb (by omega)];rfl
 ·rw[aj4 (show op>10 by omega),Bool.or_true];rfl
theorem Zo(N:Nat)(hN:9223372036854775808<N){t:aD}{v:ay}(ht:cO t=true)(hv:cW t v=true):DS N t v=some (kH t v):=by
 unfold DS kH;cases hk:t.a8==2 with
 |false=>rfl
 |true=>
  have gO:t.a8=2:=by simpa using hk
  have F:=hX ht gO;obtain⟨s1,s2,s3⟩:=xx F.f1 F.f2;have wD:(Int64.ofInt ((1:Int)*2^(min (t.bE).toNat (IntKind.bits .i64)))).toInt=dU t:=s2;simp only[cond_true];unfold IZ;rw[Qb N (by omega) ht gO (l:=[v]) (by intro x hx;simp only[ajR,aj3,or_false]at hx;subst hx;exact hv),aj4 F.f1,zJ N hN,wD];rfl
theorem aa4(N:Nat)(hN:2147483648<N){v:ay}(V:eQ v):Ap N v=some (Int64.ofInt (v.xN.toInt / v.xD.toInt)):=by
 unfold Ap Ca;have hd:=V.d1;have t1:=KW (a:=v.xN.toInt) (b:=v.xD.toInt);have t2:=Ny (a:=v.xN.toInt) (show v.xD.toInt≠0 by omega);have n1:=V.n1;have n2:=V.n2;rw[mw N hN,V.ok,bne_iff_ne.2 (show v.xD.toInt≠0 by omega),gC (by omega) (by omega)];simp only[ajm,cond_true];have key:=SZ (n:=v.xN.toInt) (d:=v.xD.toInt) (by omega);have q2:(Int64.ofInt (v.xN.toInt.tdiv v.xD.toInt)).toInt=v.xN.toInt.tdiv v.xD.toInt:=gC (by omega) (by omega);cases hz:decide (v.xN.toInt.tmod v.xD.toInt<0)with
 |true=>
  rw[hz]at key;simp only[cond_true]at key ⊢;rw[←key]
  congr 1
  refine n9 ?_;rw[nI]<;>rw[q2,show(1:Int64).toInt=1 from rfl]<;>omega
 |false=>
  rw[hz]at key;simp only[cond_false]at key ⊢;rw[←key]
theorem ZZ(N:Nat)(hN:2147483648<N){t:aD}{v:ay}(ht:cO t=true)(hk:t.a8=2)(V:eQ v):zh N t v=some (jx t (gy (v.xN.toInt*dU t) v.xD.toInt t.bK),0):=by
 have F:=hX ht hk;obtain⟨s1,s2,s3⟩:=xx F.f1 F.f2;have n1:=V.n1;have n2:=V.n2;have d1:=V.d1;obtain⟨e,e1,e2⟩:=Vz (n:=v.xN) F.f1 F.f2 (by omega) (by omega);unfold zh FZ AR;rw[TZ N ht hk,mw N hN,V.ok,s1,kI,dp,aj4 F.r1,aj4 F.r2,aj4 F.f1,aj5 (show ¬t.bE<0 by have:=F.f1;omega),aj5 (show ¬t.bE>30 by have:=F.f2;omega)];simp only[ajm,bne_self_eq_false,cond_false,cond_true,Bool.and_self,Bool.not_true];rw[Lx N _ _ F.r1 F.r2 (by rw[e];omega) (by rw[e];omega),e,beq_false_of_ne (show v.xD.toInt≠0 by omega)];simp only[ajm,cond_false,bne_self_eq_false];rw[ya N F,QP (by omega),vi (by omega) e1 e2];rfl
theorem ahd(N:Nat)(hN:9223372036854775808<N)(t u:aD)(v:ay):zD N t u v=some (ur t u v):=by
 unfold zD ur;rw[od,od];cases ht:cO t with
 |false=>rfl
 |true=>
  cases hu:cO u with
  |false=>rfl
  |true=>
   simp only[ajm,cond_true,bne_self_eq_false,cond_false,Bool.not_true,Bool.or_self];rw[ta N (by omega) t v ht];cases hv:cW t v with
   |false=>rfl
   |true=>
    simp only[ajm,cond_true,Bool.not_true,cond_false];have V:=TF ht hv;rw[Zo N hN ht hv,ajm];rcases kinds hu with hk|hk|hk
    ·rw[hk];rfl
    ·rw[hk];show Option.bind (zh N u (kH t v)) _=_;rw[ZZ N (by omega) hu hk V];rfl
    ·rw[hk];show Option.bind (Ap N (kH t v)) _=_;rw[aa4 N (by omega) V];rfl
theorem Wo(N:Nat)(t:aD):uT N t=some (pE t):=by
 unfold uT pE;rw[od];cases cO t<;>rfl
theorem UC(N:Nat)(hN:2147483648<N)(t:aD):vA N t=some (iy t):=by
 unfold vA iy;rw[od];cases ht:cO t with
 |false=>rfl
 |true=>
  simp only[ajm,cond_true,bne_self_eq_false,cond_false,Bool.not_true];cases hk:t.a8==2 with
  |false=>
   rw[fu,hk];have hv:cW t ⟨Int64.ofInt 1,1⟩=true:=by
     unfold cW;rw[hk];cases t.a8==3<;>rfl
   simp only[Bool.not_false,cond_true,cond_false];rw[hv];rfl
  |true=>
   have gO:t.a8=2:=by simpa using hk
   have F:=hX ht gO;obtain⟨s1,s2,s3⟩:=xx F.f1 F.f2;have s4:(Int64.ofInt ((1:Int)*2^(min (t.bE).toNat (IntKind.bits .i64))))=Int64.ofInt (dU t):=n9 s2;rw[fu,hk,aj4 F.f1,s4];simp only[Bool.not_true,cond_false,cond_true];rw[TL N hN _ ht gO];cases cW t ⟨Int64.ofInt (dU t),1⟩<;>rfl
end Go.Proofs.YtpgmcallngdceaaGreatDoor
