/-
  Part 17 of the proof: PAll, ValNames, ValNode, LinP, ValTree, ValTree2, ValidLaw, InVal1, InVal2, InLin, InLin2, InLin3, InVal3, InVal4, InChk, InSub, InOne1, InOne2.
-/
import Derived.Test.YtphmhnabilhbgaaGreatDoorPk16
import Derived.Laws.Bits64
namespace Go.Proofs.YtphmhnabilhbgaaGreatDoor
open Go.RowKit
theorem Db(b:ByteArray)(i:Nat):b[i]?=(bL b)[i]?:=by
 unfold bL;rw[agQ];by_cases h:i<b.size
 ·rw[getElem?_pos b i h,agP (xs:=b.data) (by exact h)];rfl
 ·rw[getElem?_neg b i h,Array.getElem?_eq_none (xs:=b.data) (by exact Nat.le_of_not_lt h)]
theorem qj(b:ByteArray):b.size=(bL b).length:=by unfold bL;rw[ag0];rfl
theorem xE{i:Nat}(h:i<9223372036854775807):a7 ((i:Int)+1)=((i+1:Nat):Int):=by
 unfold a7;rw[IntKind.wrap_i64]<;>omega
def mf(c:UInt8):Bool:=decide (97≤c.toNat)&&decide (c.toNat≤122)
def iV(c:UInt8):Bool:=mf c||(decide (48≤c.toNat)&&decide (c.toNat≤57))||c.toNat==95
def rB(l:List UInt8):Bool:=D7.any fun w=>bL w==l
def Ff(l:List UInt8):Bool:=decide (1≤l.length)&&(decide (l.length≤16)&&(!rB l&&((l.take 1).all mf&&l.all iV)))
def gg(s:ByteArray):Bool:=Ff (bL s)
theorem PO(c:UInt8):IntKind.i32.wrap (c.toNat:Int)=(c.toNat:Int):=by
 have:=c.toNat_lt;rw[IntKind.wrap_i32]<;>omega
theorem n3{p q:Prop} [Decidable p] [Decidable q](h:p↔q):decide p=decide q:=decide_eq_decide.2 h
theorem iP(a b:Bool):(bif a then some b else some false)=some (a&&b):=by cases a<;>rfl
theorem mJ(a b:Bool):(bif a then some true else some b)=some (a||b):=by cases a<;>rfl
theorem SQ(N:Nat)(c:UInt8):Ao N (c.toNat:Int)=some (mf c):=by
 unfold Ao mf;rw[iP,ags,n3 (q:=97≤c.toNat) (by omega),n3 (p:=(c.toNat:Int)≤122) (q:=c.toNat≤122) (by omega)]
theorem W5(N:Nat)(c:UInt8):Eg N (c.toNat:Int)=some (decide (48≤c.toNat)&&decide (c.toNat≤57)):=by
 unfold Eg;rw[iP,ags,n3 (q:=48≤c.toNat) (by omega),n3 (p:=(c.toNat:Int)≤57) (q:=c.toNat≤57) (by omega)]
theorem xS(n k:Nat):((n:Int)==(k:Int))=(n==k):=by
 rw[Bool.eq_iff_iff,beq_iff_eq,beq_iff_eq];omega
theorem Xv(N:Nat)(c:UInt8):Dk N (c.toNat:Int)=some (iV c):=by
 unfold Dk iV;rw[SQ,ags,W5,ags];have:=xS c.toNat 95;rw[show(((c.toNat:Int)==(95:Int)))=(c.toNat==95)from this];rw[mJ,mJ,ags,Bool.or_assoc]
theorem Ow(N:Nat)(s:ByteArray)(hs:s.size<9223372036854775807):∀(k i:Nat),i≤s.size→s.size-i<k→wU N s k (i:Int)=some ((i+(((bL s).drop i).takeWhile iV).length:Nat):Int)
 |0,i,_,hk=>absurd hk (agV _)
 |k+1,i,hi,hk=>by
  rw[wU];by_cases aO:i<s.size
  ·have h1:decide ((i:Int)<(s.size:Int))=true:=aha (by omega);have h2:decide ((0:Int)≤(i:Int))=true:=aha (by omega);rw[h1,h2];simp only[cond_true,agU];have hl:i<(bL s).length:=by rw[←qj];exact aO
   rw[Db,agx hl,List.drop_eq_getElem_cons hl,ags,PO,Xv,ags,ags];cases hw:iV (bL s)[i]with
   |true=>
    simp only[cond_true];rw[xE (Nat.lt_trans aO hs),Ow N s hs k (i+1) aO (by omega),List.takeWhile_cons_of_pos hw,agw]
    congr 2;omega
   |false=>
    simp only[cond_false];rw[List.takeWhile_cons_of_neg (by rw[hw];simp)];rfl
  ·have h1:decide ((i:Int)<(s.size:Int))=false:=ahb (by omega);rw[h1];simp only[cond_false,ags];rw[List.drop_eq_nil_of_le (by rw[←qj];omega)];rfl
theorem XQ(N:Nat)(s:ByteArray)(hs:s.size<9223372036854775807)(hN:s.size<N):BL N s=some ((((bL s).takeWhile iV).length:Nat):Int):=by
 unfold BL;have:=Ow N s hs N 0 (Nat.zero_le _) (by omega);rw[ag2,agN]at this;exact this
theorem PA{α:Type}(p:α→Bool):∀l:List α,((l.takeWhile p).length==l.length)=l.all p
 |[]=>rfl
 |x::l=>by
  cases h:p x with
  |true=>
   rw[List.takeWhile_cons_of_pos h,ahd,h,Bool.true_and,←PA p l];simp
  |false=>rw[List.takeWhile_cons_of_neg (by rw[h];simp),ahd,h];simp
theorem KU(N:Nat)(v:ByteArray):∀(l:List ByteArray)(k:Nat),∃z:Int,wm N v l k=some z∧decide (z≥0)=l.any fun w=>bL w==bL v
 |[],k=>⟨-1,rfl,rfl⟩
 |w::l,k=>by
  rw[wm,ahe];have hc:(bL v==bL w)=(bL w==bL v):=by rw[Bool.eq_iff_iff,beq_iff_eq,beq_iff_eq];exact eq_comm
  cases h:bL v==bL w with
  |true=>rw[hc]at h;exact⟨k,rfl,by rw[h,Bool.true_or];exact aha (by omega)⟩
  |false=>
   obtain⟨z,h1,h2⟩:=KU N v l (k+1);rw[hc]at h;exact⟨z,h1,by rw[h,Bool.false_or];exact h2⟩
theorem abO(N:Nat)(v:ByteArray):De N v=some (rB (bL v)):=by
 unfold De LN sh Dr;obtain⟨z,h1,h2⟩:=KU N v D7 0;rw[ags,h1,ags,ags,h2];rfl
theorem Il{α:Type}{l:List α}(h:0<l.length):l.take 1=[l[0]]:=by
 cases l with
 |nil=>cases h
 |cons x l=>rfl
theorem o0:bL (bs [])=[]:=rfl
theorem E1(N:Nat)(s:ByteArray)(hN:16<N):sS N s=some (gg s):=by
 unfold sS gg Ff;have hz:=qj s;by_cases h0:(bL s).length=0
 ·have:bL s=[]:=List.length_eq_zero_iff.1 h0;rw[this];rfl
 have da:(bL s==bL (bs []))=false:=by
  rw[o0,beq_eq_false_iff_ne];intro h;rw[h]at h0;exact h0 rfl
 rw[da,aha (show 1≤(bL s).length by omega),Bool.true_and];simp only[cond_false];by_cases a9:(bL s).length≤16
 ·rw[aha (show(s.size:Int)≤16 by omega),aha a9,Bool.true_and];simp only[cond_true];have hl:0<(bL s).length:=by omega
  rw[Db,agx hl,ags,PO,SQ,ags,XQ N s (by omega) (by omega),ags,abO,ags];rw[hz,xS,PA];have ht:(bL s).take 1=[(bL s)[0]]:=Il hl;rw[ht,ahd,List.all_nil,Bool.and_true,iP,iP,ags]
  congr 1
  cases rB (bL s)<;>cases mf (bL s)[0]<;>cases (bL s).all iV<;>rfl
 ·rw[ahb (show ¬(s.size:Int)≤16 by omega),ahb a9];rfl
theorem Yh(N:Nat)(b:Bool):gU N b=some b:=by cases b<;>rfl
theorem aaJ(a b:Bool):(bif a then some a else some b)=some (a||b):=by cases a<;>rfl
theorem aaS(a b:List UInt8):(a==b)=(b==a):=by rw[Bool.eq_iff_iff,beq_iff_eq,beq_iff_eq];exact eq_comm
theorem abJ(N:Nat)(v:ByteArray):Ej N v=some (rB (bL v)):=by
 simp only[Ej,Yh,aaJ,rB,D7,ahe,List.any_nil,Bool.or_false,aaS (bL v)]
theorem B7(n k:Nat):decide ((n:Int)<(k:Int))= !decide (k≤n):=by
 by_cases h:k≤n
 ·rw[aha h,ahb (by omega)];rfl
 ·rw[ahb h,aha (by omega)];rfl
theorem jP(n k:Nat):decide ((n:Int)>(k:Int))= !decide (n≤k):=by
 by_cases h:n≤k
 ·rw[aha h,ahb (by omega)];rfl
 ·rw[ahb h,aha (by omega)];rfl
theorem Pv(n k:Nat):decide ((n:Int)≥(k:Int))=decide (k≤n):=n3 (by omega)
theorem ud(n k:Nat):decide ((n:Int)≤(k:Int))=decide (n≤k):=n3 (by omega)
theorem I0(n k:Nat):((n:Int) !=(k:Int))= !(n==k):=by unfold bne;rw[xS]
theorem Xu(c:UInt8):(bif (decide ((c.toNat:Int)<(97:Int)))then(bif (decide ((c.toNat:Int)<(48:Int)))then some ((c.toNat:Int) !=(95:Int))else(bif (decide ((c.toNat:Int)>(57:Int)))then some ((c.toNat:Int) !=(95:Int))else some false))else(bif (decide ((c.toNat:Int)>(122:Int)))then(bif (decide ((c.toNat:Int)<(48:Int)))then some ((c.toNat:Int) !=(95:Int))else(bif (decide ((c.toNat:Int)>(57:Int)))then some ((c.toNat:Int) !=(95:Int))else some false))else some false))=some (!iV c):=by
 have a1:=B7 c.toNat 97;have a2:=B7 c.toNat 48;have a3:=jP c.toNat 57;have a4:=jP c.toNat 122;have a5:=I0 c.toNat 95;simp only[Int.cast_ofNat_Int]at a1 a2 a3 a4 a5;rw[a1,a2,a3,a4,a5];unfold iV mf;cases decide (97≤c.toNat)<;>cases decide (48≤c.toNat)<;>cases decide (c.toNat≤57)<;>cases decide (c.toNat≤122)<;>cases (c.toNat==95)<;>rfl
theorem Sj(N:Nat)(s:ByteArray)(hs:s.size<9223372036854775807):∀(k i:Nat),i≤s.size→s.size-i<k→ta N s k (i:Int)=some (((bL s).drop i).all iV)
 |0,i,_,hk=>absurd hk (agV _)
 |k+1,i,hi,hk=>by
  rw[ta];by_cases aO:i<s.size
  ·have h1:decide ((i:Int)<(s.size:Int))=true:=aha (by omega);have h2:decide ((0:Int)≤(i:Int))=true:=aha (by omega);rw[h1,h2];simp only[cond_true,agU];have hl:i<(bL s).length:=by rw[←qj];exact aO
   rw[Db,agx hl,List.drop_eq_getElem_cons hl,ags,Xu,ags,ahd];cases hw:iV (bL s)[i]with
   |true=>
    simp only[Bool.not_true,cond_false,Bool.true_and];rw[xE (Nat.lt_trans aO hs),Sj N s hs k (i+1) aO (by omega)]
   |false=>rfl
  ·have h1:decide ((i:Int)<(s.size:Int))=false:=ahb (by omega);rw[h1];simp only[cond_false];rw[List.drop_eq_nil_of_le (by rw[←qj];omega)];rfl
theorem Th(N:Nat)(s:ByteArray)(hN:16<N):y6 N s=some (gg s):=by
 unfold y6 gg Ff;have hz:=qj s;have a1:=B7 s.size 1;have a2:=jP s.size 16;simp only[Int.cast_ofNat_Int]at a1 a2;rw[a1,a2,hz];cases h1:decide (1≤(bL s).length)with
 |false=>rfl
 |true=>
  cases a9:decide ((bL s).length≤16)with
  |false=>rfl
  |true=>
   have mY:=of_decide_eq_true h1;have afu:=of_decide_eq_true a9;have hl:0<(bL s).length:=by omega
   simp only[Bool.not_true,cond_false,Bool.true_and];rw[abJ,ags,Db,agx hl,ags];have b1:=B7 (bL s)[0].toNat 97;have b2:=jP (bL s)[0].toNat 122;simp only[Int.cast_ofNat_Int]at b1 b2;rw[b1,b2,mJ,mJ,ags,Il hl];have:=Sj N s (by omega) N 0 (Nat.zero_le _) (by omega);rw[ag2]at this;rw[show ta N s N 0=_ from this,ahd,List.all_nil,Bool.and_true];unfold mf;cases rB (bL s)<;>cases decide (97≤(bL s)[0].toNat)<;>cases decide ((bL s)[0].toNat≤122)<;>rfl
theorem MR(N:Nat)(v:ByteArray):∀(l:List ByteArray)(k:Nat),uD N v l k=some (l.any fun w=>bL w==bL v)
 |[],_=>rfl
 |w::l,k=>by
  rw[uD,ahe,MR N v l (k+1)];cases bL w==bL v<;>rfl
theorem WS(c:UInt8)(z:Bool):(bif (decide ((c.toNat:Int)≥(97:Int)))then(bif (decide ((c.toNat:Int)≤(122:Int)))then some (!true)else(bif z then(bif (decide ((c.toNat:Int)≥(48:Int)))then(bif (decide ((c.toNat:Int)≤(57:Int)))then some (!true)else some (!((c.toNat:Int)==(95:Int))))else some (!((c.toNat:Int)==(95:Int))))else some (!false)))else(bif z then(bif (decide ((c.toNat:Int)≥(48:Int)))then(bif (decide ((c.toNat:Int)≤(57:Int)))then some (!true)else some (!((c.toNat:Int)==(95:Int))))else some (!((c.toNat:Int)==(95:Int))))else some (!false)))=some (!(bif z then iV c else mf c)):=by
 have a1:=Pv c.toNat 97;have a2:=Pv c.toNat 48;have a3:=ud c.toNat 57;have a4:=ud c.toNat 122;have a5:=xS c.toNat 95;simp only[Int.cast_ofNat_Int]at a1 a2 a3 a4 a5;rw[a1,a2,a3,a4,a5];unfold iV mf;cases decide (97≤c.toNat)<;>cases decide (48≤c.toNat)<;>cases decide (c.toNat≤57)<;>cases decide (c.toNat≤122)<;>cases (c.toNat==95)<;>cases z<;>rfl
theorem RP(N:Nat)(s:ByteArray)(hs:s.size<9223372036854775807):∀(k i:Nat),i≤s.size→s.size-i<k→tf N s k (i:Int)=some (bif decide (i>0)then((bL s).drop i).all iV else((bL s).take 1).all mf&&((bL s).drop 1).all iV)
 |0,i,_,hk=>absurd hk (agV _)
 |k+1,i,hi,hk=>by
  rw[tf];by_cases aO:i<s.size
  ·have h1:decide ((i:Int)<(s.size:Int))=true:=aha (by omega);have h2:decide ((0:Int)≤(i:Int))=true:=aha (by omega);rw[h1,h2];simp only[cond_true,agU];have hl:i<(bL s).length:=by rw[←qj];exact aO
   rw[Db,agx hl,ags,WS,ags];rw[xE (Nat.lt_trans aO hs),RP N s hs k (i+1) aO (by omega),aha (show i+1>0 by omega)];simp only[cond_true];by_cases h0:i=0
   ·subst h0;rw[ahb (show ¬((0:Nat):Int)>0 by omega),ahb (show ¬0>0 by omega)];simp only[cond_false];rw[Il hl,ahd,List.all_nil,Bool.and_true];cases mf (bL s)[0]<;>rfl
   ·rw[aha (show(i:Int)>0 by omega),aha (show i>0 by omega)];simp only[cond_true];rw[List.drop_eq_getElem_cons hl,ahd];cases iV (bL s)[i]<;>rfl
  ·have h1:decide ((i:Int)<(s.size:Int))=false:=ahb (by omega);rw[h1];simp only[cond_false];have hn:(bL s).drop i=[]:=List.drop_eq_nil_of_le (by rw[←qj];omega);by_cases h0:i=0
   ·subst h0;rw[ag2]at hn;rw[hn];rfl
   ·rw[aha (show i>0 by omega),hn];rfl
theorem EH(N:Nat)(s:ByteArray)(hN:16<N):sx N s=some (gg s):=by
 unfold sx gg Ff;have hz:=qj s;have a1:=B7 s.size 1;have a2:=jP s.size 16;simp only[Int.cast_ofNat_Int]at a1 a2;rw[a1,a2,hz];cases h1:decide (1≤(bL s).length)with
 |false=>rfl
 |true=>
  cases a9:decide ((bL s).length≤16)with
  |false=>rfl
  |true=>
   have mY:=of_decide_eq_true h1;have afu:=of_decide_eq_true a9;have hl:0<(bL s).length:=by omega
   simp only[Bool.not_true,cond_false,Bool.true_and];have hh:∀l,oQ N l s=some (l.any fun w=>bL w==bL s):=fun l=>MR N s l 0;unfold H7;rw[ags,hh,ags,ags];have:=RP N s (by omega) N 0 (Nat.zero_le _) (by omega);rw[show tf N s N 0=_ from this];show(bif rB (bL s)then some false else some (((bL s).take 1).all mf&&((bL s).drop 1).all iV))=_;have hw:(bL s).all iV=(iV (bL s)[0]&&((bL s).drop 1).all iV):=by
    have hd:bL s=(bL s)[0]::(bL s).drop 1:=by
     have:=List.drop_eq_getElem_cons hl
     rwa [ag2]at this
    rw[←ahd,←hd]
   rw[hw,Il hl,ahd,List.all_nil,Bool.and_true];unfold iV;cases rB (bL s)<;>cases mf (bL s)[0]<;>simp
def iW(t:bB):Bool:=
 bif t.cA==1||t.cA==3 then t.cD==0&&(t.dg==0&&(t.de==0&&t.dc==0))
 else t.cA==2&&(decide (2≤t.cD)&&(decide (t.cD≤31)&&(decide (0≤t.dg)&&(decide (t.dg≤30)&&(decide (1≤t.de)&&(decide (t.de≤4)&&(t.dc==1||t.dc==2)))))))
theorem ac3(a:Bool):(bif a then some true else some false)=some a:=by cases a<;>rfl
theorem Jg(a b:Int):decide (a<b)= !decide (b≤a):=by
 by_cases h:b≤a
 ·rw[aha h,ahb (by omega)];rfl
 ·rw[ahb h,aha (by omega)];rfl
theorem BV(a b:Int):decide (a>b)= !decide (a≤b):=Jg b a
theorem rh(a b:Int):decide (a≥b)=decide (b≤a):=rfl
theorem Eb(a b:Int):(a !=b)= !(a==b):=rfl
theorem MN(N:Nat)(t:bB):sW N t=some (iW t):=by
 unfold sW iW;simp only[mJ,iP,ags,rh];cases (t.cA==1||t.cA==3)<;>rfl
theorem R0(N:Nat)(t:bB)(h:(t.cA==2)=true):y0 N t=some (bif (decide (2≤t.cD)&&(decide (t.cD≤31)&&(decide (0≤t.dg)&&(decide (t.dg≤30)&&(decide (1≤t.de)&&(decide (t.de≤4)&&(t.dc==1||t.dc==2)))))))then 0 else 10):=by
 unfold y0;simp only[mJ,iP,ags,rh,BV,Eb,h,Bool.not_true,Bool.false_or];cases decide (2≤t.cD)<;>cases decide (t.cD≤31)<;>cases decide (0≤t.dg)<;>cases decide (t.dg≤30)<;>cases decide (1≤t.de)<;>cases decide (t.de≤4)<;>cases t.dc==1<;>cases t.dc==2<;>rfl
theorem Hy(N:Nat)(t:bB):sV N t=some (bif iW t then 0 else 10):=by
 unfold sV Bx iW Fi;cases h1:t.cA==1 with
 |true=>
  simp only[cond_true,ags,ahc,Bool.true_and,Bool.true_or,Bool.and_true];cases (t.cD==0&&(t.dg==0&&(t.de==0&&t.dc==0)))<;>rfl
 |false=>
  cases h3:t.cA==3 with
  |true=>
   simp only[cond_true,cond_false,ags,ahc,Bool.true_and,Bool.or_true,Bool.and_true];cases (t.cD==0&&(t.dg==0&&(t.de==0&&t.dc==0)))<;>rfl
  |false=>
   cases h2:t.cA==2 with
   |true=>
    rw[R0 N t h2];simp only[cond_true,cond_false,ags,Bool.true_and,Bool.or_false];cases (decide (2≤t.cD)&&(decide (t.cD≤31)&&(decide (0≤t.dg)&&(decide (t.dg≤30)&&(decide (1≤t.de)&&(decide (t.de≤4)&&(t.dc==1||t.dc==2)))))))<;>rfl
   |false=>rfl
def oO:Option ByteArray→List aF→Bool
 |_,[]=>true
 |p,m::l=>gg m.aq&&(!(m.dq.toInt==0)&&((match p with|none=>true|some q=>Op.bytesLess (bL q) (bL m.aq))&&oO (some m.aq) l))
theorem HU(p:Option ByteArray)(m:aF)(l:List aF):oO p (m::l)=(gg m.aq&&(!(m.dq.toInt==0)&&((match p with|none=>true|some q=>Op.bytesLess (bL q) (bL m.aq))&&oO (some m.aq) l))):=by cases p<;>rfl
def eK(x:aw):Bool:=oO none x.xL
def qa(x:aw)(k:Nat):Option ByteArray:=bif k==0 then none else(x.xL[k-1]?).map (·.aq)
theorem aet{k:Nat}(h0:0<k)(h:k≤maxLen):a7 ((k:Int)-1)=((k-1:Nat):Int):=by
 unfold a7;have:(k:Int)-1=((k-1:Nat):Int):=by omega
 rw[this];unfold maxLen at h;rw[IntKind.wrap_i64]<;>omega
theorem UU{x:aw}{k:Nat}{m:aF}{l:List aF}(hd:x.xL.drop k=m::l):qa x (k+1)=some m.aq:=by
 have:=bj hd;unfold qa;simp [this]
theorem Rl{x:aw}{k:Nat}{m:aF}{l:List aF}(hd:x.xL.drop k=m::l)(hm:x.xL.length≤maxLen):
 (bif (decide ((k:Int)>(0:Int)))then bif (decide ((0:Int)≤(a7 ((k:Int)-(1:Int)))))then
 Option.bind (x.xL[((a7 ((k:Int)-(1:Int)))).toNat]?) fun v7=>
 some (!(Op.bytesLess (bL v7.aq) (bL m.aq)))
 else none else some false)=some (!(match qa x k with|none=>true|some q=>Op.bytesLess (bL q) (bL m.aq))):=by
 have aO:k<x.xL.length:=(agt.1 (bj hd)).1;by_cases h0:k=0
 ·subst h0;rfl
 ·rw[aha (show(k:Int)>0 by omega),aet (by omega) (by omega),aha (show(0:Int)≤((k-1:Nat):Int) by omega)];simp only[cond_true,agU];have hp:qa x k=(x.xL[k-1]?).map (·.aq):=by
    unfold qa;rw[beq_false_of_ne h0];rfl
  rw[hp,agx (show k-1<x.xL.length by omega)];rfl
theorem Ov(N:Nat)(hN:16<N)(x:aw)(hm:x.xL.length≤maxLen):∀(l:List aF)(k:Nat),x.xL.drop k=l→xt N x l k=some (bif oO (qa x k) l then 0 else 1)
 |[],k,_=>rfl
 |m::l,k,hd=>by
  rw[xt,Th N m.aq hN,ags,HU,Rl hd hm,Ov N hN x hm l (k+1) (b7 hd),UU hd];generalize (match qa x k with|none=>true|some q=>Op.bytesLess (bL q) (bL m.aq))=b;cases gg m.aq<;>cases (m.dq.toInt==0)<;>cases b<;>cases oO (some m.aq) l<;>rfl
theorem zx(N:Nat)(hN:16<N)(x:aw)(hm:x.xL.length≤maxLen):qL N x=some (bif eK x then 0 else 1):=Ov N hN x hm x.xL 0 rfl
theorem Tk(N:Nat)(hN:16<N)(x:aw)(hm:x.xL.length≤maxLen):∀(l:List aF)(k:Nat),x.xL.drop k=l→wV N x l k=some (oO (qa x k) l)
 |[],k,_=>rfl
 |m::l,k,hd=>by
  rw[wV,EH N m.aq hN,ags,HU,Rl hd hm,Tk N hN x hm l (k+1) (b7 hd),UU hd];generalize (match qa x k with|none=>true|some q=>Op.bytesLess (bL q) (bL m.aq))=b;cases gg m.aq<;>cases (m.dq.toInt==0)<;>cases b<;>cases oO (some m.aq) l<;>rfl
theorem Ed(N:Nat)(hN:16<N)(x:aw)(hm:x.xL.length≤maxLen):pR N x=some (eK x):=Tk N hN x hm x.xL 0 rfl
def xB(t:bB)(v:gj):Bool:=
 bif t.cA==2 then v.xD.toInt==1&&(decide (-(2^(t.cD-1).toNat)≤v.xN.toInt)&&decide (v.xN.toInt<2^(t.cD-1).toNat))
 else decide (v.xN.toInt≤2147483647)&&(decide (-2147483647≤v.xN.toInt)&&(decide (1≤v.xD.toInt)&&(decide (v.xD.toInt≤2147483647)&&
  (bif t.cA==3 then v.xD.toInt==1 else Nat.gcd v.xN.toInt.natAbs v.xD.toInt.toNat==1))))
theorem aeo:∀n:Fin 30,(decide ((0:Int)≤(IntKind.u64.wrap (a7 (((n.val+2:Nat):Int)-(1:Int))))))=true∧(decide ((0:Int)≤(a7 (((n.val+2:Nat):Int)-(1:Int)))))=true∧
 (-(Int64.ofInt ((1:Int)*2^(min ((IntKind.u64.wrap (a7 (((n.val+2:Nat):Int)-(1:Int))))).toNat (IntKind.bits .i64))))).toInt= -(2^(n.val+1))∧
 ((Int64.ofInt ((1:Int)*2^(min ((IntKind.u64.wrap (a7 (((n.val+2:Nat):Int)-(1:Int))))).toNat (IntKind.bits .i64))))-(1:Int64)).toInt=2^(n.val+1)-1∧
 (-(Int64.ofInt ((1:Int)*2^(min ((a7 (((n.val+2:Nat):Int)-(1:Int)))).toNat (IntKind.bits .i64))))).toInt= -(2^(n.val+1))∧
 (Int64.ofInt ((1:Int)*2^(min ((a7 (((n.val+2:Nat):Int)-(1:Int)))).toNat (IntKind.bits .i64)))).toInt=2^(n.val+1):=by decide+kernel
theorem R7{b:Int}(h1:2≤b)(h2:b≤31):(decide ((0:Int)≤(IntKind.u64.wrap (a7 (b-(1:Int))))))=true∧(decide ((0:Int)≤(a7 (b-(1:Int)))))=true∧
 (-(Int64.ofInt ((1:Int)*2^(min ((IntKind.u64.wrap (a7 (b-(1:Int))))).toNat (IntKind.bits .i64))))).toInt= -(2^(b-1).toNat)∧
 ((Int64.ofInt ((1:Int)*2^(min ((IntKind.u64.wrap (a7 (b-(1:Int))))).toNat (IntKind.bits .i64))))-(1:Int64)).toInt=2^(b-1).toNat-1∧
 (-(Int64.ofInt ((1:Int)*2^(min ((a7 (b-(1:Int)))).toNat (IntKind.bits .i64))))).toInt= -(2^(b-1).toNat)∧
 (Int64.ofInt ((1:Int)*2^(min ((a7 (b-(1:Int)))).toNat (IntKind.bits .i64)))).toInt=2^(b-1).toNat:=by
 obtain⟨n,rfl⟩:∃n:Nat,b=n:=⟨b.toNat,by omega⟩;have:=aeo ⟨n-2,by omega⟩;simp only[show n-2+2=n by omega,show n-2+1=n-1 by omega]at this;rw[show((n:Int)-1).toNat=n-1 by omega];exact this
theorem R9(N:Nat):∀(k a b:Nat),b<k→vI N k (a:Int) (b:Int)=some ((Nat.gcd a b:Nat):Int)
 |0,a,b,h=>absurd h (agV _)
 |k+1,a,b,h=>by
  rw[vI];by_cases h0:b=0
  ·subst h0;simp
  ·rw[show(((b:Nat):Int) !=(0:Int))=true by rw[bne_iff_ne];omega];simp only[cond_true];rw[←Int.ofNat_tmod,R9 N k b (a%b) (by have:=Nat.mod_lt a (Nat.pos_of_ne_zero h0);omega)];rw[Nat.gcd_comm a b,Nat.gcd_rec b a,Nat.gcd_comm]
theorem Sy(N:Nat):∀(k:Nat)(a b:Int64),0≤a.toInt→0≤b.toInt→b.toInt.toNat<k→∃g:Int64,wv N k a b=some g∧g.toInt=((Nat.gcd a.toInt.toNat b.toInt.toNat:Nat):Int)
 |0,a,b,_,_,h=>absurd h (agV _)
 |k+1,a,b,ha,hb,h=>by
  rw[wv];by_cases h0:b.toInt=0
  ·rw[h0];refine⟨a,rfl,?_⟩;show a.toInt=((Nat.gcd a.toInt.toNat 0:Nat):Int);rw[Nat.gcd_zero_right];omega
  ·rw[show(b.toInt !=(0:Int))=true by rw[bne_iff_ne];exact h0];simp only[cond_true];obtain⟨x,hx⟩:∃x:Nat,a.toInt=x:=⟨a.toInt.toNat,by omega⟩;obtain⟨y,hy⟩:∃y:Nat,b.toInt=y:=⟨b.toInt.toNat,by omega⟩;rw[hx,hy];have hyp:0<y:=by omega
   have hm:(x:Int).tmod (y:Int)=((x%y:Nat):Int):=(Int.ofNat_tmod x y).symm;have aO:=Nat.mod_lt x hyp;have ju:b.toInt<2^63:=Int64.toInt_lt b;have jF:(Int64.ofInt ((x%y:Nat):Int)).toInt=((x%y:Nat):Int):=by
    rw[Int64.toInt_ofInt_of_le]
    ·omega
    ·omega
   rw[hm];obtain⟨g,h1,h2⟩:=Sy N k b (Int64.ofInt ((x%y:Nat):Int)) hb (by rw[jF];omega) (by rw[jF];omega);refine⟨g,h1,?_⟩;rw[h2,jF,hy];simp only[agU];rw[Nat.gcd_comm x y,Nat.gcd_rec y x,Nat.gcd_comm]
theorem J4(z:Int):IntKind.u64.wrap z=z%18446744073709551616:=rfl
theorem XF(N:Nat)(v:Int64):C5 N v=some ((v.toInt.natAbs:Nat):Int):=by
 unfold C5;have h1:v.toInt<2^63:=Int64.toInt_lt v;have h2: -2^63≤v.toInt:=Int64.le_toInt v;by_cases h:v.toInt<0
 ·rw[aha h];simp only[cond_true,J4]
  congr 1
  omega
 ·rw[ahb h];simp only[cond_false,J4]
  congr 1
  omega
theorem Y1(N:Nat)(hN:2147483648<N)(t:bB)(v:gj)(ht:iW t=true):BJ N t v=some (xB t v):=by
 unfold BJ;rw[Hy,ht,ags];unfold xB;cases h2:t.cA==2 with
 |true=>
  simp only[cond_true];show Option.bind (DI N t v) _=_;unfold iW at ht;have hk:t.cA=2:=by simpa using h2
  rw[hk]at ht;have pA:(decide (2≤t.cD)&&(decide (t.cD≤31)&&(decide (0≤t.dg)&&(decide (t.dg≤30)&&(decide (1≤t.de)&&(decide (t.de≤4)&&(t.dc==1||t.dc==2)))))))=true:=ht;unfold DI;rw[R0 N t h2,pA,ags];simp only[agv,decide_eq_true_eq]at pA;obtain⟨b1,b2,_⟩:=pA;obtain⟨f1,f2,f3,f4,f5,f6⟩:=R7 b1 b2;unfold FX Gx DC;rw[iP,ags,ags,rh,aha b1,aha b2];simp only[Bool.and_self,cond_true];rw[f1];simp only[cond_true,ags];rw[f3,f4];rw[rh,iP,n3 (p:=v.xN.toInt≤2^(t.cD-1).toNat-1) (q:=v.xN.toInt<2^(t.cD-1).toNat) (by omega)];cases (v.xD.toInt==1)<;>rfl
 |false=>
  simp only[cond_false];show(bif t.cA==3 then _ else _)=_;cases h3:t.cA==3 with
  |true=>
   simp only[cond_true];unfold H9;rw[rh,iP,ags,ags];by_cases hd:v.xD.toInt=1
   ·rw[hd];simp only[ahc,cond_true,ags,show decide ((1:Int)≤1)=true from rfl,show decide ((1:Int)≤2147483647)=true from rfl,Bool.and_true];rw[Bool.and_comm]
   ·rw[beq_false_of_ne hd];simp only[cond_false,ags,Bool.and_false]
  |false=>
   simp only[cond_false];unfold Ey HZ;rw[rh,rh,iP,ags,ags,XF,ags];cases uV:decide (1≤v.xD.toInt)with
   |false=>cases decide (v.xN.toInt≤2147483647)<;>cases decide (-2147483647≤v.xN.toInt)<;>rfl
   |true=>
    cases mW:decide (v.xD.toInt≤2147483647)with
    |false=>cases decide (v.xN.toInt≤2147483647)<;>cases decide (-2147483647≤v.xN.toInt)<;>rfl
    |true=>
     have e1:=of_decide_eq_true uV;have e2:=of_decide_eq_true mW;have hw:IntKind.u64.wrap v.xD.toInt=((v.xD.toInt.toNat:Nat):Int):=by rw[J4];omega
     simp only[cond_true,Bool.true_and];rw[hw];unfold EJ;rw[R9 N N v.xN.toInt.natAbs v.xD.toInt.toNat (by omega),ags,show((((Nat.gcd v.xN.toInt.natAbs v.xD.toInt.toNat:Nat):Int))==(1:Int))=(Nat.gcd v.xN.toInt.natAbs v.xD.toInt.toNat==1)from xS _ 1,iP,ags];cases decide (v.xN.toInt≤2147483647)<;>cases decide (-2147483647≤v.xN.toInt)<;>rfl
theorem acT(N:Nat)(hN:2147483648<N)(t:bB)(v:gj)(ht:iW t=true):Eu N t v=some (xB t v):=by
 unfold Eu xB;cases h2:t.cA==2 with
 |true=>
  simp only[cond_true];unfold iW at ht;have hk:t.cA=2:=by simpa using h2
  rw[hk]at ht;have pA:(decide (2≤t.cD)&&(decide (t.cD≤31)&&(decide (0≤t.dg)&&(decide (t.dg≤30)&&(decide (1≤t.de)&&(decide (t.de≤4)&&(t.dc==1||t.dc==2)))))))=true:=ht;simp only[agv,decide_eq_true_eq]at pA;obtain⟨b1,b2,_⟩:=pA;obtain⟨f1,f2,f3,f4,f5,f6⟩:=R7 b1 b2;rw[f2];simp only[cond_true];rw[f5,f6,rh,iP,iP,ags]
 |false=>
  simp only[cond_false,BV,mJ,ags];cases uS:decide (v.xN.toInt≤2147483647)with
  |false=>rfl
  |true=>
   cases k9:decide (-2147483647≤v.xN.toInt)with
   |false=>rfl
   |true=>
    cases uV:decide (1≤v.xD.toInt)with
    |false=>rfl
    |true=>
     cases mW:decide (v.xD.toInt≤2147483647)with
     |false=>rfl
     |true=>
      have n1:=of_decide_eq_true uS;have n2:=of_decide_eq_true k9;have e1:=of_decide_eq_true uV;have e2:=of_decide_eq_true mW;simp only[Bool.not_true,Bool.or_false,cond_false,Bool.true_and];cases h3:t.cA==3 with
      |true=>rfl
      |false=>
       simp only[cond_false];have afr:(-v.xN).toInt= -v.xN.toInt:=by
        rw[Int64.toInt_neg];rw[Int.bmod_eq_of_le]<;>omega
       have wx:(w7 v.xN (-v.xN)).toInt=((v.xN.toInt.natAbs:Nat):Int):=by
        rw[←T2,afr];split<;>omega
       unfold FH;obtain⟨g,g1,g2⟩:=Sy N N (w7 v.xN (-v.xN)) v.xD (by rw[wx];omega) (by omega) (by omega);rw[g1,ags,g2,wx,agU];rw[show((((Nat.gcd v.xN.toInt.natAbs v.xD.toInt.toNat:Nat):Int))==(1:Int))=(Nat.gcd v.xN.toInt.natAbs v.xD.toInt.toNat==1)from xS _ 1]
def eE(n:Int):Bool:=decide (-9223372036854775808≤n)&&decide (n≤9223372036854775807)
theorem rH{n:Int}:eE n=true↔-9223372036854775808≤n∧n≤9223372036854775807:=by
 unfold eE;rw[agv,decide_eq_true_iff,decide_eq_true_iff]
theorem abA(n:Int64):eE n.toInt=true:=by
 rw[rH];have h1:=n.le_toInt;have h2:=n.toInt_lt;omega
def same(a b:ByteArray):Bool:=bL a==bL b
def lt(a b:ByteArray):Bool:=Op.bytesLess (bL a) (bL b)
theorem Vb{a b:ByteArray}(h:(bL a)=(bL b)):a=b:=by
 unfold bL at h;have:a.data=b.data:=Array.toList_inj.mp h;cases a;cases b;simp_all
theorem wo{a b:ByteArray}:same a b=true↔a=b:=by
 unfold same;rw[beq_iff_eq];exact⟨Vb,fun h=>by rw[h]⟩
theorem Sp:∀(x y:List UInt8),Op.bytesLess x y=decide (x<y)
 |[],[]=>by simp [Op.bytesLess]
 |_::_,[]=>by simp [Op.bytesLess]
 |[],_::_=>by simp [Op.bytesLess]
 |a::x,b::y=>by
  rw[Op.bytesLess,Sp x y];simp only[List.cons_lt_cons_iff];by_cases h:a<b<;>by_cases h2:a=b<;>simp_all
theorem MS{a b:ByteArray}:lt a b=true↔(bL a)<(bL b):=by unfold lt;rw[Sp];simp
theorem uc(a:ByteArray):lt a a=false:=by
 rw[←Bool.not_eq_true,MS];exact List.lt_irrefl (bL a)
theorem rl{a b c:ByteArray}(h1:lt a b=true)(h2:lt b c=true):lt a c=true:=by
 rw[MS]at*;exact List.lt_trans h1 h2
theorem A5{a b:ByteArray}(h1:lt a b=false)(h2:lt b a=false):a=b:=by
 rw[←Bool.not_eq_true,MS]at*;exact Vb (List.le_antisymm (List.not_lt.mp h2) (List.not_lt.mp h1))
inductive Er|arg|range
def Er.code:Er→Int
 | .arg=>1
 | .range=>3
theorem Er.ne(e:Er):(e.code !=0)=true:=by cases e<;>rfl
abbrev X(α:Type):=Except Er α
def gC{α:Type}(d:α):X α→α×Int
 | .ok v=>(v,0)
 | .error e=>(d,e.code)
def eO:List aF→List aF→List (ByteArray×Int×Int)
 |[],[]=>[]
 |a::l,[]=>(a.aq,a.dq.toInt,0)::eO l []
 |[],b::r=>(b.aq,0,b.dq.toInt)::eO [] r
 |a::l,b::r=>if lt a.aq b.aq then(a.aq,a.dq.toInt,0)::eO l (b::r)else if lt b.aq a.aq then(b.aq,0,b.dq.toInt)::eO (a::l) r else(a.aq,a.dq.toInt,b.dq.toInt)::eO l r
termination_by l r=>l.length+r.length
def HA(k:Int)(l:List (ByteArray×Int×Int)):X aw:=
 if eE k&&l.all (fun t=>eE (t.2.1+t.2.2))then .ok ⟨Int64.ofInt k,l.filterMap fun t=>if t.2.1+t.2.2=0 then none else some ⟨t.1,Int64.ofInt (t.2.1+t.2.2)⟩⟩else .error .range
def iG(a b:aw):X aw:=if eK a&&eK b then HA (a.xK.toInt+b.xK.toInt) (eO a.xL b.xL)else .error .arg
def lH(a:aw)(c9:Int64):X aw:=
 if eK a then(if c9.toInt=0 then .ok ⟨0,[]⟩else if eE (a.xK.toInt*c9.toInt)&&a.xL.all (fun m=>eE (m.dq.toInt*c9.toInt))then .ok ⟨Int64.ofInt (a.xK.toInt*c9.toInt),a.xL.map fun m=>⟨m.aq,Int64.ofInt (m.dq.toInt*c9.toInt)⟩⟩else .error .range)else .error .arg
def kh:List ByteArray→ByteArray→List ByteArray
 |[],s=>[s]
 |x::l,s=>if lt s x then x::kh l s else s::x::l
def j5(l:List ByteArray)(s:ByteArray):List ByteArray:=if l.any (same · s)then l else(kh l.reverse s).reverse
def sM(ls:List aw):List ByteArray:=(ls.flatMap fun x=>x.xL.map (·.aq)).foldl j5 []
def iM:List aF→ByteArray→Int
 |[],_=>0
 |m::l,n=>if same m.aq n then m.dq.toInt else iM l n
def Ma(a b:aw):X aw:=if eK a&&eK b then HA (a.xK.toInt+b.xK.toInt) ((sM [a,b]).map fun n=>(n,iM a.xL n,iM b.xL n))else .error .arg
def mT(l:List ByteArray):Prop:=l.Pairwise fun a b=>lt a b=true
theorem PE:∀{l r:List ByteArray},mT l→mT r→(∀x,x∈l↔x∈r)→l=r
 |[],[],_,_,_=>rfl
 |[],b::r,_,_,h=>by have:=(h b).mpr (by simp);simp at this
 |a::l,[],_,_,h=>by have:=(h a).mp (by simp);simp at this
 |a::l,b::r,hl,hr,h=>by
  have Co:=List.pairwise_cons.mp hl;have sZ:=List.pairwise_cons.mp hr;have e:a=b:=by
   have h1:=(h a).mp (by simp);have h2:=(h b).mpr (by simp);simp only[agX]at h1 h2;rcases h1 with h1|h1
   ·exact h1
   ·rcases h2 with h2|h2
    ·exact h2.symm
    ·have:=rl (sZ.1 a h1) (Co.1 b h2);rw[uc]at this;simp at this
  subst e;rw[PE Co.2 sZ.2 fun x=> ?_];constructor
  ·intro hx;have:=(h x).mp (by simp [hx]);simp only[agX]at this;rcases this with e|e
   ·subst e;have:=Co.1 x hx;rw[uc]at this;simp at this
   ·exact e
  ·intro hx;have:=(h x).mpr (by simp [hx]);simp only[agX]at this;rcases this with e|e
   ·subst e;have:=sZ.1 x hx;rw[uc]at this;simp at this
   ·exact e
theorem JV:∀(l:List ByteArray)(s x:ByteArray),x∈kh l s↔x=s∨x∈l
 |[],s,x=>by simp [kh]
 |y::l,s,x=>by
  unfold kh;split
  ·simp only[agX,JV l s x];constructor<;>rintro(h|h|h)<;>simp [h]
  ·simp only[agX]
theorem Nq:∀(l:List ByteArray)(s:ByteArray),l.Pairwise (fun a b=>lt b a=true)→s ∉ l→(kh l s).Pairwise (fun a b=>lt b a=true)
 |[],s,_,_=>by simp [kh]
 |y::l,s,h,hs=>by
  have h1:=List.pairwise_cons.mp h;simp only[agX,not_or]at hs;unfold kh;split
  next aO=>
   refine List.pairwise_cons.mpr ⟨fun z hz=> ?_,Nq l s h1.2 hs.2⟩;rcases (JV l s z).mp hz with e|e
   ·subst e;exact aO
   ·exact h1.1 z e
  next aO=>
   have iF:lt y s=true:=by
    cases hc:lt y s with
    |true=>rfl
    |false=>exact absurd (A5 (by simpa using aO) hc) hs.1
   refine List.pairwise_cons.mpr ⟨fun z hz=> ?_,h⟩;simp only[agX]at hz;rcases hz with e|e
   ·subst e;exact iF
   ·exact rl (h1.1 z e) iF
theorem K9{l:List ByteArray}{s:ByteArray}:l.any (same · s)=true↔s∈l:=by
 rw[List.any_eq_true];constructor
 ·rintro⟨x,hx,h⟩;rw[wo]at h;exact h▸hx
 ·intro h;exact⟨s,h,wo.mpr rfl⟩
theorem acz(l:List ByteArray)(s x:ByteArray):x∈j5 l s↔x=s∨x∈l:=by
 unfold j5;split
 next h=>
  have:=K9.mp h;constructor
  ·exact Or.inr
  ·rintro(e|e)
   ·exact e▸this
   ·exact e
 next h=>simp [JV]
theorem WH(l:List ByteArray)(s:ByteArray)(h:mT l):mT (j5 l s):=by
 unfold j5;split
 ·exact h
 next hn=>
  unfold mT;rw[List.pairwise_reverse];refine Nq _ _ ?_ ?_
  ·rw[List.pairwise_reverse];exact h
  ·simpa [K9]using fun hm=>hn (K9.mpr hm)
theorem TR:∀(ns l:List ByteArray),mT l→mT (ns.foldl j5 l)∧∀x,x∈ns.foldl j5 l↔x∈ns∨x∈l
 |[],l,h=>⟨h,fun x=>by simp⟩
 |n::ns,l,h=>by
  obtain⟨h1,h2⟩:=TR ns (j5 l n) (WH l n h);refine⟨h1,fun x=> ?_⟩;rw[List.foldl_cons,h2 x,acz];simp only[agX];constructor
  ·rintro(h|h|h)<;>simp [h]
  ·rintro((h|h)|h)<;>simp [h]
theorem kO:∀(a b:List aF)(x:ByteArray),x∈(eO a b).map (·.1)↔x∈a.map (·.aq)∨x∈b.map (·.aq)
 |[],[],x=>by simp [eO]
 |a::l,[],x=>by
  have:=kO l [] x;rw[eO];simp only[agS,agX,this];simp
 |[],b::r,x=>by
  have:=kO [] r x;rw[eO];simp only[agS,agX,this];simp
 |a::l,b::r,x=>by
  rw[eO];split
  ·have:=kO l (b::r) x;simp only[agS,agX,this];exact⟨by rintro(h|h|h|h)<;>simp [h],by rintro((h|h)|h|h)<;>simp [h]⟩
  ·split
   ·have:=kO (a::l) r x;simp only[agS,agX,this];exact⟨by rintro(h|(h|h)|h)<;>simp [h],by rintro((h|h)|h|h)<;>simp [h]⟩
   next h1 h2=>
    have e:=A5 (by simpa using h1) (by simpa using h2);have:=kO l r x;simp only[agS,agX,this,e];exact⟨by rintro(h|h|h)<;>simp [h],by rintro((h|h)|h|h)<;>simp [h]⟩
termination_by a b=>a.length+b.length
def l4(l:List aF):Prop:=mT (l.map (·.aq))
theorem l4.tail{m:aF}{l:List aF}(h:l4 (m::l)):l4 l:=(List.pairwise_cons.mp h).2
theorem l4.head{m:aF}{l:List aF}(h:l4 (m::l)):∀x∈l.map (·.aq),lt m.aq x=true:=(List.pairwise_cons.mp h).1
theorem zF:∀(a b:List aF),l4 a→l4 b→mT ((eO a b).map (·.1))
 |[],[],_,_=>by simp [eO,mT]
 |a::l,[],ha,hb=>by
  rw[eO];refine List.pairwise_cons.mpr ⟨fun x hx=> ?_,zF l [] ha.tail hb⟩;rcases (kO l [] x).mp hx with h|h
  ·exact ha.head x h
  ·simp at h
 |[],b::r,ha,hb=>by
  rw[eO];refine List.pairwise_cons.mpr ⟨fun x hx=> ?_,zF [] r ha hb.tail⟩;rcases (kO [] r x).mp hx with h|h
  ·simp at h
  ·exact hb.head x h
 |a::l,b::r,ha,hb=>by
  rw[eO];split
  next h1=>
   refine List.pairwise_cons.mpr ⟨fun x hx=> ?_,zF l (b::r) ha.tail hb⟩;rcases (kO l (b::r) x).mp hx with h|h
   ·exact ha.head x h
   ·simp only[agS,agX]at h;rcases h with h|h
    ·subst h;exact h1
    ·exact rl h1 (hb.head x h)
  next h1=>
   split
   next h2=>
    refine List.pairwise_cons.mpr ⟨fun x hx=> ?_,zF (a::l) r ha hb.tail⟩;rcases (kO (a::l) r x).mp hx with h|h
    ·simp only[agS,agX]at h;rcases h with h|h
     ·subst h;exact h2
     ·exact rl h2 (ha.head x h)
    ·exact hb.head x h
   next h2=>
    have e:=A5 (by simpa using h1) (by simpa using h2);refine List.pairwise_cons.mpr ⟨fun x hx=> ?_,zF l r ha.tail hb.tail⟩;rcases (kO l r x).mp hx with h|h
    ·exact ha.head x h
    ·show lt a.aq x=true;rw[e];exact hb.head x h
termination_by a b=>a.length+b.length
theorem KH:∀(l:List aF)(n:ByteArray),n ∉ l.map (·.aq)→iM l n=0
 |[],_,_=>rfl
 |m::l,n,h=>by
  simp only[agS,agX,not_or]at h;unfold iM;rw[if_neg (by rw[wo];exact fun e=>h.1 e.symm)];exact KH l n h.2
theorem zq{m:aF}{l:List aF}{n:ByteArray}(h:lt m.aq n=true):iM (m::l) n=iM l n:=by
 show(if same m.aq n then m.dq.toInt else iM l n)=_;rw[if_neg (by rw[wo];rintro rfl;rw[uc]at h;simp at h)]
theorem y7(m:aF)(l:List aF):iM (m::l) m.aq=m.dq.toInt:=by
 show(if same m.aq m.aq then m.dq.toInt else iM l m.aq)=_;rw[if_pos (wo.mpr rfl)]
theorem Nu{m:aF}{l:List aF}{n:ByteArray}(h:l4 (m::l))(hn:lt n m.aq=true):n ∉(m::l).map (·.aq):=by
 simp only[agS,agX,not_or];constructor
 ·rintro rfl;rw[uc]at hn;simp at hn
 ·intro hm;have:=rl hn (h.head n hm);rw[uc]at this;simp at this
theorem yU:∀(a b:List aF),l4 a→l4 b→eO a b=((eO a b).map (·.1)).map fun n=>(n,iM a n,iM b n)
 |[],[],_,_=>by simp [eO]
 |a::l,[],ha,hb=>by
  have ih:=yU l [] ha.tail hb;rw[eO,agS,agS,y7];refine congrArg _ (ih.trans ?_);rw[←ih];rw[List.map_map]
  conv=>lhs;rw[ih,List.map_map]
  refine agY fun t ht=> ?_;have hm:=List.mem_map_of_mem (f:=(·.1)) ht;rcases (kO l [] t.1).mp hm with h|h
  ·simp only[Function.comp_apply,zq (ha.head _ h)]
  ·simp at h
 |[],b::r,ha,hb=>by
  have ih:=yU [] r ha hb.tail;rw[eO,agS,agS,y7];refine congrArg _ (ih.trans ?_);rw[←ih];rw[List.map_map]
  conv=>lhs;rw[ih,List.map_map]
  refine agY fun t ht=> ?_;have hm:=List.mem_map_of_mem (f:=(·.1)) ht;rcases (kO [] r t.1).mp hm with h|h
  ·simp at h
  ·simp only[Function.comp_apply,zq (hb.head _ h)]
 |a::l,b::r,ha,hb=>by
  rw[eO];split
  next h1=>
   have ih:=yU l (b::r) ha.tail hb;rw[agS,agS,y7,KH (b::r) _ (Nu hb h1)];refine congrArg _ ?_
   conv=>lhs;rw[ih]
   refine agY fun n hn=> ?_;have:lt a.aq n=true:=by
    rcases (kO l (b::r) n).mp hn with h|h
    ·exact ha.head n h
    ·simp only[agS,agX]at h;rcases h with h|h
     ·subst h;exact h1
     ·exact rl h1 (hb.head n h)
   rw[zq this]
  next h1=>
   split
   next h2=>
    have ih:=yU (a::l) r ha hb.tail;rw[agS,agS,y7,KH (a::l) _ (Nu ha h2)];refine congrArg _ ?_
    conv=>lhs;rw[ih]
    refine agY fun n hn=> ?_;have:lt b.aq n=true:=by
     rcases (kO (a::l) r n).mp hn with h|h
     ·simp only[agS,agX]at h;rcases h with h|h
      ·subst h;exact h2
      ·exact rl h2 (ha.head n h)
     ·exact hb.head n h
    rw[zq this]
   next h2=>
    have e:=A5 (by simpa using h1) (by simpa using h2);have ih:=yU l r ha.tail hb.tail;rw[agS,agS,y7];rw[show iM (b::r) a.aq=b.dq.toInt from by rw[e];exact y7 b r];refine congrArg _ ?_
    conv=>lhs;rw[ih]
    refine agY fun n hn=> ?_;have:lt a.aq n=true:=by
     rcases (kO l r n).mp hn with h|h
     ·exact ha.head n h
     ·rw[e];exact hb.head n h
    rw[zq this,zq (show lt b.aq n=true from e▸this)]
termination_by a b=>a.length+b.length
theorem NX:∀(l:List aF)(p:Option ByteArray),oO p l=true→l4 l∧∀q,p=some q→∀x∈l.map (·.aq),lt q x=true
 |[],p,_=>⟨by simp [l4,mT],fun _ _ x hx=>by simp at hx⟩
 |m::l,p,h=>by
  rw[HU]at h;simp only[agv]at h;obtain⟨_,_,h3,h4⟩:=h;obtain⟨i1,i2⟩:=NX l (some m.aq) h4;refine⟨List.pairwise_cons.mpr ⟨i2 _ rfl,i1⟩,fun q hq x hx=> ?_⟩;subst hq;simp only[agS,agX]at hx;rcases hx with e|e
  ·subst e;exact h3
  ·exact rl h3 (i2 _ rfl x e)
theorem Q0{x:aw}(h:eK x=true):l4 x.xL:=(NX _ _ h).1
theorem aal(a b:aw):Ma a b=iG a b:=by
 unfold Ma iG;split
 next h=>
  simp only[agv]at h;have ha:=Q0 h.1;have hb:=Q0 h.2;obtain⟨f1,f2⟩:=TR ([a,b].flatMap fun x=>x.xL.map (·.aq)) [] (by simp [mT]);have hn:sM [a,b]=(eO a.xL b.xL).map (·.1):=PE f1 (zF _ _ ha hb) fun x=>by
   rw[kO];unfold sM;rw[f2 x];simp
  rw[hn,←yU _ _ ha hb]
 ·rfl
set_option linter.unusedSimpArgs false
def okLin(l:aw):Prop:=l.xL.length≤maxLen
structure M8(x:ay):Prop where
 iw:okLin x.aQ
 at_:∀l∈x.bw,okLin l
structure Av(e:ao):Prop where
 iw:okLin e.aQ
 idx:∀x∈e.xIdx,M8 x
 args:e.aT.length≤maxLen
def nj(e:ao):Prop:=∀x∈dN e,Av x
def vl(l:aw):Bool:=l.xK.toInt==0&&l.xL.length==0
def pg(x:ay):Bool:=bif bL x.bp==[]then x.bw.length==0 else vl x.aQ
def HE(v:gj):Bool:=v.xN.toInt==0&&v.xD.toInt==0
def F4(t:bB):Bool:=t.cA==0&&(t.cD==0&&(t.dg==0&&(t.de==0&&t.dc==0)))
def nP(e:ao):Bool:=decide (1≤e.bg)&&(decide (e.bg≤18)&&((e.bg==1||HE e.dK)&&((e.bg==1||(e.bg==12||F4 e.aB))&&((e.bg==2||vl e.aQ)&&((e.bg==3||(bL e.aq==[]&&e.xIdx.length==0))&&e.xIdx.all pg)))))
def qw(e:ao):Bool:=(!(e.bg==3)||gg e.aq)&&e.xIdx.all fun x=>bL x.bp==[]||gg x.bp
def ph(op:Int):Int:=bif op==1||(op==2||op==3)then 0 else bif op==8||(op==12||op==18)then 1 else bif op==11 then 3 else 2
def nU(e:ao):Bool:=(e.aT.length:Int)==ph e.bg&&(decide (e.xIdx.length≤6)&&e.xIdx.all fun x=>decide (x.bw.length≤6))
def qx(e:ao):Bool:=decide (13≤e.bg)&&decide (e.bg≤18)
def w6(op:Int)(i:Nat):Bool:=(op==11&&i==0)||(op==16||(op==17||op==18))
def Ai(op:Int):Nat→List ao→Bool
 |_,[]=>true
 |i,a::l=>qx a==w6 op i&&Ai op (i+1) l
def mS(e:ao):Bool:=(!(e.bg==1||e.bg==12)||iW e.aB)&&Ai e.bg 0 e.aT
def sX(e:ao):Bool:=(!(e.bg==1)||xB e.aB e.dK)&&(kd e).all eK
def mQ(e:ao):Int:=bif nP e then bif qw e then bif nU e then bif mS e then bif sX e then 0 else 1 else 10 else 11 else 7 else 5
theorem ru(n:Nat):((n:Int)==(0:Int))=(n==0):=xS n 0
theorem GF(n:Nat):decide ((n:Int)>(0:Int))= !(n==0):=by
 by_cases h:n=0
 ·subst h;rfl
 ·rw[aha (show(n:Int)>0 by omega),beq_false_of_ne h];rfl
theorem NI(N:Nat)(l:aw):yy N l=some (vl l):=by
 unfold yy vl;rw[iP,ags,ru]
theorem aa4(N:Nat)(x:ay):Bq N x=some (pg x):=by
 unfold Bq pg;rw[NI,ags,ru,o0];cases bL x.bp==[]<;>rfl
theorem LR{α:Type}(f:α→Bool)(l:List α):(l.any fun x=> !f x)= !l.all f:=by
 induction l with
 |nil=>rfl
 |cons x l ih=>rw[ahe,ahd,ih];cases f x<;>rfl
theorem Ph(N:Nat):∀(l:List ay)(k:Nat),∃z:Int,wT N l k=some z∧decide (z≥0)=l.any fun x=> !pg x
 |[],k=>⟨-1,rfl,rfl⟩
 |x::l,k=>by
  rw[wT,ahe];unfold Ft;rw[aa4,ags,ags];cases h: !pg x with
  |true=>exact⟨k,rfl,aha (by omega)⟩
  |false=>exact Ph N l (k+1)
theorem abT(N:Nat)(l:List ay):Dx N l=some (!l.all pg):=by
 unfold Dx HF;obtain⟨z,h1,h2⟩:=Ph N l 0;rw[h1,ags,h2,LR]
theorem Tt(v:gj):((v.xN.toInt==(0:Int64).toInt)&&((v.xD.toInt==(0:Int64).toInt)&&true))=HE v:=by rw[Bool.and_true];rfl
theorem SY(t:bB):((t.cA==(0:Int))&&((t.cD==(0:Int))&&((t.dg==(0:Int))&&((t.de==(0:Int))&&((t.dc==(0:Int))&&true)))))=F4 t:=by rw[Bool.and_true];rfl
theorem pM(a b:Bool):(bif a then some false else some b)=some (!a&&b):=by cases a<;>rfl
theorem SR(a b:Bool):(bif a then some b else some true)=some (!a||b):=by cases a<;>rfl
theorem V9(N:Nat)(e:ao):Dd N e=some (nP e):=by
 unfold Dd nP;simp only[GF];simp only[mJ,iP,pM,SR,ags,BV,Jg,NI,abT,Tt,SY,o0];cases decide (1≤e.bg)<;>cases decide (e.bg≤18)<;>cases e.bg==1<;>cases HE e.dK<;>cases e.bg==12<;>cases F4 e.aB<;>cases e.bg==2<;>cases vl e.aQ<;>cases e.bg==3<;>cases bL e.aq==[]<;>cases e.xIdx.length==0<;>cases e.xIdx.all pg<;>rfl
theorem Q5(N:Nat):∀(l:List ay)(k:Nat),wy N l k=some (l.all pg)
 |[],_=>rfl
 |x::l,k=>by
  rw[wy,ahd,Q5 N l (k+1)];unfold pg vl;simp only[mJ,ac3,iP,ags,GF,Eb,o0];cases bL x.bp==[]<;>cases x.bw.length==0<;>cases x.aQ.xK.toInt==0<;>cases x.aQ.xL.length==0<;>rfl
theorem aew(N:Nat)(e:ao):C7 N e=some (nP e):=by
 unfold C7 nP;simp only[GF];simp only[mJ,iP,pM,SR,ags,BV,Jg,Eb,Q5,Tt,SY,o0];unfold vl;cases decide (1≤e.bg)<;>cases decide (e.bg≤18)<;>cases e.bg==1<;>cases HE e.dK<;>cases e.bg==12<;>cases F4 e.aB<;>cases e.bg==2<;>cases e.aQ.xK.toInt==0<;>cases e.aQ.xL.length==0<;>cases e.bg==3<;>cases bL e.aq==[]<;>cases e.xIdx.length==0<;>cases e.xIdx.all pg<;>rfl
theorem ab9(N:Nat)(hN:16<N)(x:ay):CG N x=some (!(bL x.bp==[]||gg x.bp)):=by
 unfold CG;rw[E1 N _ hN,ags,pM,ags,o0];cases bL x.bp==[]<;>rfl
theorem Qq(N:Nat)(hN:16<N):∀(l:List ay)(k:Nat),∃z:Int,wH N l k=some z∧decide (z≥0)=l.any fun x=> !(bL x.bp==[]||gg x.bp)
 |[],k=>⟨-1,rfl,rfl⟩
 |x::l,k=>by
  rw[wH,ahe,ab9 N hN,ags];cases h: !(bL x.bp==[]||gg x.bp)with
  |true=>exact⟨k,rfl,aha (by omega)⟩
  |false=>exact Qq N hN l (k+1)
theorem ZJ(N:Nat)(hN:16<N)(e:ao):Ci N e=some (qw e):=by
 unfold Ci qw E9 Hw;obtain⟨z,h1,h2⟩:=Qq N hN e.xIdx 0;rw[E1 N _ hN,ags,h1];simp only[ags,h2,LR,iP,pM];cases e.bg==3<;>cases gg e.aq<;>cases (e.xIdx.all fun x=>bL x.bp==[]||gg x.bp)<;>rfl
theorem QO(N:Nat)(hN:16<N):∀(l:List ay)(k:Nat),uT N l k=some (l.all fun x=>bL x.bp==[]||gg x.bp)
 |[],_=>rfl
 |x::l,k=>by
  rw[uT,ahd,QO N hN l (k+1),EH N _ hN,ags,pM,ags,pM,o0];cases bL x.bp==[]<;>cases gg x.bp<;>rfl
theorem named_ref(N:Nat)(hN:16<N)(e:ao):BI N e=some (qw e):=by
 unfold BI qw;rw[EH N _ hN,ags,QO N hN];simp only[ags,iP,pM];cases e.bg==3<;>cases gg e.aq<;>rfl
theorem R4(N:Nat):∀(l:List ay)(k:Nat),∃z:Int,uJ N l k=some z∧decide (z≥0)=l.any fun x=> !decide (x.bw.length≤6)
 |[],k=>⟨-1,rfl,rfl⟩
 |x::l,k=>by
  rw[uJ,ahe];unfold F0;rw[ags,show decide ((x.bw.length:Int)>(6:Int))= !decide (x.bw.length≤6)from jP _ 6];cases h: !decide (x.bw.length≤6)with
  |true=>exact⟨k,rfl,aha (by omega)⟩
  |false=>exact R4 N l (k+1)
theorem ae5(N:Nat)(op:Int):C2 N op=some (ph op):=by
 unfold C2 yT Ac ph;cases op==1<;>cases op==2<;>cases op==3<;>cases op==8<;>cases op==12<;>cases op==18<;>cases op==11<;>rfl
theorem Wm(N:Nat)(op:Int):DH N op=some (ph op):=by
 unfold DH ya yF ph;cases op==1<;>cases op==2<;>cases op==3<;>cases op==8<;>cases op==12<;>cases op==18<;>cases op==11<;>rfl
theorem acJ(N:Nat)(e:ao):D9 N e=some (nU e):=by
 unfold D9 nU Gu HM;obtain⟨z,h1,h2⟩:=R4 N e.xIdx 0;rw[ae5,ags,h1,show decide ((e.xIdx.length:Int)>(6:Int))= !decide (e.xIdx.length≤6)from jP _ 6];simp only[ags,h2,LR,mJ,pM,Eb];cases (e.aT.length:Int)==ph e.bg<;>cases decide (e.xIdx.length≤6)<;>cases (e.xIdx.all fun x=>decide (x.bw.length≤6))<;>rfl
theorem Of(N:Nat):∀(l:List ay)(k:Nat),ui N l k=some (l.all fun x=>decide (x.bw.length≤6))
 |[],_=>rfl
 |x::l,k=>by
  rw[ui,ahd,Of N l (k+1),show decide ((x.bw.length:Int)>(6:Int))= !decide (x.bw.length≤6)from jP _ 6];cases decide (x.bw.length≤6)<;>rfl
theorem acD(N:Nat)(e:ao):CN N e=some (nU e):=by
 unfold CN nU;rw[Wm,ags,Of,show decide ((e.xIdx.length:Int)>(6:Int))= !decide (e.xIdx.length≤6)from jP _ 6];simp only[ags,mJ,pM,Eb];cases (e.aT.length:Int)==ph e.bg<;>cases decide (e.xIdx.length≤6)<;>rfl
theorem Qo(N:Nat)(e:ao):y4 N e=some (qx e):=by
 unfold y4 qx;rw[iP,ags]
theorem Lb(N:Nat)(e:ao):Ak N e=some (qx e):=by
 unfold Ak qx;rw[rh,iP,ags]
theorem acY(N:Nat)(op:Int)(i:Nat):Bf N op (i:Int)=some (w6 op i):=by
 unfold Bf y9 w6;rw[ru];cases op==16<;>cases op==17<;>cases op==18<;>cases op==11<;>cases i==0<;>rfl
theorem Vm(N:Nat)(op:Int)(i:Nat):AP N op (i:Int)=some (w6 op i):=by
 unfold AP w6;rw[ru];cases op==16<;>cases op==17<;>cases op==18<;>cases op==11<;>cases i==0<;>rfl
theorem SC(N:Nat)(e:ao):∀(l:List ao)(i:Nat),xH N e l i=some (Ai e.bg i l)
 |[],_=>rfl
 |a::l,i=>by
  rw[xH,Ai,Qo,ags,acY,ags,SC N e l (i+1)];cases qx a==w6 e.bg i<;>rfl
theorem UX(N:Nat)(e:ao):∀(l:List ao)(i:Nat),vp N e l i=some (Ai e.bg i l)
 |[],_=>rfl
 |a::l,i=>by
  rw[vp,Ai,Lb,ags,Vm,ags,UX N e l (i+1)];cases qx a==w6 e.bg i<;>rfl
theorem XE(b:Bool):((bif b then(0:Int)else 10) !=0)= !b:=by cases b<;>rfl
theorem aeZ(N:Nat)(e:ao):Ek N e=some (mS e):=by
 unfold Ek mS;rw[Hy,ags,SC];simp only[XE];cases e.bg==1<;>cases e.bg==12<;>cases iW e.aB<;>rfl
theorem Z6(N:Nat)(e:ao):Dm N e=some (mS e):=by
 unfold Dm mS;rw[MN,ags,UX];cases e.bg==1<;>cases e.bg==12<;>cases iW e.aB<;>rfl
theorem adJ(b:Bool):((bif b then(0:Int)else 1) !=0)= !b:=by cases b<;>rfl
theorem Qi(N:Nat)(hN:16<N):∀l:List aw,(∀x∈l,okLin x)→tO N l=some (bif l.all eK then 0 else 1)
 |[],_=>rfl
 |x::l,h=>by
  rw[tO,zx N hN x (h x agz),ags,adJ,Qi N hN l (fun y hy=>h y (agC _ hy)),ahd];cases eK x<;>rfl
theorem PI(N:Nat)(hN:16<N)(c:Bool):∀(l:List aw)(k:Nat),(∀x∈l,okLin x)→vz N (some c) l k=some (l.all eK&&c)
 |[],_,_=>rfl
 |x::l,k,h=>by
  rw[vz,Ed N hN x (h x agz),ags,PI N hN c l (k+1) (fun y hy=>h y (agC _ hy)),ahd];cases eK x<;>rfl
theorem Ss(N:Nat)(hN:16<N):∀(l:List ay)(k:Nat),(∀x∈l,M8 x)→rZ N l k=some ((l.flatMap pw).all eK)
 |[],_,_=>rfl
 |x::l,k,h=>by
  have hx:=h x agz;rw[rZ,Ed N hN _ hx.iw,ags,Ss N hN l (k+1) (fun y hy=>h y (agC _ hy)),PI N hN _ _ _ hx.at_,List.flatMap_cons,pw,List.cons_append,ahd,List.all_append];cases eK x.aQ<;>rfl
theorem ab2{e:ao}(h:Av e):∀x∈kd e,okLin x:=by
 intro x hx;unfold kd at hx;rcases agX.1 hx with rfl|hx
 ·exact h.iw
 ·obtain⟨y,hy,hx⟩:=List.mem_flatMap.1 hx;unfold pw at hx;rcases agX.1 hx with rfl|hx
  ·exact(h.idx y hy).iw
  ·exact(h.idx y hy).at_ x hx
theorem ad5(N:Nat)(hN:2147483648<N)(e:ao)(h:Av e)(ht:mS e=true):A9 N e=some (sX e):=by
 unfold A9 sX kd;rw[ahd,Ed N (by omega) _ h.iw,ags,Ss N (by omega) _ _ h.idx];cases h1:e.bg==1 with
 |true=>
  have BH:iW e.aB=true:=by
   unfold mS at ht;rw[h1]at ht;simp only[Bool.true_or,Bool.not_true,Bool.false_or,agv]at ht;exact ht.1
  rw[acT N hN _ _ BH,ags];cases xB e.aB e.dK<;>cases eK e.aQ<;>rfl
 |false=>cases eK e.aQ<;>rfl
theorem W9(N:Nat)(hN:2147483648<N)(e:ao)(h:Av e):C0 N e=some (mQ e):=by
 unfold C0 mQ;rw[V9,ags];cases nP e with
 |false=>rfl
 |true=>
  simp only[cond_true];rw[ZJ N (by omega),ags];cases qw e with
  |false=>rfl
  |true=>
   simp only[cond_true];rw[acJ,ags];cases nU e with
   |false=>rfl
   |true=>
    simp only[cond_true];rw[aeZ,ags];cases ht:mS e with
    |false=>rfl
    |true=>
     simp only[cond_true];have hf:tO N (kd e)=_:=Qi N (by omega) (kd e) (ab2 h);unfold sX Km;rw[ags,hf];cases h1:e.bg==1 with
     |true=>
      have BH:iW e.aB=true:=by
       unfold mS at ht;rw[h1]at ht;simp only[Bool.true_or,Bool.not_true,Bool.false_or,agv]at ht;exact ht.1
      rw[Y1 N hN _ _ BH,ags];cases xB e.aB e.dK<;>cases (kd e).all eK<;>rfl
     |false=>cases (kd e).all eK<;>rfl
theorem lk{e x:ao}(h:x∈e.aT):SizeOf.sizeOf x<SizeOf.sizeOf e:=by
 have h1:=List.sizeOf_lt_of_mem h;cases e
 simp only[ao.mk.sizeOf_spec]at*;omega
theorem Ap{e x y:ao}(h:x∈e.aT)(hy:y∈dN x):y∈dN e:=by
 have gen:∀l:List ao,x∈l→y∈jW l:=by
  intro l
  induction l with
  |nil=>intro h;cases h
  |cons z l ih=>
   intro h;rw[y5];rcases agX.1 h with rfl|h
   ·exact List.mem_append_left _ hy
   ·exact List.mem_append_right _ (ih h)
 exact agC _ (gen _ h)
theorem nj.node{e:ao}(h:nj e):Av e:=h e agz
theorem nj.arg{e x:ao}(h:nj e)(hx:x∈e.aT):nj x:=fun y hy=>h y (Ap hx hy)
def kj:List ao→Int
 |[]=>0
 |x::l=>bif mQ x !=0 then mQ x else kj l
theorem Tg:∀a b:List ao,kj (a++b)=bif kj a !=0 then kj a else kj b
 |[],_=>rfl
 |x::a,b=>by
  rw[List.cons_append,kj,kj,Tg a b];cases h:mQ x !=0 with
  |true=>simp only[cond_true,h]
  |false=>rfl
theorem NW(N:Nat)(hN:2147483648<N):∀l:List ao,(∀x∈l,Av x)→xv N l=some (kj l)
 |[],_=>rfl
 |x::l,h=>by
  rw[xv,W9 N hN x (h x agz),ags,NW N hN l (fun y hy=>h y (agC _ hy)),kj];cases mQ x !=0<;>rfl
theorem Ro(N:Nat)(rec:ao→Option Int):∀(l:List ao)(k:Nat),(∀x∈l,rec x=some (kj (dN x)))→vN N rec l k=some (kj (jW l))
 |[],_,_=>by rw[jW];rfl
 |x::l,k,h=>by
  rw[vN,h x agz,ags,Ro N rec l (k+1) (fun y hy=>h y (agC _ hy)),y5,Tg];cases kj (dN x) !=0<;>rfl
theorem R8(N:Nat)(hN:2147483648<N):∀(d:Nat)(e:ao),SizeOf.sizeOf e<d→nj e→qt N d e=some (kj (dN e))
 |0,_,h,_=>absurd h (agV _)
 |d+1,e,h,hk=>by
  rw[qt];have hl:=Ro N (qt N d) e.aT 0 fun x hx=>R8 N hN d x (by have:=lk hx;omega) (hk.arg hx);unfold dN;rw[kj];unfold mQ;rw[aew,ags];cases nP e with
  |false=>rfl
  |true=>
   simp only[cond_true];rw[named_ref N (by omega),ags];cases qw e with
   |false=>rfl
   |true=>
    simp only[cond_true];rw[acD,ags];cases nU e with
    |false=>rfl
    |true=>
     simp only[cond_true];rw[Z6,ags];cases ht:mS e with
     |false=>rfl
     |true=>
      simp only[cond_true];rw[ad5 N hN e hk.node ht,ags,hl];cases sX e<;>rfl
def iK:Nat→ao→Nat
 |0,_=>1
 |L+1,e=>e.aT.foldl (fun m a=>max m (1+iK L a)) 1
theorem Py{α:Type}(f:α→Nat)(b:Nat):∀(l:List α)(m:Nat),m≤b→(∀x∈l,f x≤b)→l.foldl (fun m a=>max m (f a)) m≤b
 |[],_,h,_=>h
 |x::l,_,h,hl=>Py f b l _ (Nat.max_le.2 ⟨h,hl x agz⟩) fun y hy=>hl y (agC _ hy)
theorem Ms:∀(L:Nat)(e:ao),iK L e≤L+1
 |0,_=>agE _
 |L+1,e=>Py (fun a=>1+iK L a) (L+2) e.aT 1 (by omega) fun x _=>by have:=Ms L x;show 1+iK L x≤L+2;omega
theorem tU{z:Int}(h1: -9223372036854775808≤z)(h2:z<9223372036854775808):a7 z=z:=by
 unfold a7;rw[IntKind.wrap_i64];omega
theorem GD(a b:Nat):(if((a:Nat):Int)>((b:Nat):Int)then((a:Nat):Int)else(b:Int))=((max b a:Nat):Int):=by
 split<;>omega
theorem TA(N:Nat)(rec:ao→Int→Option Int)(L:Nat)(hL:L≤100):∀(l:List ao)(k m:Nat),(∀x∈l,rec x ((L:Int)+1)=some ((iK L x:Nat):Int))→uW N rec ((L:Int)+1+1) l k (m:Int)=some ((l.foldl (fun m a=>max m (1+iK L a)) m:Nat):Int)
 |[],_,_,_=>rfl
 |x::l,k,m,h=>by
  have h1:=Ms L x;rw[uW,tU (by omega) (by omega),show(L:Int)+1+1-1=(L:Int)+1 by omega,h x agz,ags];rw[tU (by omega) (by omega),show(1:Int)+((iK L x:Nat):Int)=((1+iK L x:Nat):Int) by omega,GD];exact TA N rec L hL l (k+1) _ fun y hy=>h y (agC _ hy)
theorem So(N:Nat):∀(L d:Nat)(e:ao),L<d→L≤100→nr N d e ((L:Int)+1)=some ((iK L e:Nat):Int)
 |L,0,_,h,_=>absurd h (agV _)
 |0,d+1,e,_,_=>by rw[nr];rfl
 |L+1,d+1,e,h,hL=>by
  rw[nr,ahb (by omega)];simp only[cond_false];exact TA N (nr N d) L (by omega) e.aT 0 1 fun x _=>So N L d x (by omega) (by omega)
theorem Tq(N:Nat)(rec:ao→Int→Option Int)(L:Nat)(hL:L≤100):∀(l:List ao)(k m:Nat),(∀x∈l,rec x ((L:Int)+1)=some ((iK L x:Nat):Int))→pQ N ((L:Int)+1+1) rec l k (m:Int)=some ((l.foldl (fun m a=>max m (1+iK L a)) m:Nat):Int)
 |[],_,_,_=>rfl
 |x::l,k,m,h=>by
  have h1:=Ms L x;rw[pQ,aha (show(L:Int)+1+1>1 by omega)];simp only[cond_true];rw[tU (by omega) (by omega),show(L:Int)+1+1-1=(L:Int)+1 by omega,h x agz,ags];rw[tU (by omega) (by omega),show(1:Int)+((iK L x:Nat):Int)=((1+iK L x:Nat):Int) by omega,GD];exact Tq N rec L hL l (k+1) _ fun y hy=>h y (agC _ hy)
theorem Zd(N:Nat)(rec:ao→Int→Option Int):∀l:List ao,pQ N 1 rec l 0 1=some 1
 |[]=>rfl
 |x::l=>by rw[pQ];rfl
theorem M1(N:Nat):∀(L d:Nat)(e:ao),L<d→L≤100→ng N d e ((L:Int)+1)=some ((iK L e:Nat):Int)
 |L,0,_,h,_=>absurd h (agV _)
 |0,d+1,e,_,_=>by rw[ng];exact Zd N _ _
 |L+1,d+1,e,h,hL=>by
  rw[ng];exact Tq N (ng N d) L (by omega) e.aT 0 1 fun x _=>M1 N L d x (by omega) (by omega)
theorem T7(N:Nat):∀(l:List ao)(v:Nat),v≤2000→sm N l (v:Int)=some ((min (v+l.length) 2001:Nat):Int)
 |[],v,h=>by rw[sm];congr 2;simp only[agF];omega
 |x::l,v,h=>by
  rw[sm,tU (by omega) (by omega)];by_cases h2:v+1>2000
  ·rw[aha (by omega)];simp only[cond_true]
   congr 1
   simp only[agw];omega
  ·rw[ahb (by omega)];simp only[cond_false];rw[show(v:Int)+1=((v+1:Nat):Int) by omega,T7 N l (v+1) (by omega)]
   congr 3
   simp only[agw];omega
theorem W0(N:Nat)(e:ao):Bg N e=some ((min (dN e).length 2001:Nat):Int):=by
 unfold Bg yk;have:=T7 N (dN e) 0 (by omega);rw[agN]at this;exact this
theorem Qd(N:Nat)(rec:ao→Int→Option Int)(m:Nat)(hm:m≤4000):∀(l:List ao)(k n:Nat),n≤m+1→(∀x∈l,∀q:Nat,q≤m→rec x (q:Int)=some ((min (dN x).length (q+1):Nat):Int))→sG N (m:Int) rec l k (n:Int)=some ((min (n+(jW l).length) (m+1):Nat):Int)
 |[],k,n,hn,_=>by rw[sG,jW];congr 2;simp only[agF];omega
 |x::l,k,n,hn,h=>by
  rw[sG];by_cases h2:n≤m
  ·rw[aha (by omega)];simp only[cond_true];rw[tU (by omega) (by omega),show(m:Int)-(n:Int)=((m-n:Nat):Int) by omega,h x agz (m-n) (by omega),ags];rw[tU (by omega) (by omega),show(n:Int)+((min (dN x).length (m-n+1):Nat):Int)=((n+min (dN x).length (m-n+1):Nat):Int) by omega];rw[Qd N rec m hm l (k+1) _ (by omega) fun y hy=>h y (agC _ hy),y5,agu]
   congr 2
   omega
  ·rw[ahb (by omega)];simp only[cond_false]
   congr 1
   omega
theorem Ns(N:Nat):∀(d:Nat)(e:ao)(m:Nat),SizeOf.sizeOf e<d→m≤4000→pf N d e (m:Int)=some ((min (dN e).length (m+1):Nat):Int)
 |0,_,_,h,_=>absurd h (agV _)
 |d+1,e,m,h,hm=>by
  rw[pf];have:=Qd N (pf N d) m hm e.aT 0 1 (by omega) fun x hx q hq=>Ns N d x q (by have:=lk hx;omega) (by omega);rw[show((1:Nat):Int)=1 from rfl]at this;rw[this]
  congr 2
  unfold dN;simp only[agw];omega
def mU(e:ao):Int:=bif decide (40<iK 40 e)then 13 else bif decide (2000<(dN e).length)then 2 else kj (dN e)
theorem Vs(N:Nat)(hN:2147483648<N)(e:ao)(h:nj e):Ce N e=some (mU e):=by
 unfold Ce Hr Lr mU;have hd:nr N N e 41=_:=So N 40 N e (by omega) (by omega);rw[hd,ags,ags,W0,ags];rw[n3 (p:=((iK 40 e:Nat):Int)>40) (q:=40<iK 40 e) (by omega),n3 (p:=((min (dN e).length 2001:Nat):Int)>2000) (q:=2000<(dN e).length) (by omega)];cases decide (40<iK 40 e)<;>cases decide (2000<(dN e).length)<;>try rfl
 simp only[cond_false];exact NW N hN (dN e) h
theorem ZI(N:Nat)(hN:2147483648<N)(e:ao)(hs:SizeOf.sizeOf e<N)(h:nj e):ye N e=some (mU e):=by
 unfold ye EC I3 FI JD Kb mU;have hd:ng N N e 41=_:=M1 N 40 N e (by omega) (by omega);have hz:pf N N e 2000=_:=Ns N N e 2000 hs (by omega);rw[hd,ags,ags,hz,ags,ags,R8 N hN N e hs h,ags];rw[n3 (p:=((iK 40 e:Nat):Int)>40) (q:=40<iK 40 e) (by omega)];rw[show(if(2001:Int)<((min (dN e).length 2001:Nat):Int)then(2001:Int)else((min (dN e).length 2001:Nat):Int))=((min (dN e).length 2001:Nat):Int) by split<;>omega];rw[n3 (p:=((min (dN e).length 2001:Nat):Int)>2000) (q:=2000<(dN e).length) (by omega)];cases decide (40<iK 40 e)<;>cases decide (2000<(dN e).length)<;>rfl
set_option linter.unusedVariables false
def dn(l:List ByteArray)(s:ByteArray):Bool:=l.any fun w=>bL w==bL s
theorem DO(N:Nat)(l:List ByteArray)(s:ByteArray):oQ N l s=some (dn l s):=MR N s l 0
theorem kp(a b:List ByteArray)(s:ByteArray):dn (a++b) s=(dn a s||dn b s):=List.any_append
theorem My{s x:ByteArray}(h:(bL s==bL x)=true)(l:List ByteArray):dn l x=dn l s:=by
 unfold dn;rw[beq_iff_eq.1 h]
theorem AD(s x:ByteArray):dn [s] x=(bL s==bL x):=by unfold dn;rw[ahe,List.any_nil,Bool.or_false]
theorem TI(N:Nat)(l:List ByteArray)(s:ByteArray):sh N l s=some (dn l s):=by
 unfold sh Dr;obtain⟨z,h1,h2⟩:=KU N s l 0;rw[h1,ags,h2];rfl
def iZ(t:List ByteArray)(s:ByteArray):Int:=bif gg s then bif dn t s then 8 else 0 else 7
theorem Gf(N:Nat)(hN:16<N)(s:ByteArray)(t:List ByteArray):rI N s t=some (iZ t s):=by
 unfold rI iZ;rw[EH N s hN,ags,DO,ags];cases gg s<;>cases dn t s<;>rfl
theorem He{t:List ByteArray}{s:ByteArray}(h:iZ t s=0):gg s=true∧dn t s=false:=by
 unfold iZ at h;cases h1:gg s<;>cases h2:dn t s<;>rw[h1,h2]at h<;>first|exact⟨rfl,rfl⟩|(exact absurd h (by decide))
structure KN(m:List (ByteArray×Int))(S T:List ByteArray):Prop where
 val:∀s,gF m s 0=bif dn S s then 1 else bif dn T s then 2 else 0
 len:m.length≤S.length+T.length
 Qe:∀s,dn T s=true→dn S s=false
section
variable {m:List (ByteArray×Int)} {S T:List ByteArray}
theorem KN.ne0(h:KN m S T)(s:ByteArray):(gF m s 0 !=0)=dn (S++T) s:=by
 rw[h.val,kp];cases dn S s<;>cases dn T s<;>rfl
theorem KN.ne1(h:KN m S T)(s:ByteArray):(gF m s 0 !=1)= !dn S s:=by
 rw[h.val];cases dn S s<;>cases dn T s<;>rfl
theorem KN.El(h:KN m S T)(s:ByteArray):(gF m s 0==1)=dn S s:=by
 rw[h.val];cases dn S s<;>cases dn T s<;>rfl
theorem KN.ne2(h:KN m S T)(s:ByteArray):(gF m s 0 !=2)= !dn T s:=by
 have:=h.Qe s;rw[h.val];cases e1:dn S s<;>cases e2:dn T s<;>first|rfl|(rw[e1]at this;exact absurd (this e2) (by decide))
theorem Gw{V:Type}(k:ByteArray)(v:V)(m:List (ByteArray×V))(s:ByteArray)(d:V):gF ((k,v)::m) s d=bif bL k==bL s then v else gF m s d:=rfl
theorem KN.OH(h:KN m S T){s:ByteArray}(hs:dn (S++T) s=false):KN ((s,2)::m) S (T++[s]):=by
 rw[kp,ahg]at hs;refine⟨fun x=> ?_,by have:=h.len;simp only[agw,agu,agF];omega,fun x hx=> ?_⟩
 rotate_left
 ·rw[kp,AD]at hx;cases e:bL s==bL x with
  |true=>rw[My e];exact hs.1
  |false=>rw[e,Bool.or_false]at hx;exact h.Qe x hx
 rw[Gw,h.val,kp,AD];cases e:bL s==bL x with
 |true=>rw[My e,hs.1];cases dn T x<;>rfl
 |false=>cases dn S x<;>cases dn T x<;>rfl
theorem KN.wD(h:KN m S [])(s:ByteArray):KN ((s,1)::m) (S++[s]) []:=by
 refine⟨fun x=> ?_,by have:=h.len;simp only[agw,agu,agF]at*;omega,fun x hx=>by cases hx⟩;rw[Gw,h.val,kp,AD];cases e:bL s==bL x<;>cases dn S x<;>rfl
theorem KN.nil:KN [] [] []:=⟨fun _=>rfl,agE _,fun _ h=>by cases h⟩
theorem IS(N:Nat)(hN:16<N)(s:ByteArray)(k:Int)(p:aY)(h:KN m S T)(hl:S.length+T.length<9223372036854775807):
 wu N s k p m=some (iZ (S++T) s,bif iZ (S++T) s==0 then(s,k)::m else m):=by
 unfold wu iZ;rw[E1 N s hN,ags,h.ne0,show Nat.blt m.length 9223372036854775807=true from Nat.ble_eq_true_of_le (by have:=h.len;omega)];cases gg s<;>cases dn (S++T) s<;>rfl
def vJ(V:List ByteArray)(l:aw):Bool:=l.xL.all fun m=>dn V m.aq
def ik(S:List ByteArray)(l:aw):Int:=bif eK l then bif vJ S l then 0 else 9 else 1
theorem Tp(N:Nat)(h:KN m S T):∀(l:List aF)(k:Nat),xd N m l k=some (bif l.all (fun m=>dn S m.aq)then 0 else 9)
 |[],_=>rfl
 |x::l,k=>by
  rw[xd,h.ne1,ahd,Tp N h l];cases dn S x.aq<;>rfl
theorem MC(N:Nat)(hN:16<N)(l:aw)(p:aY)(hl:okLin l)(h:KN m S T):ug N l p m=some (ik S l):=by
 unfold ug ik;rw[zx N hN l hl,ags,Tp N h];cases eK l<;>rfl
theorem OU(N:Nat)(V W:List ByteArray):∀(l:List aF)(k:Nat),uz N V W l k=some (l.all fun m=>dn (V++W) m.aq)
 |[],_=>rfl
 |x::l,k=>by
  rw[uz,DO,DO,ahd,OU N V W l,kp];cases dn V x.aq<;>cases dn W x.aq<;>rfl
theorem Mg(N:Nat)(V W:List ByteArray)(l:aw):y8 N l V W=some (vJ (V++W) l):=OU N V W l.xL 0
theorem J0(N:Nat)(hN:16<N)(l:aw)(hl:okLin l)(S:List ByteArray):wZ N l S=some (ik S l):=by
 unfold wZ ik;rw[Ed N hN l hl,ags,Mg,ags];rw[List.nil_append];cases eK l<;>cases vJ S l<;>rfl
theorem Cf(n:Nat):decide ((n:Int)>(6:Int))= !decide (n≤6):=jP n 6
theorem aa5(N:Nat)(t:bB)(n:Nat):tN N t [(n:Int)]=some (bif iW t then bif decide (n≤6)then 0 else 11 else 10):=by
 unfold tN;rw[Hy,ags,show Ep N [(n:Int)]=some (n:Int)from rfl,ags,Cf];cases iW t<;>cases decide (n≤6)<;>rfl
theorem aek(N:Nat)(t:bB)(n k:Nat):tN N t [(n:Int),(k:Int)]=some (bif iW t then bif decide (n≤6)&&decide (k≤6)then 0 else 11 else 10):=by
 unfold tN;rw[Hy,ags,show Ep N [(n:Int),(k:Int)]=some (if(k:Int)>(n:Int)then(k:Int)else(n:Int))from rfl,ags,GD,Cf];have:decide (max n k≤6)=(decide (n≤6)&&decide (k≤6)):=by
  rw[Bool.eq_iff_iff,agv,decide_eq_true_iff,decide_eq_true_iff,decide_eq_true_iff];omega
 rw[this];cases iW t<;>cases (decide (n≤6)&&decide (k≤6))<;>rfl
def gv{α:Type}(f:α→Int):List α→Int
 |[]=>0
 |x::l=>bif f x !=0 then f x else gv f l
def zj(S T:List ByteArray)(x:cq):Int:=bif iZ (S++T) x.aq !=0 then iZ (S++T) x.aq else bif iW x.aB then bif decide (x.aJ.length≤6)then gv (ik S) x.aJ else 11 else 10
theorem Ut(N:Nat)(hN:16<N)(p:aY)(q:Int×List (ByteArray×Int))(h:KN q.2 S T):∀(l:List aw)(k:Nat),(∀x∈l,okLin x)→vY N q p l k=some (gv (ik S) l,q.2)
 |[],_,_=>rfl
 |x::l,k,hx=>by
  rw[vY,MC N hN x p (hx x agz) h,ags,gv];cases ik S x !=0 with
  |true=>rfl
  |false=>exact Ut N hN p q h l (k+1) fun y hy=>hx y (agC _ hy)
theorem jy{a:Int}(h:(a !=0)=false):a=0:=by
 rw[bne_eq_false_iff_eq]at h;exact h
theorem acG(N:Nat)(hN:16<N)(x:cq)(p:aY)(hx:∀y∈x.aJ,okLin y)(h:KN m S T)(hl:S.length+T.length<9223372036854775807):
 ∃m',CI N x p m=some (zj S T x,m')∧(zj S T x=0→KN m' S (T++[x.aq])):=by
 unfold CI zj;rw[IS N hN x.aq 2 p h hl,ags,aa5];simp only[];cases e:iZ (S++T) x.aq !=0 with
 |true=>exact⟨_,rfl,fun h0=>by rw[cond_true]at h0;rw[h0]at e;cases e⟩
 |false=>
  have e0:=jy e;have k:=h.OH (He e0).2;rw[e0];simp only[ahc,cond_true,cond_false];cases iW x.aB with
  |false=>exact⟨_,rfl,fun h0=>by cases h0⟩
  |true=>
   cases decide (x.aJ.length≤6)with
   |false=>exact⟨_,rfl,fun h0=>by cases h0⟩
   |true=>exact⟨_,Ut N hN p (0,(x.aq,2)::m) k x.aJ 0 hx,fun _=>k⟩
theorem Oh(N:Nat)(hN:16<N)(S:List ByteArray):∀(l:List aw)(k:Nat),(∀x∈l,okLin x)→wN N S l k=some (gv (ik S) l)
 |[],_,_=>rfl
 |x::l,k,hx=>by
  rw[wN,J0 N hN x (hx x agz),ags,gv];cases ik S x !=0 with
  |true=>rfl
  |false=>exact Oh N hN S l (k+1) fun y hy=>hx y (agC _ hy)
theorem aaX(N:Nat)(hN:16<N)(x:cq)(S T:List ByteArray)(hx:∀y∈x.aJ,okLin y):B6 N x S (S++T)=some (zj S T x):=by
 unfold B6 zj;rw[Gf N hN,ags,MN,ags,Cf,Oh N hN S _ _ hx];cases iZ (S++T) x.aq !=0<;>cases iW x.aB<;>cases decide (x.aJ.length≤6)<;>rfl
def n6(S:List ByteArray):List ByteArray→List bk→Int
 |_,[]=>0
 |O,a::l=>bif iZ (S++O) a.aq !=0 then iZ (S++O) a.aq else bif ik S a.dS !=0 then ik S a.dS else n6 S (O++[a.aq]) l
structure ON(w:List (ByteArray×Bool))(O:List ByteArray):Prop where
 val:∀s,gF w s false=dn O s
 len:w.length≤O.length
theorem ON.add{w:List (ByteArray×Bool)}{O:List ByteArray}(h:ON w O)(s:ByteArray):ON ((s,true)::w) (O++[s]):=by
 refine⟨fun x=> ?_,by have:=h.len;simp only[agw,agu,agF];omega⟩;rw[Gw,h.val,kp,AD];cases bL s==bL x<;>cases dn O x<;>rfl
theorem Pt(N:Nat)(hN:16<N)(p:aY)(h:KN m S T):∀(l:List bk)(k:Nat)(w:List (ByteArray×Bool))(O:List ByteArray),ON w O→(∀x∈l,okLin x.dS)→O.length+l.length<9223372036854775807→
 vZ N m p l k w=some (n6 S O l)
 |[],_,_,_,_,_,_=>rfl
 |a::l,k,w,O,hw,hx,hl=>by
  have nv:O.length+l.length+1<9223372036854775807:=by simp only[agw]at hl;omega
  rw[vZ,E1 N _ hN,ags,hw.val,h.El,MC N hN _ p (hx a agz) h,ags,n6,
    show Nat.blt w.length 9223372036854775807=true from Nat.ble_eq_true_of_le (by have:=hw.len;omega)]
  have ih:=Pt N hN p h l (k+1) _ _ (hw.add a.aq) (fun y hy=>hx y (agC _ hy)) (by simp only[agu,agw,agF];omega);unfold iZ;dsimp only;rw[kp,ih];cases gg a.aq<;>cases dn S a.aq<;>cases dn O a.aq<;>first|rfl|(cases ik S a.dS !=0<;>rfl)
theorem Po(N:Nat)(hN:16<N)(S:List ByteArray):∀(l:List bk)(k:Nat)(O:List ByteArray),(∀x∈l,okLin x.dS)→S.length+O.length+l.length<1000000000→
 uH N S l k (S++O)=some (n6 S O l)
 |[],_,_,_,_=>rfl
 |a::l,k,O,hx,hl=>by
  have nv:S.length+O.length+l.length+1<1000000000:=by simp only[agw]at hl;omega
  rw[uH,Gf N hN,ags,J0 N hN _ (hx a agz),ags,n6,
    show Nat.ble (((S++O).length+1)*16) 140737488355328=true from Nat.ble_eq_true_of_le (by rw[agu];omega)]
  have ih:=Po N hN S l (k+1) (O++[a.aq]) (fun y hy=>hx y (agC _ hy)) (by simp only[agu,agw,agF];omega);rw[←agK]at ih;dsimp only;rw[ih];cases iZ (S++O) a.aq !=0<;>cases ik S a.dS !=0<;>rfl
theorem Zy(N:Nat)(hN:16<N)(S:List ByteArray)(l:List bk)(hx:∀x∈l,okLin x.dS)(hl:S.length+l.length<1000000000):Cg N l S=some (n6 S [] l):=by
 unfold Cg;have:=Po N hN S l 0 [] hx (by simp only[agF];omega);rw[agO]at this;rw[this,show Nat.ble ((0+S.length)*16) 140737488355328=true from Nat.ble_eq_true_of_le (by omega)];rfl
theorem yv{n:Nat}(h:n≤9223372036854775807):a7 (n:Int)=(n:Int):=tU (by omega) (by omega)
theorem O3(N:Nat)(a b:List bk)(h:a.length+b.length<1000000000):zK N [a,b]=some (a++b):=by
 unfold zK;rw[tX,show a7 ((0:Int)+(a.length:Int))=((a.length:Nat):Int) by rw[Int.zero_add,yv (by omega)],show decide ((a.length:Int)<0)=false from ahb (by omega)];simp only[cond_false];rw[tX,show a7 ((a.length:Int)+(b.length:Int))=((a.length+b.length:Nat):Int) by rw[←Int.natCast_add,yv (by omega)],show decide (((a.length+b.length:Nat):Int)<0)=false from ahb (by omega)];simp only[cond_false];rw[tX];unfold JA;rw[show decide ((0:Int)≤((a.length+b.length:Nat):Int))=true from aha (by omega),agU,show Nat.ble ((a.length+b.length)*48) 140737488355328=true from Nat.ble_eq_true_of_le (by omega)];simp only[Bool.and_self,cond_true,ags];rw[xP];rw[show Nat.ble ((([]:List bk).length+a.length)*48) 140737488355328=true from Nat.ble_eq_true_of_le (by simp only[agF];omega)];simp only[cond_true,List.nil_append];rw[xP];rw[show Nat.ble ((a.length+b.length)*48) 140737488355328=true from Nat.ble_eq_true_of_le (by omega)];rfl
theorem X2(N:Nat)(hN:16<N)(d:aL)(p:aY)(h:KN m S T)(hx:∀x∈d.aJ++d.bG,okLin x.dS)(hl:d.aJ.length+d.bG.length<1000000000):
 Ec N d p m=some (n6 S [] (d.aJ++d.bG)):=by
 unfold Ec;rw[O3 N _ _ hl,ags];exact Pt N hN p h _ 0 [] [] ⟨fun _=>rfl,agE _⟩ hx (by simp only[agu,agF];omega)
end
def D8(d:aL):Int:=bif d.cP==0 then bif d.bG.length==0 then 0 else 11 else bif decide (1≤d.cP)&&decide (d.cP≤4)then bif d.bG.length==0 then 11 else 0 else bif d.cP==5 then bif d.bG.length==0&& !(d.aJ.length==0)then 0 else 11 else 1
theorem QA(f:Int):f=0∨f=1∨f=2∨f=3∨f=4∨f=5∨(f<0∨5<f):=by omega
theorem adF(N:Nat)(d:aL):DP N d=some (D8 d):=by
 unfold DP D8 uj;rw[GF,ru,ru];rcases QA d.cP with h|h|h|h|h|h|h
 ·rw[h];cases d.bG.length==0<;>rfl
 ·rw[h];cases d.bG.length==0<;>rfl
 ·rw[h];cases d.bG.length==0<;>rfl
 ·rw[h];cases d.bG.length==0<;>rfl
 ·rw[h];cases d.bG.length==0<;>rfl
 ·rw[h];cases d.bG.length==0<;>cases d.aJ.length==0<;>rfl
 ·have e:∀k:Int,0≤k→k≤5→(d.cP==k)=false:=fun k h1 h2=>beq_eq_false_iff_ne.2 (by omega);have e2:(decide (1≤d.cP)&&decide (d.cP≤4))=false:=by
   rw[Bool.and_eq_false_iff,decide_eq_false_iff_not,decide_eq_false_iff_not];omega
  rw[e 0 (by decide) (by decide),e 1 (by decide) (by decide),e 2 (by decide) (by decide),e 3 (by decide) (by decide),e 4 (by decide) (by decide),e 5 (by decide) (by decide),e2];rfl
theorem adU(N:Nat)(d:aL):DB N d=some (D8 d):=by
 unfold DB D8;rw[ru,ru];rcases QA d.cP with h|h|h|h|h|h|h
 ·rw[h];cases d.bG.length==0<;>rfl
 ·rw[h];cases d.bG.length==0<;>rfl
 ·rw[h];cases d.bG.length==0<;>rfl
 ·rw[h];cases d.bG.length==0<;>rfl
 ·rw[h];cases d.bG.length==0<;>rfl
 ·rw[h];cases d.bG.length==0<;>cases d.aJ.length==0<;>rfl
 ·have e:∀k:Int,0≤k→k≤5→(d.cP==k)=false:=fun k h1 h2=>beq_eq_false_iff_ne.2 (by omega);have e2:(decide (1≤d.cP)&&decide (d.cP≤4))=false:=by
   rw[Bool.and_eq_false_iff,decide_eq_false_iff_not,decide_eq_false_iff_not];omega
  have e3:(bif decide (d.cP<0)then some true else some (decide (d.cP>5)))=some true:=by
   rcases h with h|h
   ·rw[aha h];rfl
   ·rw[show decide (d.cP>5)=true from aha h];cases decide (d.cP<0)<;>rfl
  rw[e3,e 0 (by decide) (by decide),e 5 (by decide) (by decide),e2];rfl
def gX(B:Nat)(l:aw):Prop:=l.xL.length≤B
theorem gX.ok{l:aw}(h:gX 1000000000 l):okLin l:=agL h (by decide)
theorem eP{n k:Nat}(h:n≤k):Nat.ble n k=true:=Nat.ble_eq_true_of_le h
theorem SM(N:Nat):∀(l:List bk)(k:Nat)(acc:List ByteArray),acc.length+l.length≤1000000000→rF N l k acc=some (acc++l.map (·.aq))
 |[],_,acc,_=>by rw[rF,List.map_nil,agO]
 |a::l,k,acc,h=>by
  simp only[agw]at h;rw[rF,eP (by omega),cond_true];dsimp only;rw[SM N l (k+1) _ (by simp only[agu,agw,agF];omega)];rw[agS,agK];rfl
theorem YY(N:Nat)(d:aL)(h:d.aJ.length+d.bG.length<1000000000):Ck N d=some ((d.aJ++d.bG).map (·.aq)):=by
 unfold Ck;rw[O3 N _ _ h,ags,SM N _ _ _ (by simp only[agu,agF];omega),List.nil_append]
theorem QH(N:Nat):∀(l:List bk)(k:Nat)(acc:List ByteArray),acc.length+l.length≤1000000000→tS N l k acc=some (acc++l.map (·.aq))
 |[],_,acc,_=>by rw[tS,List.map_nil,agO]
 |a::l,k,acc,h=>by
  simp only[agw]at h;rw[tS,eP (by omega),cond_true];dsimp only;rw[QH N l (k+1) _ (by simp only[agu,agw,agF];omega)];rw[agS,agK];rfl
theorem Nz(N:Nat)(d:aL):∀(l:List bk)(k:Nat)(acc:List ByteArray),acc.length+l.length+d.bG.length≤1000000000→sA N d l k acc=some (acc++(l++d.bG).map (·.aq))
 |[],_,acc,h=>by rw[sA,QH N _ _ _ (by simp only[agF]at h;omega),List.nil_append]
 |a::l,k,acc,h=>by
  simp only[agw]at h;rw[sA,eP (by omega),cond_true];dsimp only;rw[Nz N d l (k+1) _ (by simp only[agu,agw,agF];omega)];rw[List.cons_append,agS,agK];rfl
theorem X0(N:Nat)(d:aL)(h:d.aJ.length+d.bG.length<1000000000):BC N d=some ((d.aJ++d.bG).map (·.aq)):=by
 unfold BC;rw[Nz N d _ _ _ (by simp only[agF];omega),List.nil_append]
theorem ES(N:Nat)(l:aw)(h:gX 1000000000 l):sF N l=some l:=by
 unfold sF BK;rw[eP (by have:=h;unfold gX at this;omega)];rfl
theorem R1(N:Nat):∀(l:List aw)(k:Nat)(acc:List aw),acc.length+l.length≤1000000000→(∀x∈l,gX 1000000000 x)→rS N l k acc=some (acc++l)
 |[],_,acc,_,_=>by rw[rS,agO]
 |a::l,k,acc,h,hx=>by
  simp only[agw]at h;rw[rS,ES N a (hx a agz),ags,eP (by omega),cond_true];dsimp only;rw[R1 N l (k+1) _ (by simp only[agu,agw,agF];omega) fun y hy=>hx y (agC _ hy)];rw[agK];rfl
theorem M7(N:Nat)(l:List aw)(h:l.length≤1000000000)(hx:∀x∈l,gX 1000000000 x):yg N l=some l:=by
 unfold yg;rw[R1 N l 0 [] (by simp only[agF];omega) hx,List.nil_append]
def gn(s:ByteArray)(d:aL):Bool:=bL d.aq==bL s
def l6(D:List aL)(s:ByteArray)(k:Nat):Int:=match D.findIdx? (gn s)with|some i=>((k+i:Nat):Int)|none=> -1
theorem ID(d:aL)(D:List aL)(s:ByteArray)(k:Nat):l6 (d::D) s k=bif gn s d then(k:Int)else l6 D s (k+1):=by
 unfold l6;rw[List.findIdx?_cons];cases gn s d with
 |true=>rfl
 |false=>
  cases D.findIdx? (gn s)with
  |none=>rfl
  |some i=>simp only[cond_false,Bool.false_eq_true,if_false,Option.map_some];rw[Nat.add_assoc,Nat.add_comm 1 i]
theorem PZ(N:Nat)(s:ByteArray):∀(l:List aL)(k:Nat),uA N s l k=some (l6 l s k)
 |[],_=>rfl
 |d::l,k=>by
  rw[uA,ID,show zG N d s=some (gn s d)from rfl,ags,PZ N s l];cases gn s d<;>rfl
theorem RX(N:Nat)(p:aY)(s:ByteArray):xw N p s=some (l6 p.aA s 0):=by
 unfold xw EI;rw[PZ];rfl
theorem SN(N:Nat)(s:ByteArray):∀(l:List aL)(k:Nat),xo N s l k=some (l6 l s k)
 |[],_=>rfl
 |d::l,k=>by
  rw[xo,ID,SN N s l];unfold gn;cases bL d.aq==bL s<;>rfl
theorem Qa(N:Nat)(p:aY)(s:ByteArray):BN N p s=some (l6 p.aA s 0):=SN N s p.aA 0
theorem AI{α:Type}(f:α→Bool):∀l:List α,(l.findIdx? f=none∧l.find? f=none)∨∃i d,l.findIdx? f=some i∧l[i]?=some d∧l.find? f=some d∧f d=true
 |[]=> .inl ⟨rfl,rfl⟩
 |x::l=>by
  rw[List.findIdx?_cons,List.find?_cons];cases e:f x with
  |true=>exact .inr ⟨0,x,rfl,rfl,rfl,e⟩
  |false=>
   simp only[Bool.false_eq_true,if_false];rcases AI f l with⟨h1,h2⟩|⟨i,d,h1,h2,h3,h4⟩
   ·exact .inl ⟨by rw[h1];rfl,h2⟩
   ·exact .inr ⟨i+1,d,by rw[h1];rfl,by rw[ag4];exact h2,h3,h4⟩
def fx(P:List cq)(D:List aL)(s:ByteArray):bB×List aw×Bool:=
 match P.find? (fun x=>bL x.aq==bL s)with
 |some x=>(x.aB,x.aJ,true)
 |none=>match D.find? (gn s)with
  |some d=>(d.aB,d.aJ.map (·.dS),true)
  |none=>(fD,[],false)
theorem RG(N:Nat)(d:aL):∀(l:List bk)(k:Nat)(acc:List aw),acc.length+l.length≤1000000000→(∀x∈l,gX 1000000000 x.dS)→sI N d l k acc=some (d.aB,acc++l.map (·.dS),true)
 |[],_,acc,_,_=>by rw[sI,List.map_nil,agO]
 |a::l,k,acc,h,hx=>by
  simp only[agw]at h;rw[sI,ES N _ (hx a agz),ags,eP (by omega),cond_true];dsimp only;rw[RG N d l (k+1) _ (by simp only[agu,agw,agF];omega) fun y hy=>hx y (agC _ hy)];rw[agS,agK];rfl
theorem Pa(N:Nat)(d:aL):∀(l:List bk)(k:Nat)(acc:List aw),acc.length+l.length≤1000000000→rL N d l k acc=some (d.aB,acc++l.map (·.dS),true)
 |[],_,acc,_=>by rw[rL,List.map_nil,agO]
 |a::l,k,acc,h=>by
  simp only[agw]at h;rw[rL,eP (by omega),cond_true];dsimp only;rw[Pa N d l (k+1) _ (by simp only[agu,agw,agF];omega)];rw[agS,agK];rfl
structure mZ(P:List cq):Prop where
 len:∀x∈P,x.aJ.length≤1000000000
 kT:∀x∈P,∀y∈x.aJ,gX 1000000000 y
structure iI(D:List aL):Prop where
 len:∀d∈D,d.aJ.length+d.bG.length<900000000
 kT:∀d∈D,∀y∈d.aJ++d.bG,gX 1000000000 y.dS
theorem iI.LD{D:List aL}(h:iI D){d:aL}(hd:d∈D):∀y∈d.aJ,gX 1000000000 y.dS:=fun y hy=>h.kT d hd y (List.mem_append_left _ hy)
theorem yN{α:Type}{l:List α}{i:Nat}{d:α}(h:l[i]?=some d):d∈l:=agG h
theorem Um(N:Nat)(p:aY)(s:ByteArray)(hD:iI p.aA):∀(l:List cq)(k:Nat),mZ l→rQ N p s l k=some (fx l p.aA s)
 |[],k,_=>by
  rw[rQ,RX,ags];unfold fx l6;rw[List.find?_nil];rcases AI (gn s) p.aA with⟨h1,h2⟩|⟨i,d,h1,h2,h3,_⟩
  ·rw[h1,h2];rfl
  ·rw[h1,h3];simp only[agN];rw[show decide ((i:Int)≥0)=true from aha (by omega),agU,h2];simp only[cond_true,ags];rw[RG N d _ _ _ (by have:=hD.len d (yN h2);simp only[agF];omega) (hD.LD (yN h2)),List.nil_append]
 |x::l,k,hP=>by
  rw[rQ,Um N p s hD l (k+1) ⟨fun y hy=>hP.len y (agC _ hy),fun y hy=>hP.kT y (agC _ hy)⟩];unfold fx;rw[List.find?_cons];cases bL x.aq==bL s with
  |true=>simp only[cond_true];rw[M7 N _ (hP.len x agz) (hP.kT x agz)];rfl
  |false=>rfl
theorem Qb(N:Nat)(p:aY)(s:ByteArray)(hP:mZ p.bu)(hD:iI p.aA):Bp N p s=some (fx p.bu p.aA s):=Um N p s hD p.bu 0 hP
theorem UA(N:Nat)(s:ByteArray):∀(D:List aL)(k:Nat),iI D→g_brocaderef17_Find_L2 N s D k=some (fx [] D s)
 |[],_,_=>rfl
 |d::D,k,h=>by
  rw[g_brocaderef17_Find_L2,UA N s D (k+1) ⟨fun y hy=>h.len y (agC _ hy),fun y hy=>h.kT y (agC _ hy)⟩];unfold fx;rw[List.find?_nil,List.find?_cons];unfold gn;cases bL d.aq==bL s with
  |true=>
   simp only[cond_true];rw[Pa N d _ _ _ (by have:=h.len d agz;simp only[agF];omega),List.nil_append]
  |false=>rfl
theorem RM(N:Nat)(s:ByteArray)(p:aY)(hD:iI p.aA):∀(l:List cq)(k:Nat),tc N s p l k=some (fx l p.aA s)
 |[],k=>by rw[tc,UA N s _ _ hD]
 |x::l,k=>by
  rw[tc,RM N s p hD l];unfold fx;rw[List.find?_cons];cases bL x.aq==bL s<;>rfl
theorem Jj(N:Nat)(p:aY)(s:ByteArray)(hD:iI p.aA):Al N p s=some (fx p.bu p.aA s):=RM N s p hD p.bu 0
structure VN(m:List (ByteArray×Int))(V:List ByteArray):Prop where
 val:∀s,(gF m s 0==0)= !dn V s
 len:m.length≤V.length
theorem VN.add{m:List (ByteArray×Int)}{V:List ByteArray}(h:VN m V)(s:ByteArray)(k:Int)(hk:(k==0)=false):VN ((s,k)::m) (V++[s]):=by
 refine⟨fun x=> ?_,by have:=h.len;simp only[agw,agu,agF];omega⟩;rw[Gw,kp,AD];cases e:bL s==bL x with
 |true=>rw[cond_true,hk,Bool.or_true];rfl
 |false=>rw[cond_false,h.val,Bool.or_false]
def qC(V:List ByteArray)(l:aw):Int:=bif vJ V l then 0 else 9
theorem Q9(N:Nat){m:List (ByteArray×Int)}{V:List ByteArray}(h:VN m V):∀(l:List aF)(k:Nat),wg N m l k=some (bif l.all (fun m=>dn V m.aq)then 0 else 9)
 |[],_=>rfl
 |x::l,k=>by
  rw[wg,h.val,ahd,Q9 N h l];cases dn V x.aq<;>rfl
theorem Kn(N:Nat){m:List (ByteArray×Int)}{V:List ByteArray}(h:VN m V)(l:aw)(p:aY):za N l p m=some (qC V l):=Q9 N h l.xL 0
def vu(V:List ByteArray)(P:List cq)(D:List aL)(x:ay):Int:=
 bif bL x.bp==[]then qC V x.aQ else bif (fx P D x.bp).2.2 then bif (fx P D x.bp).1.cA !=3 then 10 else bif x.bw.length==(fx P D x.bp).2.1.length then gv (qC V) x.bw else 11 else 9
theorem C3(a b:Nat):((a:Int) !=(b:Int))= !(a==b):=I0 a b
theorem Ur(N:Nat){m:List (ByteArray×Int)}{V:List ByteArray}(h:VN m V)(p:aY):∀(l:List aw)(k:Nat),vM N p m l k=some (gv (qC V) l)
 |[],_=>rfl
 |x::l,k=>by
  rw[vM,Kn N h,ags,gv,Ur N h p l];cases qC V x !=0<;>rfl
theorem aeV(N:Nat){m:List (ByteArray×Int)}{V:List ByteArray}(h:VN m V)(p:aY)(hP:mZ p.bu)(hD:iI p.aA)(x:ay):Ef N x p m=some (vu V p.bu p.aA x):=by
 unfold Ef vu;rw[o0,Kn N h,Qb N p _ hP hD,ags,ags,C3,Ur N h p];cases bL x.bp==[]<;>cases (fx p.bu p.aA x.bp).2.2<;>cases (fx p.bu p.aA x.bp).1.cA !=3<;>cases x.bw.length==(fx p.bu p.aA x.bp).2.1.length<;>rfl
def rJ(V:List ByteArray)(P:List cq)(D:List aL)(e:ao):Int:=
 bif (fx P D e.aq).2.2 then bif e.xIdx.length==(fx P D e.aq).2.1.length then gv (vu V P D) e.xIdx else 11 else 9
def wQ(t:bB)(x:Int):bB×Int:=(bif x !=0 then fD else t,x)
theorem OG(N:Nat){m:List (ByteArray×Int)}{V:List ByteArray}(h:VN m V)(p:aY)(hP:mZ p.bu)(hD:iI p.aA)(q:bB×List aw×Bool):∀(l:List ay)(k:Nat),vx N q p m l k=some (wQ q.1 (gv (vu V p.bu p.aA) l))
 |[],_=>rfl
 |x::l,k=>by
  rw[vx,aeV N h p hP hD,ags,gv,OG N h p hP hD q l];unfold wQ;cases e:vu V p.bu p.aA x !=0 with
  |true=>simp only[cond_true];rw[e];rfl
  |false=>rfl
theorem aaf(N:Nat){m:List (ByteArray×Int)}{V:List ByteArray}(h:VN m V)(p:aY)(hP:mZ p.bu)(hD:iI p.aA)(e:ao):CQ N e p m=some (wQ (fx p.bu p.aA e.aq).1 (rJ V p.bu p.aA e)):=by
 unfold CQ rJ;rw[Qb N p _ hP hD,ags,C3,OG N h p hP hD];cases (fx p.bu p.aA e.aq).2.2<;>cases e.xIdx.length==(fx p.bu p.aA e.aq).2.1.length<;>rfl
theorem PW(N:Nat)(V:List ByteArray)(p:aY):∀(l:List aw)(k:Nat),vc N V p l k=some (gv (qC (V++p.bx)) l)
 |[],_=>rfl
 |x::l,k=>by
  rw[vc,Mg,ags,gv,PW N V p l];unfold qC;cases vJ (V++p.bx) x<;>rfl
theorem TH(N:Nat)(V:List ByteArray)(p:aY)(l:List aw):BT N p V l=some (gv (qC (V++p.bx)) l):=PW N V p l 0
theorem Pj(N:Nat)(V:List ByteArray)(p:aY)(hD:iI p.aA)(q:bB×List aw×Bool):∀(l:List ay)(k:Nat),sU N q V p l k=some (wQ q.1 (gv (vu (V++p.bx) p.bu p.aA) l))
 |[],_=>rfl
 |x::l,k=>by
  rw[sU,o0,Mg,Jj N p _ hD,ags,ags,C3,TH,ags,gv,Pj N V p hD q l];unfold wQ vu qC;rw[show(x.bw.length==(fx p.bu p.aA x.bp).2.1.length)=((fx p.bu p.aA x.bp).2.1.length==x.bw.length)from Bool.eq_iff_iff.2 (by rw[beq_iff_eq,beq_iff_eq];exact eq_comm)];cases bL x.bp==[]with
  |true=>cases vJ (V++p.bx) x.aQ<;>rfl
  |false=>
   cases (fx p.bu p.aA x.bp).2.2 with
   |false=>rfl
   |true=>
    cases (fx p.bu p.aA x.bp).1.cA !=3 with
    |true=>rfl
    |false=>
     cases (fx p.bu p.aA x.bp).2.1.length==x.bw.length with
     |false=>rfl
     |true=>
      simp only[cond_true,cond_false,Bool.not_true];cases e:gv (fun l=>bif vJ (V++p.bx) l then 0 else 9) x.bw !=0 with
      |true=>simp only[cond_true];first|rw[e];rfl|simp [e]
      |false=>rfl
theorem Uu(N:Nat)(V:List ByteArray)(p:aY)(hD:iI p.aA)(e:ao):Bn N p V e=some (wQ (fx p.bu p.aA e.aq).1 (rJ (V++p.bx) p.bu p.aA e)):=by
 unfold Bn rJ;rw[Jj N p _ hD,ags,C3,Pj N V p hD];rw[show((fx p.bu p.aA e.aq).2.1.length==e.xIdx.length)=(e.xIdx.length==(fx p.bu p.aA e.aq).2.1.length)from Bool.eq_iff_iff.2 (by rw[beq_iff_eq,beq_iff_eq];exact eq_comm)];cases (fx p.bu p.aA e.aq).2.2<;>cases e.xIdx.length==(fx p.bu p.aA e.aq).2.1.length<;>rfl
set_option maxRecDepth 100000
theorem Es(n:Int):(Int64.ofInt n).toInt=IntKind.i64.wrap n:=by
 have h:=nw n;unfold an bt a7 at h;injection h with h;injection h with h;injection h with _ h;exact h.symm
theorem H8(a b:Int64):(a+b).toInt=IntKind.i64.wrap (a.toInt+b.toInt):=by
 have h:=Jh a b;unfold an bt a7 at h;injection h with h;injection h with h;injection h with _ h;exact h.symm
theorem Kr(a b:Int64):(a*b).toInt=IntKind.i64.wrap (a.toInt*b.toInt):=by
 have h:=Og a b;unfold an bt a7 at h;injection h with h;injection h with h;injection h with _ h;exact h.symm
theorem S9(a b:Int64):(a-b).toInt=IntKind.i64.wrap (a.toInt-b.toInt):=by
 have h:=uE a b;unfold an bt a7 at h;injection h with h;injection h with h;injection h with _ h;exact h.symm
theorem m0(a:Int64): -9223372036854775808≤a.toInt∧a.toInt≤9223372036854775807:=rH.1 (abA a)
theorem Me{a b:Int64}(h:a.toInt=b.toInt):a=b:=Int64.toInt_inj.1 h
theorem Hq(a b:Int64):Int64.ofInt (a.toInt+b.toInt)=a+b:=Me (by rw[Es,H8])
theorem FP(a b:Int64):Int64.ofInt (a.toInt*b.toInt)=a*b:=Me (by rw[Es,Kr])
theorem Jt(x:Int)(h:0≤x∧x<18446744073709551616):IntKind.u64.wrap ((BitVec.ofInt IntKind.u64.bits x&&&BitVec.ofInt IntKind.u64.bits 4294967295).toNat:Int)=x%4294967296:=by
 obtain⟨n,rfl⟩:=Int.eq_ofNat_of_zero_le h.1;have e:(BitVec.ofInt IntKind.u64.bits (n:Int)&&&BitVec.ofInt IntKind.u64.bits 4294967295).toNat=n%4294967296:=by
  show(BitVec.ofInt 64 (n:Int)&&&BitVec.ofInt 64 4294967295).toNat=_;rw[BitVec.toNat_and];have h1:(BitVec.ofInt 64 (n:Int)).toNat=n:=by
   rw[BitVec.toNat_ofInt];omega
  have h2:(BitVec.ofInt 64 (4294967295:Int)).toNat=2^32-1:=by decide
  rw[h1,h2,Nat.and_two_pow_sub_one_eq_mod]
 rw[e,IntKind.wrap_u64];omega
theorem Yq(x:Int):x.fdiv (2^min (32:Int).toNat IntKind.u64.bits)=x / 4294967296:=by
 show x.fdiv 4294967296=_;rw[Int.fdiv_eq_ediv_of_nonneg _ (by omega)]
theorem ad4(a b:Int)(ha:0≤a∧a<18446744073709551616)(hb:0≤b∧b<18446744073709551616):
 let ah:=a / 4294967296
 let al:=a%4294967296
 let bh:=b / 4294967296
 let bl:=b%4294967296
 let W:=IntKind.u64.wrap
 let low:=W (al*bl)
 let vm:=W (W (ah*bl)+low / 4294967296)
 let HY:=W (W (al*bh)+vm%4294967296)
 W (W (W (ah*bh)+vm / 4294967296)+HY / 4294967296)=a*b / 18446744073709551616:=by
 intro ah al bh bl W low vm HY;have h1:0≤ah∧ah≤4294967295:=by omega
 have h2:0≤al∧al≤4294967295:=by omega
 have h3:0≤bh∧bh≤4294967295:=by omega
 have h4:0≤bl∧bl≤4294967295:=by omega
 have pb:∀{x y:Int},(0≤x∧x≤4294967295)→(0≤y∧y≤4294967295)→0≤x*y∧x*y≤18446744065119617025:=fun hx hy=>
  ⟨Int.mul_nonneg hx.1 hy.1,Int.le_trans (Int.mul_le_mul hx.2 hy.2 hy.1 (by omega)) (by decide)⟩
 have p1:=pb h1 h3;have p2:=pb h1 h4;have p3:=pb h2 h3;have p4:=pb h2 h4;have e:a*b=18446744073709551616*(ah*bh)+4294967296*(ah*bl)+4294967296*(al*bh)+al*bl:=by
  have ea:a=4294967296*ah+al:=by omega
  have eb:b=4294967296*bh+bl:=by omega
  have:∀x y z w:Int,(4294967296*x+y)*(4294967296*z+w)=18446744073709551616*(x*z)+4294967296*(x*w)+4294967296*(y*z)+y*w:=fun x y z w=>by
   rw[Int.add_mul,Int.mul_add,Int.mul_add];rw[show 4294967296*x*(4294967296*z)=18446744073709551616*(x*z)from by
     rw[Int.mul_assoc,Int.mul_left_comm x,←Int.mul_assoc];rfl]
   rw[Int.mul_assoc 4294967296 x w,Int.mul_left_comm y];omega
  rw[←this,←ea,←eb]
 generalize hP:ah*bh=P at*;generalize hQ:ah*bl=Q at*;generalize hR:al*bh=R at*;generalize hT:al*bl=T at*;have w1:low=T:=by show IntKind.u64.wrap _=_;rw[IntKind.wrap_u64];omega
 have w2:vm=Q+T / 4294967296:=by show IntKind.u64.wrap (IntKind.u64.wrap _+low / _)=_;rw[IntKind.wrap_u64,IntKind.wrap_u64,w1];omega
 have w3:HY=R+vm%4294967296:=by show IntKind.u64.wrap (IntKind.u64.wrap _+vm%_)=_;rw[IntKind.wrap_u64,IntKind.wrap_u64];omega
 show IntKind.u64.wrap (IntKind.u64.wrap (IntKind.u64.wrap P+vm / 4294967296)+HY / 4294967296)=_;rw[IntKind.wrap_u64,IntKind.wrap_u64,IntKind.wrap_u64,e,w3,w2];omega
theorem adC(n:Int):0≤IntKind.u64.wrap n∧IntKind.u64.wrap n<18446744073709551616:=by rw[IntKind.wrap_u64];omega
theorem adA(N:Nat)(a b:Int)(ha:0≤a∧a<18446744073709551616)(hb:0≤b∧b<18446744073709551616):CE N a b=some (a*b / 18446744073709551616,a*b%18446744073709551616):=by
 unfold CE;simp only[Jt _ ha,Jt _ hb,Jt _ (adC _),Yq];rw[ad4 a b ha hb,IntKind.wrap_u64 (a*b)]
theorem SG(N:Nat)(a:Int64):zW N a=some (a.toInt.natAbs:Int):=by
 unfold zW;have:=m0 a;rw[IntKind.wrap_u64,IntKind.wrap_u64];by_cases h:a.toInt<0
 ·rw[aha h,cond_true];congr 1;omega
 ·rw[ahb h,cond_false];congr 1;omega
theorem aee(a b:Int):(a.natAbs:Int)*b.natAbs=if(decide (a<0)==decide (b<0))=true then a*b else-(a*b):=by
 by_cases h1:a<0<;>by_cases h2:b<0
 ·rw[show(a.natAbs:Int)= -a by omega,show(b.natAbs:Int)= -b by omega,Int.neg_mul_neg];simp [h1,h2]
 ·rw[show(a.natAbs:Int)= -a by omega,show(b.natAbs:Int)=b by omega,Int.neg_mul];simp [h1,h2]
 ·rw[show(a.natAbs:Int)=a by omega,show(b.natAbs:Int)= -b by omega,Int.mul_neg];simp [h1,h2]
 ·rw[show(a.natAbs:Int)=a by omega,show(b.natAbs:Int)=b by omega];simp [h1,h2]
def ot(a b:Int64):Int64×Bool:=bif eE (a.toInt*b.toInt)then(a*b,true)else(0,false)
theorem OI(N:Nat)(a b:Int64):yX N a b=some (ot a b):=by
 unfold yX ot;have ha:=m0 a;have hb:=m0 b;rw[SG,SG,ags,ags,adA N _ _ (by omega) (by omega),ags];dsimp only;have h0:0≤(a.toInt.natAbs:Int)*b.toInt.natAbs:=Int.mul_nonneg (by omega) (by omega);have hu:(a.toInt.natAbs:Int)*b.toInt.natAbs≤85070591730234615865843651857942052864:=
  Int.le_trans (Int.mul_le_mul (show(a.toInt.natAbs:Int)≤9223372036854775808 by omega) (show(b.toInt.natAbs:Int)≤9223372036854775808 by omega) (by omega) (by omega)) (by decide)
 have hm:=aee a.toInt b.toInt;have hw:=FP a b;generalize a*b=c at*;generalize (a.toInt.natAbs:Int)*b.toInt.natAbs=q at*;generalize a.toInt*b.toInt=z at*;have key:(bif (q / 18446744073709551616 !=0)then some true else(bif (decide (q%18446744073709551616>9223372036854775808))then some true else(bif (q%18446744073709551616==9223372036854775808)then some (!(!((decide (a.toInt<0))==(decide (b.toInt<0)))))else some false)))=some (!eE z):=by
  have:eE z=(q / 18446744073709551616==0&&(decide (q%18446744073709551616≤9223372036854775808)&&(!(q%18446744073709551616==9223372036854775808)|| !(decide (a.toInt<0)==decide (b.toInt<0))))):=by
   rw[Bool.eq_iff_iff,rH];cases hs:decide (a.toInt<0)==decide (b.toInt<0)with
   |true=>
    rw[hs,if_pos rfl]at hm;simp only[agv,Bool.or_eq_true,Bool.not_eq_true',beq_iff_eq,decide_eq_true_iff,beq_eq_false_iff_ne,Bool.not_true,Bool.false_eq_true,or_false];omega
   |false=>
    rw[hs,if_neg (by decide)]at hm;simp only[agv,Bool.or_eq_true,Bool.not_eq_true',beq_iff_eq,decide_eq_true_iff,beq_eq_false_iff_ne,Bool.not_false,or_true,and_true];omega
  rw[this,show(q / 18446744073709551616 !=0)= !(q / 18446744073709551616==0)from rfl,BV];cases q / 18446744073709551616==0<;>cases decide (q%18446744073709551616≤9223372036854775808)<;>cases q%18446744073709551616==9223372036854775808<;>cases decide (a.toInt<0)==decide (b.toInt<0)<;>rfl
 rw[key,ags];cases hf:eE z with
 |false=>rfl
 |true=>
  rw[rH]at hf;simp only[Bool.not_true,cond_false,cond_true];cases hs:decide (a.toInt<0)==decide (b.toInt<0)with
  |true=>
   rw[hs,if_pos rfl]at hm;rw[cond_true,←hw,show q%18446744073709551616=z by omega]
  |false=>
   rw[hs,if_neg (by decide)]at hm;rw[cond_false,←hw]
   congr 2
   refine Me ?_;rw[Es,Es,IntKind.wrap_i64,IntKind.wrap_i64,IntKind.wrap_u64];omega
theorem ZY{a b:Int}(hb:b≠0):(a*b).tdiv b=a:=Int.mul_tdiv_cancel _ hb
theorem Y8{a b c:Int}(ha: -9223372036854775808≤a∧a≤9223372036854775807)(hb: -9223372036854775808≤b∧b≤9223372036854775807)(hc:c=IntKind.i64.wrap (a*b))(qY:b≠0)(h:c.tdiv b=a):c=a*b:=by
 have h1:=Int.tmod_add_mul_tdiv c b;rw[h]at h1;have h2:(c.tmod b).natAbs<b.natAbs:=by
  rw[Int.natAbs_tmod];exact Nat.mod_lt _ (by omega)
 rw[IntKind.wrap_i64]at hc;rw[Int.mul_comm b a]at h1;generalize a*b=z at*;omega
theorem NL(N:Nat)(a b:Int64):Ah N a b=some (ot a b):=by
 unfold Ah ot;have ha:=m0 a;have hb:=m0 b;rw[show(bif a.toInt==0 then some true else some (b.toInt==0))=some (a.toInt==0||b.toInt==0) by cases a.toInt==0<;>rfl,ags];by_cases h0:a.toInt=0∨b.toInt=0
 ·have:(a.toInt==0||b.toInt==0)=true:=by rw[Bool.or_eq_true,beq_iff_eq,beq_iff_eq];exact h0
  have hz:a.toInt*b.toInt=0:=Int.mul_eq_zero.2 h0;rw[this,hz,←FP a b,hz];rfl
 ·have h1:a.toInt≠0:=fun h=>h0 (.inl h);have h2:b.toInt≠0:=fun h=>h0 (.inr h);have:(a.toInt==0||b.toInt==0)=false:=by rw[ahg,beq_eq_false_iff_ne,beq_eq_false_iff_ne];exact⟨h1,h2⟩
  have hb1:(b.toInt !=0)=true:=bne_iff_ne.2 h2;rw[this,hb1];simp only[cond_false,cond_true];have key:eE (a.toInt*b.toInt)= !((a.toInt== -1&&b.toInt== -9223372036854775808)||((b.toInt== -1&&a.toInt== -9223372036854775808)||(Int64.ofInt ((a*b).toInt.tdiv b.toInt)).toInt !=a.toInt)):=by
   rw[Bool.eq_iff_iff,rH,Bool.not_eq_true',ahg,ahg,Bool.and_eq_false_iff,Bool.and_eq_false_iff,bne_eq_false_iff_eq,beq_eq_false_iff_ne,beq_eq_false_iff_ne,beq_eq_false_iff_ne,beq_eq_false_iff_ne,Es];constructor
   ·intro hf;have hc:(a*b).toInt=a.toInt*b.toInt:=by rw[Kr,IntKind.wrap_i64];omega
    refine⟨?_,?_,?_⟩
    ·by_cases h3:a.toInt= -1
     ·right;intro h4;rw[h3,h4]at hf;exact absurd hf.2 (by decide)
     ·exact .inl h3
    ·by_cases h3:b.toInt= -1
     ·right;intro h4;rw[h3,h4]at hf;exact absurd hf.2 (by decide)
     ·exact .inl h3
    ·rw[hc,ZY h2,IntKind.wrap_i64];omega
   ·rintro⟨h3,h4,h5⟩;have hq:(a*b).toInt.tdiv b.toInt=a.toInt:=by
     have hc:=m0 (a*b);have hd:((a*b).toInt.tdiv b.toInt).natAbs≤(a*b).toInt.natAbs:=by
      rw[Int.natAbs_tdiv];exact Nat.div_le_self _ _
     rw[IntKind.wrap_i64]at h5;by_cases h6:(a*b).toInt.tdiv b.toInt=9223372036854775808
     ·exfalso;rw[h6]at h5 hd;have qq:(a*b).toInt= -9223372036854775808:=by omega
      have hbm:b.toInt= -1:=by
       rw[qq]at h6;have h7:=Int.tmod_add_mul_tdiv (-9223372036854775808) b.toInt;rw[h6]at h7;have h8:((-9223372036854775808:Int).tmod b.toInt).natAbs<b.toInt.natAbs:=by
         rw[Int.natAbs_tmod];exact Nat.mod_lt _ (by omega)
       omega
      omega
     ·omega
    have:=Y8 ha hb (Kr a b) h2 hq;have hc:=m0 (a*b);omega
  rw[key];cases a.toInt== -1<;>cases b.toInt== -9223372036854775808<;>cases b.toInt== -1<;>cases a.toInt== -9223372036854775808<;>cases (Int64.ofInt ((a*b).toInt.tdiv b.toInt)).toInt !=a.toInt<;>rfl
def FZ(a b:Int64):Int64×Bool:=bif eE (a.toInt+b.toInt)then(a+b,true)else(0,false)
theorem QP(N:Nat)(a b:Int64):yo N a b=some (a+b,eE (a.toInt+b.toInt)):=by
 unfold yo;have ha:=m0 a;have hb:=m0 b
 congr 2
 rw[H8,IntKind.wrap_i64,Bool.eq_iff_iff,rH,beq_iff_eq,decide_eq_decide];omega
theorem PV(N:Nat)(a b:Int64):yi N a b=some (FZ a b):=by
 unfold yi FZ;have ha:=m0 a;have hb:=m0 b;have e1:((9223372036854775807:Int64)-b).toInt=IntKind.i64.wrap (9223372036854775807-b.toInt):=S9 _ _;have e2:((-9223372036854775808:Int64)-b).toInt=IntKind.i64.wrap (-9223372036854775808-b.toInt):=S9 _ _;rw[e1,e2,IntKind.wrap_i64,IntKind.wrap_i64];have key:(bif (decide (b.toInt>0))then(bif (decide (a.toInt>(9223372036854775807-b.toInt+9223372036854775808)%18446744073709551616-9223372036854775808))then some true else(bif (decide (b.toInt<0))then some (decide (a.toInt<(-9223372036854775808-b.toInt+9223372036854775808)%18446744073709551616-9223372036854775808))else some false))else(bif (decide (b.toInt<0))then some (decide (a.toInt<(-9223372036854775808-b.toInt+9223372036854775808)%18446744073709551616-9223372036854775808))else some false))=some (!eE (a.toInt+b.toInt)):=by
  have hf:eE (a.toInt+b.toInt)=(decide (-9223372036854775808≤a.toInt+b.toInt)&&decide (a.toInt+b.toInt≤9223372036854775807)):=rfl;rw[hf];by_cases h1:b.toInt>0
  ·rw[aha h1,cond_true,show decide (b.toInt<0)=false from ahb (by omega),cond_false,show decide (-9223372036854775808≤a.toInt+b.toInt)=true from aha (by omega),Bool.true_and];by_cases h2:a.toInt+b.toInt≤9223372036854775807
   ·rw[aha h2,ahb (by omega)];rfl
   ·rw[ahb h2,aha (by omega)];rfl
  ·rw[ahb h1,cond_false,show decide (a.toInt+b.toInt≤9223372036854775807)=true from aha (by omega),Bool.and_true];by_cases h3:b.toInt<0
   ·rw[aha h3,cond_true];by_cases h2: -9223372036854775808≤a.toInt+b.toInt
    ·rw[aha h2,ahb (by omega)];rfl
    ·rw[ahb h2,aha (by omega)];rfl
   ·rw[ahb h3,cond_false,aha (by omega)];rfl
 rw[key,ags];cases eE (a.toInt+b.toInt)<;>rfl
def Iq(b:Int64)(m:aF):aF:=⟨m.aq,m.dq*b⟩
def oJ(b:Int64)(m:aF):Bool:=eE (m.dq.toInt*b.toInt)
theorem IE(a:aw)(b:Int64):lH a b=bif eK a then bif b.toInt==0 then .ok dV else bif eE (a.xK.toInt*b.toInt)&&a.xL.all (oJ b)then .ok ⟨a.xK*b,a.xL.map (Iq b)⟩else .error .range else .error .arg:=by
 unfold lH;have:(a.xL.map fun m=>(⟨m.aq,Int64.ofInt (m.dq.toInt*b.toInt)⟩:aF))=a.xL.map (Iq b):=agY fun m _=>by rw[FP];rfl
 rw[this,FP];show(if eK a=true then _ else _)=_;cases eK a with
 |false=>rfl
 |true=>
  by_cases h:b.toInt=0
  ·rw[if_pos rfl,if_pos h,h];rfl
  ·rw[if_pos rfl,if_neg h,beq_eq_false_iff_ne.2 h];show(if(eE (a.xK.toInt*b.toInt)&&a.xL.all (oJ b))=true then _ else _)=_;cases eE (a.xK.toInt*b.toInt)&&a.xL.all (oJ b)<;>rfl
theorem Qx(N:Nat)(q:Int64×Bool)(b:Int64):∀(l:List aF)(k:Nat)(f:Bool)(acc:List aF),acc.length+l.length≤1000000000→
 tg N q b l k f acc=some (bif f&&l.all (oJ b)then((⟨q.1,acc++l.map (Iq b)⟩:aw),0)else(dV,3))
 |[],_,f,acc,_=>by rw[tg,List.map_nil,agO];cases f<;>rfl
 |m::l,k,f,acc,h=>by
  simp only[agw]at h;rw[tg,OI,ags,eP (by omega),show(bif f then some (ot m.dq b).2 else some false)=some (f&&(ot m.dq b).2) by cases f<;>rfl,ags];simp only[cond_true];rw[Qx N q b l (k+1) _ _ (by simp only[agu,agw,agF];omega),ahd,agS];unfold ot;rw[show oJ b m=eE (m.dq.toInt*b.toInt)from rfl];cases eE (m.dq.toInt*b.toInt)with
  |true=>rw[cond_true,agK];cases f<;>rfl
  |false=>cases f<;>rfl
theorem afe(N:Nat)(hN:16<N)(a:aw)(b:Int64)(h:gX 1000000000 a):Ea N a b=some (gC dV (lH a b)):=by
 unfold Ea;rw[zx N hN a h.ok,ags,OI,ags,Qx N _ _ _ _ _ _ (by simp only[agF];exact(agN _).symm▸h),IE];unfold ot;cases eK a with
 |false=>rfl
 |true=>
  cases b.toInt==0 with
  |true=>rfl
  |false=>cases eE (a.xK.toInt*b.toInt)<;>cases a.xL.all (oJ b)<;>rfl
theorem MF(N:Nat)(hN:16<N)(a:aw)(h:okLin a):xb N a=some (bif eK a then 0 else 1):=by
 unfold xb;rw[Ed N hN a h,ags];cases eK a<;>rfl
theorem UF(N:Nat)(q:Int64×Bool)(b:Int64):∀(l:List aF)(k:Nat)(acc:List aF),acc.length+l.length≤1000000000→
 sB N q b l k acc=some (bif l.all (oJ b)then((⟨q.1,acc++l.map (Iq b)⟩:aw),0)else(dV,3))
 |[],_,acc,_=>by rw[sB,List.map_nil,agO];rfl
 |m::l,k,acc,h=>by
  simp only[agw]at h;rw[sB,NL,ags,eP (by omega),cond_true];dsimp only;rw[UF N q b l (k+1) _ (by simp only[agu,agw,agF];omega),ahd,agS];unfold ot;rw[show oJ b m=eE (m.dq.toInt*b.toInt)from rfl];cases eE (m.dq.toInt*b.toInt)with
  |true=>rw[cond_true,agK];rfl
  |false=>rfl
theorem adh(N:Nat)(hN:16<N)(a:aw)(b:Int64)(h:gX 1000000000 a):DV N a b=some (gC dV (lH a b)):=by
 unfold DV;rw[MF N hN a h.ok,ags,NL,ags,UF N _ _ _ _ _ (by simp only[agF];exact(agN _).symm▸h),IE];unfold ot;cases eK a with
 |false=>rfl
 |true=>
  cases b.toInt==0 with
  |true=>rfl
  |false=>cases eE (a.xK.toInt*b.toInt)<;>cases a.xL.all (oJ b)<;>rfl
def ku(t:ByteArray×Int×Int):Bool:=eE (t.2.1+t.2.2)
def jB(t:ByteArray×Int×Int):Option aF:=if t.2.1+t.2.2=0 then none else some ⟨t.1,Int64.ofInt (t.2.1+t.2.2)⟩
theorem Qt(k:Int)(l:List (ByteArray×Int×Int)):HA k l=bif eE k&&l.all ku then .ok ⟨Int64.ofInt k,l.filterMap jB⟩else .error .range:=by
 unfold HA;show(if(eE k&&l.all ku)=true then(Except.ok ⟨Int64.ofInt k,l.filterMap jB⟩:X aw)else _)=_;cases eE k&&l.all ku<;>rfl
def JF(acc:List aF):Option aF→List aF
 |none=>acc
 |some m=>acc++[m]
theorem D5(N:Nat)(s:ByteArray)(x y:Int64)(f:Bool)(K:Int64)(acc:List aF)(h:acc.length<1000000000):
 ∃L,uv N s x y f K acc=some (f&&eE (x.toInt+y.toInt),L)∧L.length≤acc.length+1∧(eE (x.toInt+y.toInt)=true→L=JF acc (jB (s,x.toInt,y.toInt))):=by
 unfold uv;rw[QP,ags,eP (by omega),show(bif f then some (x+y,eE (x.toInt+y.toInt)).2 else some false)=some (f&&eE (x.toInt+y.toInt)) by cases f<;>rfl,ags];dsimp only;have e (hf:eE (x.toInt+y.toInt)=true):(x+y).toInt=x.toInt+y.toInt:=by
  rw[rH]at hf;rw[H8,IntKind.wrap_i64];omega
 cases hz:(x+y).toInt !=0 with
 |true=>
  refine⟨_,rfl,by simp,fun hf=> ?_⟩;unfold jB;rw[if_neg (by show ¬x.toInt+y.toInt=0;rw[←e hf];exact bne_iff_ne.1 hz)];show acc++[(⟨s,x+y⟩:aF)]=acc++[⟨s,Int64.ofInt (x.toInt+y.toInt)⟩];rw[Hq]
 |false=>
  refine⟨_,rfl,Nat.le_succ _,fun hf=> ?_⟩;unfold jB;rw[if_pos (by show x.toInt+y.toInt=0;rw[←e hf];exact jy hz)];rfl
theorem adK(acc:List aF)(t:ByteArray×Int×Int)(l:List (ByteArray×Int×Int)):JF acc (jB t)++l.filterMap jB=acc++(t::l).filterMap jB:=by
 rw[List.filterMap_cons];cases jB t with
 |none=>rfl
 |some m=>show acc++[m]++_=_;rw[agK];rfl
theorem Du{N:Nat}{K:Int64}{n:Nat}{l r:List aF}{f f':Bool}{acc L:List aF}{t:ByteArray×Int×Int}{T:List (ByteArray×Int×Int)}
 (ih:∀f acc,acc.length+l.length+r.length≤1000000000→∃L,lU N K n l r f acc=some (f&&T.all ku,L)∧(T.all ku=true→L=acc++T.filterMap jB))
 (hf:f'=(f&&ku t)) (hL:L.length+l.length+r.length≤1000000000) (h:ku t=true→L=JF acc (jB t)):
 ∃L',lU N K n l r f' L=some (f&&(t::T).all ku,L')∧((t::T).all ku=true→L'=acc++(t::T).filterMap jB):=by
 obtain⟨L',h1,h2⟩:=ih f' L hL;refine⟨L',?_,fun h3=> ?_⟩
 ·rw[h1,hf,ahd,Bool.and_assoc]
 ·rw[ahd,agv]at h3;rw[h2 h3.2,h h3.1,adK]
theorem zw(N:Nat)(K:Int64):∀(n:Nat)(a b:List aF)(f:Bool)(acc:List aF),a.length+b.length<n→acc.length+a.length+b.length≤1000000000→
 ∃L,lU N K n a b f acc=some (f&&(eO a b).all ku,L)∧((eO a b).all ku=true→L=acc++(eO a b).filterMap jB)
 |0,a,b,f,acc,h,_=>absurd h (agV _)
 |n+1,[],[],f,acc,_,_=>by
  rw[lU,eO];exact⟨acc,by rw[List.all_nil,Bool.and_true];rfl,fun _=>by rw[List.filterMap_nil,agO]⟩
 |n+1,x::l,[],f,acc,h,hb=>by
  simp only[agw,agF]at h hb;rw[lU,eO];obtain⟨L,e1,e2,e3⟩:=D5 N x.aq x.dq 0 f K acc (by omega);rw[show decide (((x::l).length:Int)>0)=true from aha (by simp only[agw];omega),show((([]:List aF).length:Int)==0)=true from rfl];simp only[cond_true,ags,List.getElem?_cons_zero,e1,show decide (1≤(x::l).length)=true from aha (by simp only[agw];omega),List.drop_one,List.tail_cons];exact Du (fun f acc hb=>zw N K n l [] f acc (by simp only[agF];omega) hb) rfl (by simp only[agF];omega) e3
 |n+1,[],y::r,f,acc,h,hb=>by
  simp only[agw,agF]at h hb;rw[lU,eO];obtain⟨L,e1,e2,e3⟩:=D5 N y.aq 0 y.dq f K acc (by omega);rw[show decide (((y::r).length:Int)>0)=true from aha (by simp only[agw];omega),show(((y::r).length:Int)==0)=false from beq_eq_false_iff_ne.2 (by simp only[agw];omega),show decide ((([]:List aF).length:Int)>0)=false from rfl,show((([]:List aF).length:Int)==0)=true from rfl];simp only[cond_true,cond_false,ags,List.getElem?_cons_zero,e1,show decide (1≤(y::r).length)=true from aha (by simp only[agw];omega),List.drop_one,List.tail_cons];exact Du (fun f acc hb=>zw N K n [] r f acc (by simp only[agF];omega) hb) rfl (by simp only[agF];omega) e3
 |n+1,x::l,y::r,f,acc,h,hb=>by
  simp only[agw]at h hb;rw[lU,eO];have p1:∀(z:aF)(l:List aF),decide (((z::l).length:Int)>0)=true:=fun z l=>aha (by simp only[agw];omega);have p2:∀(z:aF)(l:List aF),(((z::l).length:Int)==0)=false:=fun z l=>beq_eq_false_iff_ne.2 (by simp only[agw];omega);have p3:∀(z:aF)(l:List aF),decide (1≤(z::l).length)=true:=fun z l=>aha (by simp only[agw];omega);simp only[p1,p2,cond_true,cond_false,ags,List.getElem?_cons_zero,show Op.bytesLess (bL x.aq) (bL y.aq)=lt x.aq y.aq from rfl,show Op.bytesLess (bL y.aq) (bL x.aq)=lt y.aq x.aq from rfl];cases hxy:lt x.aq y.aq with
  |true=>
   obtain⟨L,e1,e2,e3⟩:=D5 N x.aq x.dq 0 f K acc (by omega);simp only[cond_true,e1,ags,p3,List.drop_one,List.tail_cons,if_true];exact Du (fun f acc hb=>zw N K n l (y::r) f acc (by simp only[agw];omega) hb) rfl (by simp only[agw];omega) e3
  |false=>
   simp only[cond_false,Bool.false_eq_true,if_false];cases hyx:lt y.aq x.aq with
   |true=>
    obtain⟨L,e1,e2,e3⟩:=D5 N y.aq 0 y.dq f K acc (by omega);simp only[cond_true,e1,ags,p3,List.drop_one,List.tail_cons,if_true];exact Du (fun f acc hb=>zw N K n (x::l) r f acc (by simp only[agw];omega) hb) rfl (by simp only[agw];omega) e3
   |false=>
    obtain⟨L,e1,e2,e3⟩:=D5 N x.aq x.dq y.dq f K acc (by omega);simp only[cond_true,cond_false,e1,ags,p3,List.drop_one,List.tail_cons,Bool.false_eq_true,if_false];exact Du (fun f acc hb=>zw N K n l r f acc (by omega) hb) rfl (by omega) e3
theorem Sk(a b:aw):iG a b=bif eK a&&eK b then bif eE (a.xK.toInt+b.xK.toInt)&&(eO a.xL b.xL).all ku then .ok ⟨a.xK+b.xK,(eO a.xL b.xL).filterMap jB⟩else .error .range else .error .arg:=by
 unfold iG;rw[Qt,Hq];cases eK a&&eK b<;>rfl
theorem WD(N:Nat)(hN:16<N)(a b:aw)(hl:a.xL.length+b.xL.length≤1000000000)(hf:a.xL.length+b.xL.length<N):z9 N a b=some (gC dV (iG a b)):=by
 unfold z9 GK;have ha:okLin a:=agL (agL (ag8 _ _) hl) (by decide);have hb:okLin b:=agL (agL (Nat.le_add_left _ _) hl) (by decide);rw[zx N hN a ha,zx N hN b hb,ags,ags,QP,ags,Sk];dsimp only;obtain⟨L,e1,e2⟩:=zw N (a.xK+b.xK) N a.xL b.xL (eE (a.xK.toInt+b.xK.toInt)) [] hf (by simp only[agF];omega);rw[e1,ags];cases eK a with
 |false=>rfl
 |true=>
  cases eK b with
  |false=>rfl
  |true=>
   cases h1:eE (a.xK.toInt+b.xK.toInt)with
   |false=>rfl
   |true=>
    cases h2:(eO a.xL b.xL).all ku with
    |false=>rfl
    |true=>rw[e2 h2];rfl
theorem Nk(N:Nat)(l:List ByteArray)(s:ByteArray)(hl:l.length<1000000000):∀(n i:Nat),i≤l.length→l.length-i<n→u4 N l l.length s n (i:Int)=some ((l.drop i).any fun w=>bL w==bL s)
 |0,i,_,h=>absurd h (agV _)
 |n+1,i,hi,h=>by
  rw[u4,show Nat.beq l.length l.length=true from Nat.beq_refl _,cond_true];by_cases hk:i<l.length
  ·rw[show decide ((i:Int)<(l.length:Int))=true from aha (by omega),show decide ((0:Int)≤(i:Int))=true from aha (by omega),cond_true,cond_true,agU,agx hk,ags,List.drop_eq_getElem_cons hk,ahe,xE (by omega)];dsimp only;rw[Nk N l s hl n (i+1) (by omega) (by omega)];cases bL l[i]==bL s<;>rfl
  ·rw[show decide ((i:Int)<(l.length:Int))=false from ahb (by omega),List.drop_eq_nil_of_le (by omega)];rfl
theorem GL{α:Type}(p:List α)(x:α)(q:List α):(p++x::q)[p.length]?=some x:=by simp
theorem KJ{α:Type}(p:List α)(x y:α)(q:List α):(p++x::q).set p.length y=p++y::q:=by simp
theorem ac2(x s:ByteArray):(!((Op.bytesLess (bL x) (bL s))||(bL x==bL s)))=lt s x:=by
 show(!(lt x s||same x s))=lt s x;cases h1:lt x s with
 |true=>
  cases h2:lt s x with
  |false=>rfl
  |true=>have:=rl h1 h2;rw[uc]at this;cases this
 |false=>
  cases h2:lt s x with
  |false=>rw[A5 h1 h2,wo.2 rfl];rfl
  |true=>
   cases h3:same x s with
   |false=>rfl
   |true=>rw[wo.1 h3,uc]at h2;cases h2
theorem OA(N:Nat)(s:ByteArray):∀(q post:List ByteArray)(n k:Nat),q.length<n→q.length+1+post.length=k+1→k<1000000000→
 tR N k n (q.length:Int) (q.reverse++s::post)=some (k+1,(kh q s).reverse++post)
 |[],post,n+1,k,_,hk,_=>by
  rw[tR,show decide ((([]:List ByteArray).length:Int)>0)=false from rfl];rfl
 |x::q,post,n+1,k,hn,hk,hb=>by
  simp only[agw]at hn hk;have hL:(((x::q).reverse++s::post).length)=k+1:=by simp only[agu,List.length_reverse,agw];omega
  have hw:a7 (((x::q).length:Int)-1)=(q.length:Int):=by
   rw[agw,show(((q.length+1:Nat):Int)-1)=((q.length:Nat):Int) by omega];exact yv (by omega)
  have c1:decide (((x::q).length:Int)>0)=true:=aha (by simp only[agw];omega);have c2:decide ((0:Int)≤(q.length:Int))=true:=aha (by omega);have c3:decide ((q.length:Int)<((k+1):Int))=true:=aha (by omega);have c4:decide ((0:Int)≤((x::q).length:Int))=true:=aha (by simp only[agw];omega);have c5:decide (((x::q).length:Int)<((k+1):Int))=true:=aha (by simp only[agw];omega);have e1:(x::q).reverse++s::post=q.reverse++x::s::post:=by rw[List.reverse_cons,agK];rfl
  have g1:((x::q).reverse++s::post)[q.length]?=some x:=by rw[e1];have:=GL q.reverse x (s::post);rw[List.length_reverse]at this;exact this
  have g2:((x::q).reverse++s::post)[(x::q).length]?=some s:=by have:=GL (x::q).reverse s post;rw[List.length_reverse]at this;exact this
  have s1:((x::q).reverse++s::post).set (x::q).length x=q.reverse++x::x::post:=by
   have:=KJ (x::q).reverse s x post;rw[List.length_reverse]at this;rw[this,List.reverse_cons,agK];rfl
  have g3:(q.reverse++x::x::post)[q.length]?=some x:=by have:=GL q.reverse x (x::post);rw[List.length_reverse]at this;exact this
  have s2:(q.reverse++x::x::post).set q.length s=q.reverse++s::x::post:=by have:=KJ q.reverse x s (x::post);rw[List.length_reverse]at this;exact this
  have hL2:(q.reverse++x::x::post).length=k+1:=by simp only[agu,List.length_reverse,agw];omega
  rw[tR,hw,c1,hL,show Nat.beq (k+1) (k+1)=true from Nat.beq_refl _,c2,c3,c4,c5];simp only[cond_true,agU,g1,g2,ags];rw[ac2,kh];cases aO:lt s x with
  |false=>
   simp only[cond_false,Bool.false_eq_true,if_false];rw[e1,List.reverse_cons,List.reverse_cons,agK,agK];rfl
  |true=>
   simp only[cond_true,if_true,s1,hL2,g3,s2,ags,show Nat.beq (k+1) (k+1)=true from Nat.beq_refl _];rw[OA N s q (x::post) n k (by omega) (by simp only[agw];omega) hb,List.reverse_cons,agK];rfl
theorem af5(N:Nat)(l:List ByteArray)(s:ByteArray)(hl:l.length<1000000)(hN:1000000<N):AM N l.length s l=some ((j5 l s).length,j5 l s):=by
 unfold AM FT j5;have h0:=Nk N l s (by omega) N 0 (Nat.zero_le _) (by omega);rw[ag2]at h0;rw[show((0:Nat):Int)=(0:Int)from rfl]at h0;rw[h0,ags];show _=some ((if l.any (fun w=>bL w==bL s)=true then l else(kh l.reverse s).reverse).length,_);show _=some (_,(if l.any (fun w=>bL w==bL s)=true then l else(kh l.reverse s).reverse));cases l.any fun w=>bL w==bL s with
 |true=>rfl
 |false=>
  have hL:(l++[s]).length=l.length+1:=by simp
  rw[hL,show Nat.beq l.length l.length=true from Nat.beq_refl _,show Nat.beq (l.length+1) (l.length+1)=true from Nat.beq_refl _,eP (by omega)];simp only[cond_true,cond_false,Bool.false_eq_true,if_false];have:=OA N s l.reverse [] N l.length (by rw[List.length_reverse];omega) (by rw[List.length_reverse];rfl) (by omega);rw[List.length_reverse,List.reverse_reverse,agO]at this;rw[show a7 ((l.length:Int)+1-1)=(l.length:Int) by rw[show((l.length:Int)+1-1)=((l.length:Nat):Int) by omega];exact yv (by omega)];rw[this];have hlen:(kh l.reverse s).reverse.length=l.length+1:=by
    have L1:∀(q:List ByteArray),(kh q s).length=q.length+1:=by
     intro q
     induction q with
     |nil=>rfl
     |cons x q ih=>rw[kh];split<;>simp [ih]
    rw[List.length_reverse,L1,List.length_reverse]
  rw[hlen]
theorem Qg(l:List ByteArray)(s:ByteArray):(j5 l s).length≤l.length+1:=by
 have L1:∀(q:List ByteArray),(kh q s).length=q.length+1:=by
  intro q
  induction q with
  |nil=>rfl
  |cons x q ih=>rw[kh];split<;>simp [ih]
 unfold j5;split
 ·omega
 ·rw[List.length_reverse,L1,List.length_reverse];exact agE _
theorem KC(N:Nat)(hN:1000000<N)(c:Nat→List ByteArray→Option (List ByteArray)):∀(l:List aF)(k:Nat)(L:List ByteArray),L.length+l.length<1000000→
 vH N c l k L.length L=c ((l.map (·.aq)).foldl j5 L).length ((l.map (·.aq)).foldl j5 L)
 |[],_,_,_=>rfl
 |m::l,k,L,h=>by
  simp only[agw]at h;rw[vH,af5 N L m.aq (by omega) hN,ags];dsimp only;rw[KC N hN c l (k+1) (j5 L m.aq) (by have:=Qg L m.aq;omega)];rfl
theorem Jc:∀(l L:List ByteArray),(l.foldl j5 L).length≤L.length+l.length
 |[],_=>agE _
 |s::l,L=>by
  rw[List.foldl_cons];have h1:=Jc l (j5 L s);have h2:=Qg L s;simp only[agw];omega
theorem aeU(N:Nat)(hN:1000000<N)(a b:aw)(h:a.xL.length+b.xL.length<900000):Bh N [a,b]=some (sM [a,b]):=by
 unfold Bh sM;have ha:=KC N hN (fun ck eQ=>og N [b] 1 ck eQ) a.xL 0 [] (by simp only[agF];omega);rw[og];refine Eq.trans ha ?_;have hl:=Jc (a.xL.map (·.aq)) [];simp only[agF,agy]at hl;rw[og,KC N hN _ b.xL 0 _ (by omega)];rw[og,show Nat.beq _ _=true from Nat.beq_refl _,cond_true];rw[List.flatMap_cons,List.flatMap_cons,List.flatMap_nil,agO,List.foldl_append]
theorem Mv(N:Nat)(s:ByteArray):∀(l:List aF)(k:Nat),∃c:Int64,vt N s l k=some c∧c.toInt=iM l s
 |[],_=>⟨0,rfl,rfl⟩
 |m::l,k=>by
  obtain⟨c,h1,h2⟩:=Mv N s l (k+1);rw[vt,h1,iM];show ∃c',(bif same m.aq s then _ else _)=_∧_;cases same m.aq s with
  |true=>exact⟨_,rfl,rfl⟩
  |false=>exact⟨c,rfl,h2⟩
theorem Kv(N:Nat)(q:Int64×Bool)(a b:aw):∀(l:List ByteArray)(k:Nat)(acc:List aF),acc.length+l.length≤1000000000→
 qP N q a b l k acc=some (bif (l.map fun n=>(n,iM a.xL n,iM b.xL n)).all ku then((⟨q.1,acc++(l.map fun n=>(n,iM a.xL n,iM b.xL n)).filterMap jB⟩:aw),0)else(dV,3))
 |[],_,acc,_=>by rw[qP,List.map_nil,List.filterMap_nil,agO];rfl
 |s::l,k,acc,h=>by
  simp only[agw]at h;obtain⟨x,hx,ex⟩:=Mv N s a.xL 0;obtain⟨y,hy,ey⟩:=Mv N s b.xL 0;rw[qP];unfold Dg;rw[hx,hy,ags,ags,PV,ags,eP (by omega),agS,ahd,←ex,←ey];simp only[cond_true];rw[Kv N q a b l (k+1) acc (by omega),Kv N q a b l (k+1) _ (by simp only[agu,agw,agF];omega)];unfold FZ;rw[show ku (s,x.toInt,y.toInt)=eE (x.toInt+y.toInt)from rfl];cases hf:eE (x.toInt+y.toInt)with
  |false=>rfl
  |true=>
   simp only[cond_true,Bool.true_and];have e:(x+y).toInt=x.toInt+y.toInt:=by
    rw[rH]at hf;rw[H8,IntKind.wrap_i64];omega
   rw[List.filterMap_cons];cases hz:(x+y).toInt !=0 with
   |true=>
    have hk:jB (s,x.toInt,y.toInt)=some ⟨s,x+y⟩:=by
     unfold jB;rw[if_neg (by show ¬x.toInt+y.toInt=0;rw[←e];exact bne_iff_ne.1 hz),Hq]
    rw[hk,cond_true,agK];rfl
   |false=>
    have hk:jB (s,x.toInt,y.toInt)=none:=by
     unfold jB;rw[if_pos (by show x.toInt+y.toInt=0;rw[←e];exact jy hz)]
    rw[hk];rfl
theorem aah(N:Nat)(hN:1000000<N)(a b:aw)(hl:a.xL.length+b.xL.length<900000):Ar N a b=some (gC dV (iG a b)):=by
 unfold Ar;have ha:okLin a:=agL (agL (ag8 _ _) (Nat.le_of_lt hl)) (by decide);have hb:okLin b:=agL (agL (Nat.le_add_left _ _) (Nat.le_of_lt hl)) (by decide);have hn:(sM [a,b]).length≤900000:=by
  unfold sM;have:=Jc ([a,b].flatMap fun x=>x.xL.map (·.aq)) [];simp only[List.flatMap_cons,List.flatMap_nil,agO,agu,agy,agF]at this ⊢;omega
 rw[MF N (by omega) a ha,MF N (by omega) b hb,ags,ags,PV,ags,aeU N hN a b hl,ags,Kv N _ _ _ _ _ _ (by simp only[agF];omega),←aal];unfold Ma FZ;rw[Qt,Hq];cases eK a with
 |false=>rfl
 |true=>
  cases eK b with
  |false=>rfl
  |true=>
   cases eE (a.xK.toInt+b.xK.toInt)with
   |false=>rfl
   |true=>cases ((sM [a,b]).map fun n=>(n,iM a.xL n,iM b.xL n)).all ku<;>rfl
def qb(e:ao):Prop:=∀x∈dN e,nU x=true∧nP x=true
theorem qb.arg{e x:ao}(h:qb e)(hx:x∈e.aT):qb x:=fun y hy=>h y (Ap hx hy)
theorem qb.len{e:ao}(h:qb e):(e.aT.length:Int)=ph e.bg:=by
 have:=(h e agz).1;unfold nU at this;rw[agv,beq_iff_eq]at this;exact this.1
theorem qb.op{e:ao}(h:qb e):1≤e.bg∧e.bg≤18:=by
 have:=(h e agz).2;unfold nP at this;simp only[agv,decide_eq_true_eq]at this;exact⟨this.1,this.2.1⟩
theorem Uz:∀l:List ao,kj l=0→∀x∈l,mQ x=0
 |[],_,x,hx=>by cases hx
 |y::l,h,x,hx=>by
  rw[kj]at h;cases e:mQ y !=0 with
  |true=>rw[e,cond_true]at h;rw[h]at e;cases e
  |false=>
   rw[e,cond_false]at h;rcases agX.1 hx with rfl|hx
   ·exact jy e
   ·exact Uz l h x hx
theorem Kz{e:ao}(h:mU e=0):∀x∈dN e,mQ x=0:=fun x hx=>by
 unfold mU at h;cases h1:decide (40<iK 40 e)with
 |true=>rw[h1]at h;cases h
 |false=>
  cases h2:decide (2000<(dN e).length)with
  |true=>rw[h1,h2]at h;cases h
  |false=>rw[h1,h2]at h;exact Uz (dN e) h x hx
theorem I7{x:ao}(h:mQ x=0):nP x=true∧qw x=true∧nU x=true∧mS x=true∧sX x=true:=by
 unfold mQ at h;cases p:nP x<;>cases q:qw x<;>cases r:nU x<;>cases s:mS x<;>cases t:sX x<;>rw[p,q,r,s,t]at h<;>first|exact⟨rfl,rfl,rfl,rfl,rfl⟩|(exact absurd h (by decide))
theorem abZ{e:ao}(h:mU e=0):qb e:=fun x hx=>⟨(I7 (Kz h x hx)).2.2.1,(I7 (Kz h x hx)).1⟩
section
variable {α:Type}
theorem Z9{l:List α}(h:(l.length:Int)=1):∃a,l=[a]:=by
 match l,h with
 |[a],_=>exact⟨a,rfl⟩
 |[],h=>simp at h
 |a::b::l,h=>simp at h;omega
theorem VQ{l:List α}(h:(l.length:Int)=2):∃a b,l=[a,b]:=by
 match l,h with
 |[a,b],_=>exact⟨a,b,rfl⟩
 |[],h=>simp at h
 |[a],h=>simp at h
 |a::b::c::l,h=>simp at h;omega
theorem ade{l:List α}(h:(l.length:Int)=3):∃a b c,l=[a,b,c]:=by
 match l,h with
 |[a,b,c],_=>exact⟨a,b,c,rfl⟩
 |[],h=>simp at h
 |[a],h=>simp at h
 |[a,b],h=>simp at h
 |a::b::c::d::l,h=>simp at h;omega
end
def vO(a b:Option (bB×Int)):Prop:=∃t t' x,a=some (t,x)∧b=some (t',x)∧(x=0→t=t')
theorem VY{α:Type}(f:α→Int)(x:α):gv f [x]=f x:=by
 rw[gv,gv];cases e:f x !=0 with
 |true=>rfl
 |false=>exact(jy e).symm
theorem afc{op:Int}(h1:1≤op)(h2:op≤18):(op=1∨op=2∨op=3∨op=8∨op=11∨op=12)∨(op=4∨op=5∨op=6∨op=7∨op=9∨op=10)∨(op=13∨op=14∨op=15)∨(op=16∨op=17∨op=18):=by omega
section
variable {N:Nat} {m:List (ByteArray×Int)} {vars:List ByteArray} {p p':aY}
theorem aaM(hV:VN m (vars++p'.bx))(hP:p.bu=p'.bu)(xh:p.aA=p'.aA)(yb:mZ p.bu)(kE:iI p.aA)(e:ao)(h1:1≤e.bg)(h2:e.bg≤18)(acc:List bB)(hl:(acc.length:Int)=ph e.bg)
 (r1:ao→aY→List (ByteArray×Int)→Option (bB×Int)) (r2:aY→List ByteArray→ao→Option (bB×Int)) (k:Nat):
 vO (oX N e p m r1 [] k acc) (lR N e p' vars r2 [] k acc):=by
 rw[oX,lR];unfold By yn zn z8;rcases afc h1 h2 with(h|h|h|h|h|h)|(h|h|h|h|h|h)|(h|h|h)|(h|h|h)
 ·rw[h];exact⟨_,_,_,rfl,rfl,fun _=>rfl⟩
 ·rw[h,Kn N hV,TH,VY];exact⟨_,_,_,rfl,rfl,fun _=>rfl⟩
 ·rw[h,aaf N hV p yb kE,Uu N vars p' (xh▸kE),hP,xh];exact⟨_,_,_,rfl,rfl,fun _=>rfl⟩
 ·rw[h]at hl;obtain⟨a,rfl⟩:=Z9 hl;rw[h];exact⟨_,_,_,rfl,rfl,fun _=>rfl⟩
 ·rw[h]at hl;obtain⟨a,b,c,rfl⟩:=ade hl;rw[h];show vO (Option.bind (bif _ then _ else _) _) (bif _ then _ else _);cases ((b.cA==c.cA)&&((b.cD==c.cD)&&((b.dg==c.dg)&&((b.de==c.de)&&((b.dc==c.dc)&&true)))))with
  |true=>exact⟨_,_,_,rfl,rfl,fun _=>rfl⟩
  |false=>exact⟨_,_,_,rfl,rfl,fun h=>by cases h⟩
 ·rw[h];exact⟨_,_,_,rfl,rfl,fun _=>rfl⟩
 all_goals first
  |(rw[h];exact⟨_,_,_,rfl,rfl,fun _=>rfl⟩)
  |(rw[h]at hl
    obtain⟨a,b,rfl⟩:=VQ hl;rw[h];show vO (Option.bind (bif _ then _ else _) _) (bif _ then _ else _);cases ((a.cA==b.cA)&&((a.cD==b.cD)&&((a.dg==b.dg)&&((a.de==b.de)&&((a.dc==b.dc)&&true)))))with
    |true=>exact⟨_,_,_,rfl,rfl,fun _=>rfl⟩
    |false=>exact⟨_,_,_,rfl,rfl,fun h=>by cases h⟩)
theorem TY(e:ao)(r1:ao→aY→List (ByteArray×Int)→Option (bB×Int))(r2:aY→List ByteArray→ao→Option (bB×Int)):
 ∀(l:List ao)(k:Nat)(acc:List bB),acc.length+l.length≤1000000000→(∀x∈l,vO (r1 x p m) (r2 p' vars x))→
  (∀(oU:List bB)(k':Nat),oU.length=acc.length+l.length→vO (oX N e p m r1 [] k' oU) (lR N e p' vars r2 [] k' oU))→
  vO (oX N e p m r1 l k acc) (lR N e p' vars r2 l k acc)
 |[],k,acc,_,_,he=>he acc k rfl
 |x::l,k,acc,hb,hx,he=>by
  rw[oX,lR];obtain⟨t,t',z,e1,e2,e3⟩:=hx x agz;rw[e1,e2,ags,ags];dsimp only;cases hz:z !=0 with
  |true=>exact⟨_,_,_,rfl,rfl,fun _=>rfl⟩
  |false=>
   obtain rfl:=e3 (jy hz);simp only[agw]at hb;rw[eP (by omega)];exact TY e r1 r2 l (k+1) (acc++[t]) (by simp only[agu,agw,agF];omega) (fun y hy=>hx y (agC _ hy)) fun oU k' h'=>he oU k' (by simp only[agu,agw,agF]at*;omega)
theorem N6(hV:VN m (vars++p'.bx))(hP:p.bu=p'.bu)(xh:p.aA=p'.aA)(yb:mZ p.bu)(kE:iI p.aA):
 ∀(d:Nat)(e:ao),SizeOf.sizeOf e<d→qb e→vO (tH N d e p m) (oG N d p' vars e)
 |0,_,h,_=>absurd h (agV _)
 |d+1,e,h,hr=>by
  rw[tH,oG];have hlen:=hr.len;have h3:(e.aT.length:Int)≤3:=by
    rw[hlen];unfold ph;cases (e.bg==1||(e.bg==2||e.bg==3))<;>cases (e.bg==8||(e.bg==12||e.bg==18))<;>cases e.bg==11<;>decide
  refine TY e _ _ e.aT 0 [] (by simp only[agF];omega) (fun x hx=>N6 hV hP xh yb kE d x (by have:=lk hx;omega) (hr.arg hx)) fun oU k' h'=> ?_;exact aaM hV hP xh yb kE e hr.op.1 hr.op.2 oU (by rw[h',←hlen];simp only[agF,agN]) _ _ k'
end
theorem aeu{m:List (ByteArray×Int)}{V W:List ByteArray}(h:VN m V)(e:∀s,dn W s=dn V s)(hl:V.length≤W.length):VN m W:=⟨fun s=>by rw[h.val,e],agL h.len hl⟩
theorem PB(N:Nat)(e:ao)(p:aY):∀(l:List ByteArray)(k:Nat)(m:List (ByteArray×Int))(V:List ByteArray),VN m V→V.length+l.length<1000000000→∃m' k',VN m' (V++l)∧pk N e p l k m=pk N e p [] k' m'
 |[],k,m,V,h,_=>⟨m,k,by rw[agO];exact h,rfl⟩
 |s::l,k,m,V,h,hb=>by
  simp only[agw]at hb;rw[pk,show Nat.blt m.length 9223372036854775807=true from Nat.ble_eq_true_of_le (by have:=h.len;omega),cond_true];obtain⟨m',k',h1,h2⟩:=PB N e p l (k+1) _ _ (h.add s 3 rfl) (by simp only[agu,agw,agF];omega);exact⟨m',k',by rw[agK]at h1;exact h1,h2⟩
theorem S4(N:Nat)(e:ao)(p:aY)(vars:List ByteArray):∀(l:List ByteArray)(k:Nat)(m:List (ByteArray×Int))(V:List ByteArray),VN m V→V.length+l.length<1000000000→∃m',VN m' (V++l)∧uY N e p vars l k m=pk N e p vars 0 m'
 |[],k,m,V,h,_=>⟨m,by rw[agO];exact h,rfl⟩
 |s::l,k,m,V,h,hb=>by
  simp only[agw]at hb;rw[uY,show Nat.blt m.length 9223372036854775807=true from Nat.ble_eq_true_of_le (by have:=h.len;omega),cond_true];obtain⟨m',h1,h2⟩:=S4 N e p vars l (k+1) _ _ (h.add s 1 rfl) (by simp only[agu,agw,agF];omega);exact⟨m',by rw[agK]at h1;exact h1,h2⟩
theorem aaN(N:Nat)(hN:2147483648<N)(p p':aY)(vars:List ByteArray)(e:ao)(hs:SizeOf.sizeOf e<N)(h:nj e)(hS:p.bx=p'.bx)(hP:p.bu=p'.bu)(xh:p.aA=p'.aA)(yb:mZ p.bu)(kE:iI p.aA)
 (hl:p.bx.length+vars.length<1000000000):∃t x,CP N p vars e=some (t,x)∧uw N p' vars e=some (t,x)∧(x=0→mU e=0):=by
 unfold CP uw;rw[Vs N hN e h,ZI N hN e hs h,ags,ags];cases hv:mU e !=0 with
 |true=>exact⟨_,_,rfl,rfl,fun h0=>h0⟩
 |false=>
  have hv:=jy hv;simp only[cond_false];rw[Qo,Lb,ags,ags];cases qx e with
  |true=>exact⟨_,_,rfl,rfl,fun h0=>by cases h0⟩
  |false=>
   simp only[cond_false];obtain⟨m1,h1,e1⟩:=S4 N e p vars p.bx 0 [] [] ⟨fun _=>rfl,agE _⟩ (by simp only[agF];omega);obtain⟨m2,k2,h2,e2⟩:=PB N e p vars 0 m1 _ h1 (by simp only[agF,List.nil_append];omega);rw[e1,e2,pk];have hV:VN m2 (vars++p'.bx):=aeu h2 (fun s=>by rw[List.nil_append,kp,kp,hS,Bool.or_comm]) (by rw[hS];simp only[agu,List.nil_append];omega);unfold Ls CK;obtain⟨t,t',x,a1,a2,a3⟩:=N6 (N:=N) hV hP xh yb kE N e hs (abZ hv);rw[a1,a2,ags,ags];dsimp only;cases hx:x !=0 with
   |true=>exact⟨_,_,rfl,rfl,fun _=>hv⟩
   |false=>obtain rfl:=a3 (jy hx);exact⟨_,_,rfl,rfl,fun _=>hv⟩
theorem yz{y:ao}:∀{l:List ao},y∈jW l→∃x∈l,y∈dN x
 |[],h=>by rw[jW]at h;cases h
 |x::l,h=>by
  rw[y5]at h;rcases ag5.1 h with h|h
  ·exact⟨x,agz,h⟩
  ·obtain⟨z,h1,h2⟩:=yz h;exact⟨z,agC _ h1,h2⟩
theorem Xg{t t':bB}{x:Int}(h:wQ t x=(t',0)):x=0:=congrArg Prod.snd h
theorem Q6(N:Nat)(e:ao)(p:aY)(vars:List ByteArray)(rec:aY→List ByteArray→ao→Option (bB×Int)):
 ∀(l:List ao)(k:Nat)(acc:List bB)(t:bB),lR N e p vars rec l k acc=some (t,0)→
  (∀x∈l,∃t',rec p vars x=some (t',0))∧∃k' oU,lR N e p vars rec [] k' oU=some (t,0)
 |[],k,acc,t,h=>⟨fun _ hx=>(by cases hx),k,acc,h⟩
 |x::l,k,acc,t,h=>by
  rw[lR]at h;cases hr:rec p vars x with
  |none=>rw[hr]at h;cases h
  |some q=>
   rw[hr,ags]at h;cases hz:q.2 !=0 with
   |true=>rw[hz,cond_true]at h;rw[(Prod.mk.inj (agM h)).2]at hz;cases hz
   |false=>
    rw[hz,cond_false]at h;cases hb:Nat.ble ((acc.length+1)*40) 140737488355328 with
    |false=>rw[hb]at h;cases h
    |true=>
     rw[hb,cond_true]at h;obtain⟨h1,h2⟩:=Q6 N e p vars rec l (k+1) (acc++[q.1]) t h;refine⟨fun y hy=> ?_,h2⟩;rcases agX.1 hy with rfl|hy
     ·exact⟨q.1,by rw[hr,←jy hz]⟩
     ·exact h1 y hy
theorem UH(N:Nat)(p:aY)(vars:List ByteArray)(kE:iI p.aA):∀(d:Nat)(e:ao)(t:bB),oG N d p vars e=some (t,0)→∀y∈dN e,y.bg=3→rJ (vars++p.bx) p.bu p.aA y=0
 |0,e,t,h=>by cases h
 |d+1,e,t,h=>by
  rw[oG]at h;obtain⟨h1,k',oU,h2⟩:=Q6 N e p vars _ _ _ _ _ h;intro y hy eW;rcases agX.1 hy with rfl|hy
  ·rw[lR,eW,Uu N vars p kE]at h2;exact Xg (agM h2)
  ·obtain⟨x,hx,hy⟩:=yz hy;obtain⟨t',h3⟩:=h1 x hx;exact UH N p vars kE d x t' h3 y hy eW
theorem adD(N:Nat)(p:aY)(vars:List ByteArray)(kE:iI p.aA)(e:ao)(t:bB)(h:uw N p vars e=some (t,0)):∀y∈dN e,y.bg=3→rJ (vars++p.bx) p.bu p.aA y=0:=by
 unfold uw at h;cases e1:ye N e with
 |none=>rw[e1]at h;cases h
 |some a=>
  rw[e1,ags]at h;cases h1:a !=0 with
  |true=>rw[h1,cond_true]at h;rw[(Prod.mk.inj (agM h)).2]at h1;cases h1
  |false=>
   rw[h1,cond_false,Lb,ags]at h;cases h2:qx e with
   |true=>rw[h2]at h;cases h
   |false=>
    rw[h2,cond_false]at h;cases e3:CK N p vars e with
    |none=>rw[e3]at h;cases h
    |some q=>
     rw[e3,ags]at h;cases h4:q.2 !=0 with
     |true=>rw[h4,cond_true]at h;rw[(Prod.mk.inj (agM h)).2]at h4;cases h4
     |false=>exact UH N p vars kE N e q.1 (by unfold CK at e3;rw[e3,←jy h4])
structure Bd(N:Nat)(p:aY):Prop where
 s:p.bx.length≤1000
 w:p.cX.length≤1000
 q:p.bu.length≤1000
 d:p.aA.length≤1000
 o:p.cU.length≤1000
 P:mZ p.bu
 D:iI p.aA
 W:∀c∈p.cX,gX 1000000000 c.aQ
 E:∀d∈p.aA,nj d.bE∧SizeOf.sizeOf d.bE<N
def af3(d:aL):List ByteArray:=(d.aJ++d.bG).map (·.aq)
structure yd(p:aY)(k:Nat)(d:aL):Prop where
 par:dn (p.bu.map (·.aq)) d.aq=false
 body:mU d.bE=0
 ZQ:n6 p.bx [] (d.aJ++d.bG)=0
 reads:∀y∈dN d.bE,y.bg=3→rJ (af3 d++p.bx) p.bu (p.aA.take k) y=0
theorem Tv{D:List aL}(h:iI D)(k:Nat):iI (D.take k):=⟨fun d hd=>h.len d (List.mem_of_mem_take hd),fun d hd=>h.kT d (List.mem_of_mem_take hd)⟩
section
variable {N:Nat} {p:aY}
theorem ZU(hN:2147483648<N)(B:Bd N p){m:List (ByteArray×Int)}{T:List ByteArray}{k:Nat}{d:aL}(h:KN m p.bx T)(hd:p.aA[k]?=some d)(hT:T.length≤1000000)(hq:∀s,dn (p.bu.map (·.aq)) s=true→dn T s=true):
 ∃x m',Ca N (k:Int) p m=some (x,m')∧Bu N p (k:Int) (p.bx++T)=some x∧(x=0→KN m' p.bx (T++[d.aq])∧yd p k d):=by
 have iC:=yN hd;have agp:=B.D.len d iC;have hlen:d.aJ.length+d.bG.length<1000000000:=by omega
 have Pm:∀x∈d.aJ++d.bG,okLin x.dS:=fun x hx=>(B.D.kT d iC x hx).ok;have hs:=B.s;unfold Ca Bu;rw[show decide ((0:Int)≤(k:Int))=true from aha (by omega),agU,hd,cond_true,cond_true,ags,ags,
  IS N (by omega) _ 2 p h (by omega),Gf N (by omega),ags,ags,aek,MN,ags,ags,Cf,Cf]
 dsimp only;cases e:iZ (p.bx++T) d.aq !=0 with
 |true=>exact⟨_,_,rfl,rfl,fun h0=>by rw[h0]at e;cases e⟩
 |false=>
  have e0:=jy e;have k1:=h.OH (He e0).2;rw[e0];simp only[cond_false,ahc,cond_true];cases iW d.aB with
  |false=>exact⟨_,_,rfl,rfl,fun h0=>by cases h0⟩
  |true=>
   simp only[cond_true];rw[show(bif !decide (d.aJ.length≤6)then some true else some !decide (d.bG.length≤6))=some (!(decide (d.aJ.length≤6)&&decide (d.bG.length≤6))) by cases decide (d.aJ.length≤6)<;>cases decide (d.bG.length≤6)<;>rfl,ags];cases decide (d.aJ.length≤6)&&decide (d.bG.length≤6)with
   |false=>exact⟨_,_,rfl,rfl,fun h0=>by cases h0⟩
   |true=>
    simp only[cond_true,Bool.not_true,cond_false];rw[eP (by omega),eP (by omega),X2 N (by omega) d p k1 Pm hlen,Zy N (by omega) _ _ Pm (by simp only[agu];omega)];simp only[ags,cond_true,bne_self_eq_false,cond_false];cases ea:n6 p.bx [] (d.aJ++d.bG) !=0 with
    |true=>exact⟨_,_,rfl,rfl,fun h0=>by rw[h0]at ea;cases ea⟩
    |false=>
     simp only[cond_false];rw[adF,adU,ags,ags];cases ef:D8 d !=0 with
     |true=>exact⟨_,_,rfl,rfl,fun h0=>by rw[h0]at ef;cases ef⟩
     |false=>
      simp only[cond_false];have hk:k<p.aA.length:=by
       by_cases hk:k<p.aA.length
       ·exact hk
       ·rw[agZ (by omega)]at hd;cases hd
      rw[show decide (k≤p.aA.length)=true from aha (by omega),cond_true,cond_true,YY N d hlen,X0 N d hlen,ags,ags,ag2];obtain⟨t,x,a1,a2,a3⟩:=aaN N hN ⟨p.bx,p.cX,p.bu,p.aA.take k,p.cU⟩ ⟨p.bx,[],p.bu,p.aA.take k,[]⟩ ((d.aJ++d.bG).map (·.aq)) d.bE (B.E d iC).2 (B.E d iC).1 rfl rfl rfl B.P (Tv B.D k)
        (by simp only[agy,agu];omega)
      rw[a1,a2,ags,ags];dsimp only;cases ex:x !=0 with
      |true=>exact⟨_,_,rfl,rfl,fun h0=>by rw[h0]at ex;cases ex⟩
      |false=>
       have x0:=jy ex;simp only[cond_false];cases ((t.cA==d.aB.cA)&&((t.cD==d.aB.cD)&&((t.dg==d.aB.dg)&&((t.de==d.aB.de)&&((t.dc==d.aB.dc)&&true)))))with
       |false=>exact⟨_,_,rfl,rfl,fun h0=>by cases h0⟩
       |true=>
        refine⟨_,_,rfl,rfl,fun _=>⟨k1,?_,a3 x0,jy ea,?_⟩⟩
        ·cases eq:dn (p.bu.map (·.aq)) d.aq with
         |false=>rfl
         |true=>
          have:=(He e0).2;rw[kp,hq _ eq,Bool.or_true]at this;cases this
        ·rw[x0]at a2;exact adD N _ _ (Tv B.D k) d.bE t a2
def AS(p:aY):Bool:=decide (p.bx.length≤64)&&(decide (p.bu.length≤64)&&(decide (p.aA.length≤64)&&(decide (p.cU.length≤64)&&decide (p.cX.length≤256))))
theorem afW:C9 N p=some (AS p):=by
 unfold C9 AS;simp only[GD];rw[show decide (((max (max (max p.bx.length p.bu.length) p.aA.length) p.cU.length:Nat):Int)≤64)=decide (max (max (max p.bx.length p.bu.length) p.aA.length) p.cU.length≤64)from ud _ 64,show decide ((p.cX.length:Int)≤256)=decide (p.cX.length≤256)from ud _ 256];rw[show decide (max (max (max p.bx.length p.bu.length) p.aA.length) p.cU.length≤64)=(decide (p.bx.length≤64)&&(decide (p.bu.length≤64)&&(decide (p.aA.length≤64)&&decide (p.cU.length≤64)))) by
  rw[Bool.eq_iff_iff];simp only[agv,decide_eq_true_iff];omega]
 cases decide (p.bx.length≤64)<;>cases decide (p.bu.length≤64)<;>cases decide (p.aA.length≤64)<;>cases decide (p.cU.length≤64)<;>rfl
theorem V3:(bif (decide ((p.bx.length:Int)>(64:Int)))then some true else(bif (decide ((p.bu.length:Int)>(64:Int)))then some true else(bif (decide ((p.aA.length:Int)>(64:Int)))then some true else(bif (decide ((p.cU.length:Int)>(64:Int)))then some true else some (decide ((p.cX.length:Int)>(256:Int)))))))=some (!AS p):=by
 unfold AS;rw[show ∀n:Nat,decide ((n:Int)>64)= !decide (n≤64)from fun n=>jP n 64];rw[show decide ((p.bu.length:Int)>64)= !decide (p.bu.length≤64)from jP _ 64,show decide ((p.aA.length:Int)>64)= !decide (p.aA.length≤64)from jP _ 64,show decide ((p.cU.length:Int)>64)= !decide (p.cU.length≤64)from jP _ 64,show decide ((p.cX.length:Int)>256)= !decide (p.cX.length≤256)from jP _ 256];cases decide (p.bx.length≤64)<;>cases decide (p.bu.length≤64)<;>cases decide (p.aA.length≤64)<;>cases decide (p.cU.length≤64)<;>rfl
def xp:List ByteArray→List ByteArray→Int
 |_,[]=>0
 |S,s::l=>bif iZ S s !=0 then iZ S s else xp (S++[s]) l
theorem KE(hN:16<N):∀(l:List ByteArray)(k:Nat)(m:List (ByteArray×Int))(S:List ByteArray),KN m S []→S.length+l.length≤1000→
 ∃m',KN m' (S++l) []∧vh N p l k m=bif xp S l !=0 then some (0,xp S l)else tQ N p m' p.cX 0
 |[],k,m,S,h,_=>⟨m,by rw[agO];exact h,rfl⟩
 |s::l,k,m,S,h,hb=>by
  simp only[agw]at hb;rw[vh,IS N hN s 1 p h (by simp only[agF];omega),ags,agO,xp];dsimp only;cases e:iZ S s !=0 with
  |true=>
   obtain⟨m',h1,_⟩:=KE hN l k _ _ (h.wD s) (by simp only[agu,agw,agF];omega);refine⟨m',by rw[agK]at h1;exact h1,?_⟩;simp only[cond_true];rw[e];rfl
  |false=>
   rw[jy e];obtain⟨m',h1,h2⟩:=KE hN l (k+1) _ _ (h.wD s) (by simp only[agu,agw,agF];omega);exact⟨m',by rw[agK]at h1;exact h1,h2⟩
theorem af1{α:Type}{L l:List α}{x:α}{k:Nat}(h:L.drop k=x::l):L.take (k+1)=L.take k++[x]:=by
 have:=bj h;rw[List.take_add_one,this];rfl
theorem kL{α:Type}{L l:List α}{x:α}{k:Nat}(h:L.drop k=x::l):L.drop (k+1)=l:=by
 rw[←List.drop_drop,h];rfl
theorem En{α:Type}{L l:List α}{x:α}{k:Nat}(h:L.drop k=x::l):k<L.length:=by
 by_cases hk:k<L.length
 ·exact hk
 ·rw[List.drop_eq_nil_of_le (by omega)]at h;cases h
theorem OY(hN:16<N):∀(l:List ByteArray)(k:Nat),p.bx.drop k=l→vW N p l k=some (xp (p.bx.take k) l)
 |[],_,_=>rfl
 |s::l,k,h=>by
  rw[vW,agU,show decide (k≤p.bx.length)=true from aha (by have:=En h;omega),cond_true,ag2,Gf N hN,ags,xp,OY hN l (k+1) (kL h),af1 h];cases iZ (p.bx.take k) s !=0<;>rfl
theorem OD(hN:16<N){m:List (ByteArray×Int)}(h:KN m p.bx []):∀(l:List cF)(k:Nat),(∀c∈l,gX 1000000000 c.aQ)→
 tQ N p m l k=bif gv (fun c=>ik p.bx c.aQ) l !=0 then some (1,gv (fun c=>ik p.bx c.aQ) l)else q7 N p p.bu 0 2 m
 |[],_,_=>rfl
 |c::l,k,hc=>by
  have ok:okLin c.aQ:=(hc c agz).ok;have e1:Cb N c p m=some (ik p.bx c.aQ):=by
   unfold Cb Hp;rw[zx N hN _ ok,ags,ags,MC N hN _ p ok h];unfold ik;cases eK c.aQ<;>rfl
  rw[tQ,e1,ags,gv,OD hN h l (k+1) fun y hy=>hc y (agC _ hy)];cases e:ik p.bx c.aQ !=0 with
  |true=>simp only[cond_true];rw[e];rfl
  |false=>rfl
theorem Pn(hN:16<N)(hs:p.bx.length≤1000):∀(l:List cF)(k:Nat),(∀c∈l,gX 1000000000 c.aQ)→
 tM N p l k=bif gv (fun c=>ik p.bx c.aQ) l !=0 then some (1,gv (fun c=>ik p.bx c.aQ) l)else p7 N p p.bu 0 p.bx 2
 |[],_,_=>by
  rw[tM,eP (by omega)];rfl
 |c::l,k,hc=>by
  rw[tM,J0 N hN _ (hc c agz).ok,ags,gv,Pn hN hs l (k+1) fun y hy=>hc y (agC _ hy)];cases e:ik p.bx c.aQ !=0 with
  |true=>simp only[cond_true];rw[e];rfl
  |false=>rfl
theorem QR(hN:16<N)(hs:p.bx.length≤1000):∀(l:List cq)(k:Nat)(at_:Int)(m:List (ByteArray×Int))(T:List ByteArray),KN m p.bx T→mZ l→T.length+l.length≤1000→
 (∃a x,x≠0∧q7 N p l k at_ m=some (a,x)∧p7 N p l k (p.bx++T) at_=some (a,x))∨
 ∃at' m',KN m' p.bx (T++l.map (·.aq))∧q7 N p l k at_ m=qW N p p.aA 0 at' m'∧p7 N p l k (p.bx++T) at_=q8 N p p.aA 0 (p.bx++(T++l.map (·.aq))) at'
 |[],k,at_,m,T,h,_,_=> .inr ⟨at_,m,by rw[List.map_nil,agO];exact h,rfl,by rw[List.map_nil,agO];rfl⟩
 |x::l,k,at_,m,T,h,hl,hb=>by
  simp only[agw]at hb;obtain⟨m1,e1,e2⟩:=acG N hN x p (fun y hy=>(hl.kT x agz y hy).ok) h (by omega);rw[q7,p7,e1,aaX N hN x p.bx T (fun y hy=>(hl.kT x agz y hy).ok),ags,ags];dsimp only;cases e:zj p.bx T x !=0 with
  |true=>exact .inl ⟨_,_,fun h0=>(by rw[h0]at e;cases e),rfl,rfl⟩
  |false=>
   simp only[cond_false];rw[eP (by simp only[agu];omega),cond_true,agK];have:=QR hN hs l (k+1) (a7 (at_+1)) m1 (T++[x.aq]) (e2 (jy e)) ⟨fun y hy=>hl.len y (agC _ hy),fun y hy=>hl.kT y (agC _ hy)⟩ (by simp only[agu,agw,agF];omega);rw[agK]at this;exact this
theorem OJ(hN:2147483648<N)(B:Bd N p):∀(l:List aL)(k:Nat)(at_:Int)(m:List (ByteArray×Int))(T:List ByteArray),p.aA.drop k=l→KN m p.bx T→(∀s,dn (p.bu.map (·.aq)) s=true→dn T s=true)→T.length+l.length≤10000→
 (∃a x,x≠0∧qW N p l k at_ m=some (a,x)∧q8 N p l k (p.bx++T) at_=some (a,x))∨
 ((∀i d,k≤i→p.aA[i]?=some d→yd p i d)∧∃at' m',KN m' p.bx (T++l.map (·.aq))∧qW N p l k at_ m=tb N m' p p.cU 0 at'∧q8 N p l k (p.bx++T) at_=tV N p p.cU 0 at')
 |[],k,at_,m,T,hd,h,_,_=>by
  refine .inr ⟨fun i d hi hx=> ?_,at_,m,by rw[List.map_nil,agO];exact h,rfl,rfl⟩
  ·have:p.aA.length≤k:=by
    by_cases hk:p.aA.length≤k
    ·exact hk
    ·have:=congrArg List.length hd;simp at this;omega
   rw[agZ (by omega)]at hx;cases hx
 |d::l,k,at_,m,T,hd,h,hq,hb=>by
  simp only[agw]at hb;have hs:=B.s;obtain⟨x,m1,e1,e2,e3⟩:=ZU hN B h (bj hd) (by omega) hq;rw[qW,q8,e1,e2,ags,ags];dsimp only;cases e:x !=0 with
  |true=>exact .inl ⟨_,_,fun h0=>(by rw[h0]at e;cases e),rfl,rfl⟩
  |false=>
   obtain⟨k1,g1⟩:=e3 (jy e);simp only[cond_false];rw[eP (by simp only[agu];omega),cond_true,agK];have:=OJ hN B l (k+1) (a7 (at_+1)) m1 (T++[d.aq]) (kL hd) k1 (fun s hs=>by rw[kp,hq s hs];rfl) (by simp only[agu,agw,agF];omega);rw[agK]at this;rcases this with this|⟨g,this⟩
   ·exact .inl this
   ·refine .inr ⟨fun i d' hi hx=> ?_,this⟩;by_cases mm:i=k
    ·subst mm;rw[bj hd]at hx;cases hx;exact g1
    ·exact g i d' (by omega) hx
theorem E5{α:Type}(f:α→ByteArray)(s:ByteArray):∀l:List α,dn (l.map f) s=(l.find? fun x=>bL (f x)==bL s).isSome
 |[]=>rfl
 |x::l=>by
  rw[agS,List.find?_cons,show dn (f x::l.map f) s=(bL (f x)==bL s||dn (l.map f) s)from ahe,E5 f s l];cases bL (f x)==bL s<;>rfl
theorem acq(P:List cq)(D:List aL)(s:ByteArray):(fx P D s).2.2=dn (P.map (·.aq)++D.map (·.aq)) s:=by
 unfold fx;rw[kp,E5,E5];show _=(_||(D.find? (gn s)).isSome);cases P.find? fun x=>bL x.aq==bL s with
 |some x=>rfl
 |none=>cases D.find? (gn s)<;>rfl
theorem Om(hD:iI p.aA){m:List (ByteArray×Int)}(h:KN m p.bx (p.bu.map (·.aq)++p.aA.map (·.aq))):∀(l:List ByteArray)(k:Nat)(at_:Int),p.cU.drop k=l→
 ∃a x,tb N m p l k at_=some (a,x)∧tV N p l k at_=some (a,x)
 |[],_,_,_=>⟨_,_,rfl,rfl⟩
 |s::l,k,at_,hd=>by
  rw[tb,tV,h.ne2,Jj N p s hD,ags,acq,agU,show decide (k≤p.cU.length)=true from aha (by have:=En hd;omega),ag2,TI,DO,ags,ags];cases dn (p.bu.map (·.aq)++p.aA.map (·.aq)) s with
  |false=>exact⟨_,_,rfl,rfl⟩
  |true=>
   cases dn (p.cU.take k) s with
   |true=>exact⟨_,_,rfl,rfl⟩
   |false=>exact Om hD h l (k+1) (a7 (at_+1)) (kL hd)
theorem KB(hN:2147483648<N)(B:Bd N p):∃a x,tq N p=some (a,x)∧Az N p=some (a,x)∧(x=0→∀i d,p.aA[i]?=some d→yd p i d):=by
 have hs:=B.s;have hq:=B.q;have hd:=B.d;unfold tq Az G6;rw[afW,V3,ags,ags];cases AS p with
 |false=>exact⟨_,_,rfl,rfl,fun h=>by cases h⟩
 |true=>
  simp only[cond_true,Bool.not_true,cond_false];obtain⟨m1,k1,e1⟩:=KE (N:=N) (p:=p) (by omega) p.bx 0 [] [] KN.nil (by simp only[agF];omega);rw[List.nil_append]at k1;rw[e1,OY (by omega) p.bx 0 rfl,ags,List.take_zero];cases ez:xp [] p.bx !=0 with
  |true=>exact⟨_,_,rfl,rfl,fun h0=>by rw[h0]at ez;cases ez⟩
  |false=>
   simp only[cond_false];rw[OD (by omega) k1 _ _ B.W,Pn (by omega) hs _ _ B.W];cases ew:gv (fun c=>ik p.bx c.aQ) p.cX !=0 with
   |true=>exact⟨_,_,rfl,rfl,fun h0=>by rw[h0]at ew;cases ew⟩
   |false=>
    simp only[cond_false];have pb:=QR (N:=N) (p:=p) (by omega) hs p.bu 0 2 m1 [] k1 B.P (by simp only[agF];omega);rw[agO,List.nil_append]at pb;rcases pb with⟨a,x,hx,e1,e2⟩|⟨at',m2,k2,e1,e2⟩
    ·exact⟨a,x,e1,e2,fun h0=>absurd h0 hx⟩
    ·rw[e1,e2];rcases OJ hN B p.aA 0 at' m2 _ rfl k2 (fun s h=>h) (by simp only[agy];omega)with⟨a,x,hx,e1,e2⟩|⟨g,YP,m3,k3,e1,e2⟩
     ·exact⟨a,x,e1,e2,fun h0=>absurd h0 hx⟩
     ·rw[e1,e2];obtain⟨a,x,e1,e2⟩:=Om (N:=N) B.D k3 p.cU 0 YP rfl;exact⟨a,x,e1,e2,fun _ i d h=>g i d (Nat.zero_le _) h⟩
end
def mM(s:ByteArray)(y:ao):Bool:=y.xIdx.any (fun x=>bL x.bp==bL s)||(y.bg==3&&(bL y.aq==bL s&&y.xIdx.any fun x=> !(bL x.bp==[])))
theorem P4(N:Nat)(s:ByteArray):∀(l:List ay)(k:Nat),∃z:Int,uo N s l k=some z∧decide (z≥0)=l.any fun x=>bL x.bp==bL s
 |[],_=>⟨_,rfl,rfl⟩
 |x::l,k=>by
  obtain⟨z,h1,h2⟩:=P4 N s l (k+1);rw[uo,h1,ahe,show HH N x s=some (bL x.bp==bL s)from rfl,ags];cases bL x.bp==bL s with
  |true=>exact⟨_,rfl,aha (by omega)⟩
  |false=>exact⟨_,rfl,h2⟩
theorem Px(N:Nat):∀(l:List ay)(k:Nat),∃z:Int,vX N l k=some z∧decide (z≥0)=l.any fun x=> !(bL x.bp==[])
 |[],_=>⟨_,rfl,rfl⟩
 |x::l,k=>by
  obtain⟨z,h1,h2⟩:=Px N l (k+1);rw[vX,h1,ahe,show G4 N x=some (!(bL x.bp==[]))from rfl,ags];cases bL x.bp==[]with
  |false=>exact⟨_,rfl,aha (by omega)⟩
  |true=>exact⟨_,rfl,h2⟩
theorem WQ(N:Nat)(l:List ay)(s:ByteArray):B5 N l s=some (l.any fun x=>bL x.bp==bL s):=by
 unfold B5 GO;obtain⟨z,h1,h2⟩:=P4 N s l 0;rw[h1,ags,h2]
theorem ael(N:Nat)(l:List ay):DA N l=some (l.any fun x=> !(bL x.bp==[])):=by
 unfold DA FY;obtain⟨z,h1,h2⟩:=Px N l 0;rw[h1,ags,h2]
theorem OT(N:Nat)(c:Option Int)(s:ByteArray):∀l:List ao,uZ N c s l=bif l.any (mM s)then some 1 else c
 |[]=>rfl
 |y::l=>by
  rw[uZ,WQ,ael,OT N c s l,ahe,ags];unfold mM;cases y.xIdx.any (fun x=>bL x.bp==bL s)<;>cases y.bg==3<;>cases bL y.aq==bL s<;>cases y.xIdx.any (fun x=> !(bL x.bp==[]))<;>rfl
def FB(s:ByteArray)(D:List aL):Bool:=D.any fun d=>(dN d.bE).any (mM s)
theorem Uk(N:Nat)(s:ByteArray):∀(D:List aL)(k:Nat),tE N s D k=some (bif FB s D then 1 else 0)
 |[],_=>rfl
 |d::D,k=>by
  rw[tE,show yk N d.bE=some d.bE from rfl,ags,OT,Uk N s D];unfold FB;rw[ahe];cases (dN d.bE).any (mM s)<;>rfl
theorem UL(N:Nat)(rec:ao→ByteArray→Option Bool)(s:ByteArray):∀(l:List ao)(k:Nat),(∀x∈l,rec x s=some (!(dN x).any (mM s)))→wE N rec s l k=some (!(jW l).any (mM s))
 |[],_,_=>by rw[jW];rfl
 |x::l,k,h=>by
  rw[wE,h x agz,ags,UL N rec s l (k+1) fun y hy=>h y (agC _ hy),y5,List.any_append];cases (dN x).any (mM s)<;>rfl
def EK(s:ByteArray)(e:ao)(x:ay):Bool:=bL x.bp==bL s||(e.bg==3&&(bL e.aq==bL s&& !(bL x.bp==[])))
theorem N9(N:Nat)(rec:ao→ByteArray→Option Bool)(s:ByteArray)(e:ao)(h:∀x∈e.aT,rec x s=some (!(dN x).any (mM s))):∀(l:List ay)(k:Nat),s8 N rec s e l k=some (!l.any (EK s e)&& !(jW e.aT).any (mM s))
 |[],_=>by rw[s8,UL N rec s _ _ h];rfl
 |x::l,k=>by
  rw[s8,N9 N rec s e h l,ahe,o0];unfold EK;cases bL x.bp==bL s<;>cases e.bg==3<;>cases bL e.aq==bL s<;>cases bL x.bp==[]<;>rfl
theorem TL(s:ByteArray)(e:ao):∀l:List ay,l.any (EK s e)=(l.any (fun x=>bL x.bp==bL s)||(e.bg==3&&(bL e.aq==bL s&&l.any fun x=> !(bL x.bp==[]))))
 |[]=>by rw[List.any_nil,List.any_nil,List.any_nil,Bool.and_false,Bool.and_false];rfl
 |x::l=>by
  rw[ahe,ahe,ahe,TL s e l];unfold EK;cases bL x.bp==bL s<;>cases e.bg==3<;>cases bL e.aq==bL s<;>cases bL x.bp==[]<;>cases l.any (fun x=>bL x.bp==bL s)<;>rfl
theorem NH(N:Nat)(s:ByteArray):∀(d:Nat)(e:ao),SizeOf.sizeOf e<d→qm N d e s=some (!(dN e).any (mM s))
 |0,_,h=>absurd h (agV _)
 |d+1,e,h=>by
  rw[qm,N9 N _ s e (fun x hx=>NH N s d x (by have:=lk hx;omega)) _ 0,TL];unfold dN;rw[ahe,Bool.not_or (mM s e)];rfl
theorem RK(N:Nat)(s:ByteArray):∀(D:List aL)(k:Nat),(∀d∈D,SizeOf.sizeOf d.bE<N)→xA N s D k=some (bif FB s D then 1 else 0)
 |[],_,_=>rfl
 |d::D,k,h=>by
  rw[xA,RK N s D (k+1) fun y hy=>h y (agC _ hy)];unfold Lq FB;rw[NH N s N _ (h d agz),ags,ahe];cases (dN d.bE).any (mM s)<;>rfl
theorem S2{N:Nat}{p:aY}(hN:2147483648<N)(B:Bd N p)(s:ByteArray):∃x,Aw N p s=some x∧xW N p s=some x∧
 (x=0→(∀i d,p.aA[i]?=some d→yd p i d)∧∃(i:Nat)(d:aL),p.aA.findIdx? (gn s)=some i∧p.aA[i]?=some d∧gn s d=true):=by
 obtain⟨a,x,e1,e2,e3⟩:=KB hN B;unfold Aw xW;rw[e1,e2,ags,ags];dsimp only;cases e:x !=0 with
 |true=>exact⟨_,rfl,rfl,fun h0=>by rw[h0]at e;cases e⟩
 |false=>
  simp only[cond_false];rw[RX,Qa,ags,ags];unfold l6;rcases AI (gn s) p.aA with⟨h1,h2⟩|⟨i,d,h1,h2,h3,h4⟩
  ·rw[h1];exact⟨_,rfl,rfl,fun h0=>by cases h0⟩
  ·rw[h1];simp only[agN];rw[show decide ((i:Int)<0)=false from ahb (by omega),show decide ((0:Int)≤(i:Int))=true from aha (by omega),agU,h2];simp only[cond_true,cond_false,ags];cases d.cP !=0 with
   |true=>exact⟨_,rfl,rfl,fun h0=>by cases h0⟩
   |false=>
    simp only[cond_false];rw[Uk,RK N s _ _ fun d hd=>(B.E d hd).2];exact⟨_,rfl,rfl,fun _=>⟨e3 (jy e),i,d,rfl,h2,h4⟩⟩
theorem Bi{a g:aw}{b:Int64}(h:lH a b= .ok g):g.xL.length≤a.xL.length:=by
 rw[IE]at h;cases h1:eK a<;>rw[h1]at h
 ·cases h
 ·cases h2:b.toInt==0<;>rw[h2]at h
  ·cases h3:eE (a.xK.toInt*b.toInt)&&a.xL.all (oJ b)<;>rw[h3]at h
   ·cases h
   ·cases h;exact Nat.le_of_eq (agy _)
  ·cases h;exact Nat.zero_le _
theorem Af:∀a b:List aF,(eO a b).length≤a.length+b.length
 |[],[]=>by rw[eO];exact agE _
 |x::l,[]=>by rw[eO];have:=Af l [];simp only[agw,agF]at*;omega
 |[],y::r=>by rw[eO];have:=Af [] r;simp only[agw,agF]at*;omega
 |x::l,y::r=>by
  rw[eO];have h1:=Af l (y::r);have h2:=Af (x::l) r;have h3:=Af l r;split
  ·simp only[agw]at*;omega
  ·split<;>simp only[agw]at* <;>omega
termination_by a b=>a.length+b.length
theorem ME{a b g:aw}(h:iG a b= .ok g):g.xL.length≤a.xL.length+b.xL.length:=by
 rw[Sk]at h;cases h1:eK a&&eK b<;>rw[h1]at h
 ·cases h
 ·cases h2:eE (a.xK.toInt+b.xK.toInt)&&(eO a.xL b.xL).all ku<;>rw[h2]at h
  ·cases h
  ·cases h
   exact agL (List.length_filterMap_le _ _) (Af _ _)
def yW(s:ByteArray):aw:=⟨0,[⟨s,1⟩]⟩
def dZ:List bk→List ay→ByteArray→aw
 |a::A,x::F,s=>bif bL a.aq==bL s then x.aQ else dZ A F s
 |_,_,s=>yW s
def nJ(F:ByteArray→aw):List aF→aw→X aw
 |[],out=> .ok out
 |m::l,out=>match lH (F m.aq) m.dq with
  | .error e=> .error e
  | .ok g=>match iG out g with
    | .error e=> .error e
    | .ok h=>nJ F l h
def iX(F:ByteArray→aw)(l:aw):X aw:=nJ F l.xL ⟨l.xK,[]⟩
def dv{α β:Type}(f:α→X β):List α→X (List β)
 |[]=> .ok []
 |x::l=>match f x with
  | .error e=> .error e
  | .ok y=>match dv f l with
    | .error e=> .error e
    | .ok r=> .ok (y::r)
def jb(F:ByteArray→aw)(x:ay):X ay:=match iX F x.aQ with
 | .error e=> .error e
 | .ok l=>match dv (iX F) x.bw with
   | .error e=> .error e
   | .ok a=> .ok ⟨l,x.bp,a⟩
def kf(F:ByteArray→aw):Nat→ao→X ao
 |0,_=> .error .arg
 |d+1,e=>match iX F e.aQ with
  | .error x=> .error x
  | .ok l=>match dv (jb F) e.xIdx with
    | .error x=> .error x
    | .ok i=>match dv (kf F d) e.aT with
      | .error x=> .error x
      | .ok a=> .ok ⟨e.bg,e.aq,e.dK,e.aB,l,i,a⟩
def rk(l:aw):Prop:=(∀m∈l.xL,gg m.aq=true)∧l.xL.length≤300
def Jo(x:ay):Prop:=rk x.aQ∧x.bw.length≤300∧∀l∈x.bw,rk l
def TE(e:ao):Prop:=rk e.aQ∧e.xIdx.length≤300∧(∀x∈e.xIdx,Jo x)∧e.aT.length≤300
def kQ(e:ao):Prop:=∀y∈dN e,TE y
theorem kQ.arg{e x:ao}(h:kQ e)(hx:x∈e.aT):kQ x:=fun y hy=>h y (Ap hx hy)
structure lE(A:List bk)(I:List ay):Prop where
 len:I.length=A.length
 small:∀x∈I,x.aQ.xL.length≤300
 Oa:A.Pairwise fun a b=>(bL b.aq==bL a.aq)=false
theorem lE.tail{a:bk}{x:ay}{A:List bk}{I:List ay}(h:lE (a::A) (x::I)):lE A I:=
 ⟨by have:=h.len;simp only[agw]at this;omega,fun y hy=>h.small y (agC _ hy),(List.pairwise_cons.1 h.Oa).2⟩
theorem E4:∀(A:List bk)(I:List ay)(s:ByteArray),(∀x∈I,x.aQ.xL.length≤300)→(dZ A I s).xL.length≤300
 |[],I,s,_=>by cases I<;>exact agB rfl
 |a::A,[],s,_=>agB rfl
 |a::A,x::I,s,h=>by
  rw[dZ];cases bL a.aq==bL s with
  |true=>exact h x agz
  |false=>exact E4 A I s fun y hy=>h y (agC _ hy)
section
variable {N:Nat} {A:List bk} {I:List ay}
theorem Nf(m:aF):∀(A:List bk)(I:List ay)(k:Nat),I.length=A.length→
 (∃i x,tL N m A k=some ((k+i:Nat):Int)∧I[i]?=some x∧x.aQ=dZ A I m.aq)∨
 (tL N m A k=some (-1)∧dZ A I m.aq=yW m.aq)
 |[],I,k,_=> .inr ⟨rfl,by cases I<;>rfl⟩
 |a::A,[],k,h=>by simp at h
 |a::A,x::I,k,h=>by
  rw[tL,show Hn N a m=some (bL a.aq==bL m.aq)from rfl,ags,dZ];cases bL a.aq==bL m.aq with
  |true=>exact .inl ⟨0,x,rfl,rfl,rfl⟩
  |false=>
   rcases Nf m A I (k+1) (by simpa using h)with⟨i,y,h1,h2,h3⟩|⟨h1,h2⟩
   ·exact .inl ⟨i+1,y,by rw[cond_false,h1,Nat.add_assoc,Nat.add_comm 1 i],by rw[ag4];exact h2,h3⟩
   ·exact .inr ⟨h1,h2⟩
def yP(out f:aw)(b:Int64)(c:aw→Option (aw×Int)):Option (aw×Int):=match lH f b with
 | .error e=>some (dV,e.code)
 | .ok g=>match iG out g with
   | .error e=>some (dV,e.code)
   | .ok h=>c h
theorem Yt(hN:1000000<N)(m:aF)(out f:aw)(c:Int64→List aF→Option (aw×Int))(h:out.xL.length+f.xL.length<900000):
 uB N m out.xK out.xL c f.xK f.xL=yP out f m.dq fun h=>c h.xK h.xL:=by
 unfold uB yP;rw[afe N (by omega) ⟨f.xK,f.xL⟩ _ (by show f.xL.length≤_;omega),ags];show(bif (gC dV (lH f m.dq)).2 !=0 then _ else _)=_;cases hs:lH f m.dq with
 |error e=>show(bif e.code !=0 then _ else _)=_;rw[e.ne];rfl
 |ok g=>
  have hl:=Bi hs;show Option.bind (z9 N ⟨out.xK,out.xL⟩ g) _=_;rw[WD N (by omega) ⟨out.xK,out.xL⟩ g (by show out.xL.length+_≤_;omega) (by show out.xL.length+_<_;omega),ags];show(bif (gC dV (iG out g)).2 !=0 then _ else _)=(match iG out g with| .error e=>some (dV,e.code)| .ok h=>c h.xK h.xL);cases iG out g with
  |error e=>show(bif e.code !=0 then _ else _)=_;rw[e.ne];rfl
  |ok h=>rfl
theorem Nv(hN:1000000<N)(S:lE A I):∀(l:List aF)(k:Nat)(out:aw),(∀m∈l,gg m.aq=true)→out.xL.length+l.length*300<900000→
 o7 N A I l k out.xK out.xL=some (gC dV (nJ (dZ A I) l out))
 |[],k,out,_,_=>rfl
 |m::l,k,out,hn,hb=>by
  simp only[agw]at hb;have hf:=E4 A I m.aq S.small;have key:∀f:aw,f=dZ A I m.aq→uB N m out.xK out.xL (fun ck eQ=>o7 N A I l (k+1) ck eQ) f.xK f.xL=some (gC dV (nJ (dZ A I) (m::l) out)):=by
   rintro f rfl;rw[Yt hN m out _ _ (by omega),nJ];unfold yP;cases hs:lH (dZ A I m.aq) m.dq with
   |error e=>rfl
   |ok g=>
    have hl:=Bi hs;show(match iG out g with| .error e=>some (dV,e.code)| .ok h=>_)=some (gC dV (match iG out g with| .error e=> .error e| .ok h=>nJ (dZ A I) l h));cases ha:iG out g with
    |error e=>rfl
    |ok h=>
     have zL:=ME ha;exact Nv hN S l (k+1) h (fun y hy=>hn y (agC _ hy)) (by omega)
  rw[o7];unfold HX Gy;rw[Th N _ (by omega),ags,hn m agz,cond_true,ags];rcases Nf (N:=N) m A I 0 S.len with⟨i,x,h1,h2,h3⟩|⟨h1,h2⟩
  ·rw[h1,ags,agN,show decide ((i:Int)≥0)=true from aha (by omega),agU,h2];exact key _ h3
  ·rw[h1,ags];exact key (yW m.aq) h2.symm
theorem Ja(hN:1000000<N)(S:lE A I)(l:aw)(h:rk l):zA N l A I=some (gC dV (iX (dZ A I) l)):=
 Nv hN S l.xL 0 ⟨l.xK,[]⟩ h.1 (by have:=h.2;simp only[agF];omega)
theorem aax(hN:1000000<N)(m:aF)(out f:aw)(c:Int64→List aF→Option (aw×Int))(p:iA)(k:Nat)(h:out.xL.length+f.xL.length<900000):
 j0 N m out.xK out.xL c p [] k f.xK f.xL=yP out f m.dq fun h=>c h.xK h.xL:=by
 rw[j0];unfold yP;rw[adh N (by omega) ⟨f.xK,f.xL⟩ _ (by show f.xL.length≤_;omega),ags];show(bif (gC dV (lH f m.dq)).2 !=0 then _ else _)=_;cases hs:lH f m.dq with
 |error e=>show(bif e.code !=0 then _ else _)=_;rw[e.ne];rfl
 |ok g=>
  have hl:=Bi hs;show Option.bind (Ar N ⟨out.xK,out.xL⟩ g) _=_;rw[aah N hN ⟨out.xK,out.xL⟩ g (by show out.xL.length+_<_;omega),ags];show(bif (gC dV (iG out g)).2 !=0 then _ else _)=(match iG out g with| .error e=>some (dV,e.code)| .ok h=>c h.xK h.xL);cases iG out g with
  |error e=>show(bif e.code !=0 then _ else _)=_;rw[e.ne];rfl
  |ok h=>rfl
theorem Nt(m:aF)(K:Int64)(L:List aF)(c:Int64→List aF→Option (aw×Int))(p:iA):∀(A:List bk)(k:Nat)(f:aw),(∀a∈A,(bL a.aq==bL m.aq)=false)→
 j0 N m K L c p A k f.xK f.xL=j0 N m K L c p [] 0 f.xK f.xL
 |[],k,f,_=>by rw[j0,j0]
 |a::A,k,f,h=>by
  conv=>lhs;rw[j0,h a agz,cond_false]
  exact Nt m K L c p A (k+1) f fun b hb=>h b (agC _ hb)
theorem Q7(m:aF)(K:Int64)(L:List aF)(c:Int64→List aF→Option (aw×Int))(p:iA):∀(A:List bk)(I:List ay)(k:Nat),p.Ki.drop k=I→lE A I→
 j0 N m K L c p A k (yW m.aq).xK (yW m.aq).xL=j0 N m K L c p [] 0 (dZ A I m.aq).xK (dZ A I m.aq).xL
 |[],I,k,_,_=>by
  have:dZ [] I m.aq=yW m.aq:=by cases I<;>rfl
  rw[this,j0,j0]
 |a::A,[],k,_,S=>by have:=S.len;simp at this
 |a::A,x::I,k,hd,S=>by
  conv=>lhs;rw[j0,agU,bj hd,ags]
  rw[dZ];cases e:bL a.aq==bL m.aq with
  |true=>
   exact Nt m K L c p A (k+1) x.aQ fun b hb=>by
    have:=(List.pairwise_cons.1 S.Oa).1 b hb;rw[beq_iff_eq.1 e]at this;exact this
  |false=>exact Q7 m K L c p A I (k+1) (kL hd) S.tail
theorem O5(hN:1000000<N)(S:lE A I):∀(l:List aF)(k:Nat)(out:aw),out.xL.length+l.length*300<900000→
 sr N ⟨A,I⟩ l k out.xK out.xL=some (gC dV (nJ (dZ A I) l out))
 |[],k,out,_=>rfl
 |m::l,k,out,hb=>by
  simp only[agw]at hb;have hf:=E4 A I m.aq S.small;rw[sr];refine Eq.trans (Q7 m out.xK out.xL _ ⟨A,I⟩ A I 0 rfl S) ?_;rw[aax hN m out _ _ _ _ (by omega),nJ];unfold yP;cases hs:lH (dZ A I m.aq) m.dq with
  |error e=>rfl
  |ok g=>
   have hl:=Bi hs;show(match iG out g with| .error e=>some (dV,e.code)| .ok h=>_)=some (gC dV (match iG out g with| .error e=> .error e| .ok h=>nJ (dZ A I) l h));cases ha:iG out g with
   |error e=>rfl
   |ok h=>
    have zL:=ME ha;exact O5 hN S l (k+1) h (by omega)
theorem IU(hN:1000000<N)(S:lE A I)(l:aw)(h:rk l):x7 N ⟨A,I⟩ l=some (gC dV (iX (dZ A I) l)):=
 O5 hN S l.xL 0 ⟨l.xK,[]⟩ (by have:=h.2;simp only[agF];omega)
theorem Qf(hN:1000000<N)(S:lE A I)(v8:List ay)(c:List ay→Option (List ay×Int))(q:aw×Int)(x:ay)(h8:v8.length<1000000):∀(l:List aw)(k:Nat)(K:Int64)(L:List aF)(acc:List aw),(∀y∈l,rk y)→acc.length+l.length<1000000→
 sP N v8 c q x A I l k K L acc=match dv (iX (dZ A I)) l with| .error e=>some ([],e.code)| .ok r=>c (v8++[⟨q.1,x.bp,acc++r⟩])
 |[],k,K,L,acc,_,_=>by rw[sP,dv,eP (by omega)];dsimp only;rw[agO];rfl
 |y::l,k,K,L,acc,hy,hb=>by
  simp only[agw]at hb;rw[sP,Ja hN S y (hy y agz),ags,dv];cases iX (dZ A I) y with
  |error e=>show(bif e.code !=0 then _ else _)=_;rw[e.ne];rfl
  |ok v=>
   show(bif Nat.ble ((acc.length+1)*32) 140737488355328 then _ else none)=_;rw[eP (by omega)];refine Eq.trans (Qf hN S v8 c q x h8 l (k+1) _ _ (acc++[v]) (fun z hz=>hy z (agC _ hz)) (by simp only[agu,agw,agF];omega)) ?_;cases dv (iX (dZ A I)) l with
   |error e=>rfl
   |ok r=>show c (v8++[⟨q.1,x.bp,acc++[v]++r⟩])=_;rw[agK];rfl
theorem U1(hN:1000000<N)(S:lE A I):∀(l:List ay)(k:Nat)(acc:List ay),(∀y∈l,Jo y)→acc.length+l.length<1000000→
 pZ N A I l k acc=match dv (jb (dZ A I)) l with| .error e=>some ([],e.code)| .ok r=>some (acc++r,0)
 |[],k,acc,_,_=>by rw[pZ,dv];dsimp only;rw[agO]
 |y::l,k,acc,hy,hb=>by
  simp only[agw]at hb;have h1:=hy y agz;rw[pZ,Ja hN S y.aQ h1.1,ags,dv];cases e1:iX (dZ A I) y.aQ with
  |error e=>
   rw[show jb (dZ A I) y= .error e by unfold jb;rw[e1]];show(bif e.code !=0 then _ else _)=_;rw[e.ne];rfl
  |ok v=>
   refine Eq.trans (Qf hN S acc _ (v,0) y (by omega) y.bw 0 _ _ [] h1.2.2 (by have:=h1.2.1;simp only[agF];omega)) ?_;cases e2:dv (iX (dZ A I)) y.bw with
   |error e=>rw[show jb (dZ A I) y= .error e by unfold jb;rw[e1];dsimp only;rw[e2]]
   |ok a=>
    rw[show jb (dZ A I) y= .ok ⟨v,y.bp,a⟩ by unfold jb;rw[e1];dsimp only;rw[e2]];refine Eq.trans (U1 hN S l (k+1) (acc++[⟨v,y.bp,a⟩]) (fun z hz=>hy z (agC _ hz)) (by simp only[agu,agw,agF];omega)) ?_;cases dv (jb (dZ A I)) l with
    |error e=>rfl
    |ok r=>dsimp only;rw[agK];rfl
theorem OW(e:ao)(v4:aw×Int)(v5:List ay×Int)(rec:List bk→List ay→ao→Option (ao×Int))(f:ao→X ao):∀(l:List ao)(k:Nat)(acc:List ao),(∀y∈l,rec A I y=some (gC fQ (f y)))→acc.length+l.length<1000000→
 rG N e v4 v5 rec A I l k acc=match dv f l with| .error e=>some (fQ,e.code)| .ok r=>some (⟨e.bg,e.aq,e.dK,e.aB,v4.1,v5.1,acc++r⟩,0)
 |[],k,acc,_,_=>by rw[rG,dv];dsimp only;rw[agO]
 |y::l,k,acc,hy,hb=>by
  simp only[agw]at hb;rw[rG,hy y agz,ags,dv];cases f y with
  |error e=>show(bif e.code !=0 then _ else _)=_;rw[e.ne];rfl
  |ok v=>
   show(bif Nat.ble ((acc.length+1)*160) 140737488355328 then _ else none)=_;rw[eP (by omega)];refine Eq.trans (OW e v4 v5 rec f l (k+1) (acc++[v]) (fun z hz=>hy z (agC _ hz)) (by simp only[agu,agw,agF];omega)) ?_;cases dv f l with
   |error e=>rfl
   |ok r=>show some ((⟨_,_,_,_,_,_,acc++[v]++r⟩:ao),_)=_;rw[agK];rfl
theorem RF(hN:1000000<N)(S:lE A I):∀(d:Nat)(e:ao),SizeOf.sizeOf e<d→kQ e→sk N d A I e=some (gC fQ (kf (dZ A I) d e))
 |0,e,h,_=>absurd h (agV _)
 |d+1,e,h,ok=>by
  have h1:=ok e agz;rw[sk,Ja hN S e.aQ h1.1,ags,kf];cases iX (dZ A I) e.aQ with
  |error e=>show(bif e.code !=0 then _ else _)=_;rw[e.ne];rfl
  |ok v=>
   show Option.bind (C4 N A I e.xIdx) _=_;unfold C4;rw[U1 hN S e.xIdx 0 [] h1.2.2.1 (by have:=h1.2.1;simp only[agF];omega)];cases dv (jb (dZ A I)) e.xIdx with
   |error e=>show(bif e.code !=0 then _ else _)=_;rw[e.ne];rfl
   |ok i=>
    refine Eq.trans (OW e (v,0) ([]++i,0) _ (kf (dZ A I) d) e.aT 0 [] (fun y hy=>RF hN S d y (by have:=lk hy;omega) (ok.arg hy)) (by have:=h1.2.2.2;simp only[agF];omega)) ?_;cases dv (kf (dZ A I) d) e.aT with
    |error e=>rfl
    |ok a=>rfl
theorem SU(hN:1000000<N)(S:lE A I)(v8:List ay)(c:List ay→Int64→List aF→Option (ao×Int))(q:aw×Int)(x:ay)(h8:v8.length<1000000):∀(l:List aw)(k:Nat)(K:Int64)(L:List aF)(acc:List aw),(∀y∈l,rk y)→acc.length+l.length<1000000→
 ∃K' L',tZ N v8 c q x ⟨A,I⟩ l k K L acc=match dv (iX (dZ A I)) l with| .error e=>some (fQ,e.code)| .ok r=>c (v8++[⟨q.1,x.bp,acc++r⟩]) K' L'
 |[],k,K,L,acc,_,_=>⟨K,L,by rw[tZ,dv,eP (by omega)];dsimp only;rw[agO];rfl⟩
 |y::l,k,K,L,acc,hy,hb=>by
  simp only[agw]at hb;rw[tZ,IU hN S y (hy y agz),ags,dv];cases iX (dZ A I) y with
  |error e=>exact⟨K,L,by show(bif e.code !=0 then _ else _)=_;rw[e.ne];rfl⟩
  |ok v=>
   obtain⟨K',L',h⟩:=SU hN S v8 c q x h8 l (k+1) v.xK v.xL (acc++[v]) (fun z hz=>hy z (agC _ hz)) (by simp only[agu,agw,agF];omega);refine⟨K',L',?_⟩;show(bif Nat.ble ((acc.length+1)*32) 140737488355328 then _ else none)=_;rw[eP (by omega)];refine Eq.trans h ?_;cases dv (iX (dZ A I)) l with
   |error e=>rfl
   |ok r=>show c (v8++[⟨q.1,x.bp,acc++[v]++r⟩]) K' L'=_;rw[agK];rfl
theorem Rr(hN:1000000<N)(S:lE A I)(e:ao)(q:aw×Int)(rec:iA→ao→Option (ao×Int)):∀(l:List ay)(k:Nat)(acc:List ay)(K:Int64)(L:List aF),(∀y∈l,Jo y)→acc.length+l.length<1000000→
 o8 N e q rec ⟨A,I⟩ l k acc K L=match dv (jb (dZ A I)) l with| .error e=>some (fQ,e.code)| .ok r=>qA N e q (acc++r) rec ⟨A,I⟩ e.aT 0 []
 |[],k,acc,K,L,_,_=>by rw[o8,dv];dsimp only;rw[agO]
 |y::l,k,acc,K,L,hy,hb=>by
  simp only[agw]at hb;have h1:=hy y agz;rw[o8,IU hN S y.aQ h1.1,ags,dv];cases e1:iX (dZ A I) y.aQ with
  |error e=>
   rw[show jb (dZ A I) y= .error e by unfold jb;rw[e1]];show(bif e.code !=0 then _ else _)=_;rw[e.ne];rfl
  |ok v=>
   obtain⟨K',L',h⟩:=SU hN S acc (fun ck eQ np=>o8 N e q rec ⟨A,I⟩ l (k+1) ck eQ np) (v,0) y (by omega) y.bw 0 v.xK v.xL [] h1.2.2 (by have:=h1.2.1;simp only[agF];omega);refine Eq.trans h ?_;cases e2:dv (iX (dZ A I)) y.bw with
   |error e=>rw[show jb (dZ A I) y= .error e by unfold jb;rw[e1];dsimp only;rw[e2]]
   |ok a=>
    rw[show jb (dZ A I) y= .ok ⟨v,y.bp,a⟩ by unfold jb;rw[e1];dsimp only;rw[e2]];refine Eq.trans (Rr hN S e q rec l (k+1) (acc++[⟨v,y.bp,a⟩]) K' L' (fun z hz=>hy z (agC _ hz)) (by simp only[agu,agw,agF];omega)) ?_;cases dv (jb (dZ A I)) l with
    |error e=>rfl
    |ok r=>dsimp only;rw[agK];rfl
theorem Qh(e:ao)(v4:aw×Int)(i:List ay)(rec:iA→ao→Option (ao×Int))(p:iA)(f:ao→X ao):∀(l:List ao)(k:Nat)(acc:List ao),(∀y∈l,rec p y=some (gC fQ (f y)))→acc.length+l.length<1000000→
 qA N e v4 i rec p l k acc=match dv f l with| .error e=>some (fQ,e.code)| .ok r=>some (⟨e.bg,e.aq,e.dK,e.aB,v4.1,i,acc++r⟩,0)
 |[],k,acc,_,_=>by rw[qA,dv];dsimp only;rw[agO]
 |y::l,k,acc,hy,hb=>by
  simp only[agw]at hb;rw[qA,hy y agz,ags,dv];cases f y with
  |error e=>show(bif e.code !=0 then _ else _)=_;rw[e.ne];rfl
  |ok v=>
   show(bif Nat.ble ((acc.length+1)*160) 140737488355328 then _ else none)=_;rw[eP (by omega)];refine Eq.trans (Qh e v4 i rec p f l (k+1) (acc++[v]) (fun z hz=>hy z (agC _ hz)) (by simp only[agu,agw,agF];omega)) ?_;cases dv f l with
   |error e=>rfl
   |ok r=>show some ((⟨_,_,_,_,_,_,acc++[v]++r⟩:ao),_)=_;rw[agK];rfl
theorem Qn(hN:1000000<N)(S:lE A I):∀(d:Nat)(e:ao),SizeOf.sizeOf e<d→kQ e→oA N d ⟨A,I⟩ e=some (gC fQ (kf (dZ A I) d e))
 |0,e,h,_=>absurd h (agV _)
 |d+1,e,h,ok=>by
  have h1:=ok e agz;rw[oA,IU hN S e.aQ h1.1,ags,kf];cases iX (dZ A I) e.aQ with
  |error e=>show(bif e.code !=0 then _ else _)=_;rw[e.ne];rfl
  |ok v=>
   refine Eq.trans (Rr hN S e (v,0) _ e.xIdx 0 [] v.xK v.xL h1.2.2.1 (by have:=h1.2.1;simp only[agF];omega)) ?_;cases dv (jb (dZ A I)) e.xIdx with
   |error e=>rfl
   |ok i=>
    refine Eq.trans (Qh e (v,0) ([]++i) _ ⟨A,I⟩ (kf (dZ A I) d) e.aT 0 [] (fun y hy=>Qn hN S d y (by have:=lk hy;omega) (ok.arg hy)) (by have:=h1.2.2.2;simp only[agF];omega)) ?_;cases dv (kf (dZ A I) d) e.aT with
    |error e=>rfl
    |ok a=>rfl
end
theorem LF{α β:Type}{f g:α→X β}:∀l:List α,(∀x∈l,f x=g x)→dv f l=dv g l
 |[],_=>rfl
 |x::l,h=>by rw[dv,dv,h x agz,LF l fun y hy=>h y (agC _ hy)]
theorem Mk(F:ByteArray→aw):∀(d d':Nat)(e:ao),SizeOf.sizeOf e<d→SizeOf.sizeOf e<d'→kf F d e=kf F d' e
 |0,_,_,h,_=>absurd h (agV _)
 |_,0,_,_,h=>absurd h (agV _)
 |d+1,d'+1,e,h,h'=>by
  rw[kf,kf,LF e.aT fun x hx=>Mk F d d' x (by have:=lk hx;omega) (by have:=lk hx;omega)]
structure RS(x:ay):Prop where
 iw:gX 1000000 x.aQ
 at_:x.bw.length≤1000000
 wb:∀l∈x.bw,gX 1000000 l
structure Ue(e:ao):Prop where
 iw:gX 1000000 e.aQ
 idx:e.xIdx.length≤1000000
 each:∀x∈e.xIdx,RS x
 args:e.aT.length≤1000000
def mu(e:ao):Prop:=∀y∈dN e,Ue y
theorem mu.arg{e x:ao}(h:mu e)(hx:x∈e.aT):mu x:=fun y hy=>h y (Ap hx hy)
theorem mu.ok{e:ao}(h:mu e):nj e:=fun y hy=>
 ⟨agL (h y hy).iw (by decide),fun x hx=>⟨agL ((h y hy).each x hx).iw (by decide),fun l hl=>agL (((h y hy).each x hx).wb l hl) (by decide)⟩,agL (h y hy).args (by decide)⟩
theorem Lw(N:Nat)(l:aw)(h:gX 1000000 l):w8 N l=some (l,0):=by
 unfold w8 BK;rw[eP (by have:=h;unfold gX at this;omega)];rfl
theorem Dj{α:Type}:∀(L:List α)(k:Nat)(x:α),L[k]?=some x→L.set k x=L
 |[],_,_,_=>rfl
 |y::L,0,x,h=>by cases h;rfl
 |y::L,k+1,x,h=>by rw[List.set_cons_succ,Dj L k x (by rw[ag4]at h;exact h)]
theorem ki(n:Nat):Nat.beq n n=true:=Nat.beq_refl n
theorem Vf(N:Nat)(e:ao)(rec:ao→Option (ao×Int))(v8:List ay)(v2:aw×Int):∀(l:List ao)(k:Nat),e.aT.drop k=l→(∀x∈l,rec x=some (x,0))→v8.length=e.xIdx.length→
 tY N v8 e.xIdx e.aT e v2 rec l k e.aT=some (⟨e.bg,e.aq,e.dK,e.aB,v2.1,v8,e.aT⟩,0)
 |[],k,_,_,h8=>by rw[tY,h8,ki,ki];rfl
 |x::l,k,hd,hx,h8=>by
  rw[tY,hx x agz,ags,ki,show decide ((k:Int)<(e.aT.length:Int))=true from aha (by have:=En hd;omega),bj hd];simp only[cond_true,ags,bne_self_eq_false,cond_false];rw[Dj _ _ _ (bj hd)];exact Vf N e rec v8 v2 l (k+1) (kL hd) (fun y hy=>hx y (agC _ hy)) h8
theorem Tx(N:Nat)(c:List ay→Option (ao×Int))(v8:List ay)(k4:Nat)(x:ay)(hx:v8[k4]?=some x):∀(l:List aw)(k:Nat),x.bw.drop k=l→(∀y∈l,gX 1000000 y)→
 sD N x.bw c v8 k4 (x.aQ,0) x l k x.bw=c v8
 |[],k,_,_=>by
  rw[sD,ki,cond_true];dsimp only;rw[Dj v8 k4 x hx,Dj v8 k4 x hx]
 |y::l,k,hd,hy=>by
  rw[sD,Lw N y (hy y agz),ags,ki,show decide ((k:Int)<(x.bw.length:Int))=true from aha (by have:=En hd;omega),bj hd];simp only[cond_true,ags,bne_self_eq_false,cond_false];rw[Dj _ _ _ (bj hd)];exact Tx N c v8 k4 x hx l (k+1) (kL hd) fun z hz=>hy z (agC _ hz)
theorem Vc(N:Nat)(e:ao)(rec:ao→Option (ao×Int))(v2:aw×Int)(ha:e.aT.length≤1000000)(hr:∀x∈e.aT,rec x=some (x,0)):∀(l:List ay)(k:Nat),e.xIdx.drop k=l→(∀y∈l,RS y)→
 qJ N e e.xIdx v2 rec l k e.xIdx=some (⟨e.bg,e.aq,e.dK,e.aB,v2.1,e.xIdx,e.aT⟩,0)
 |[],k,_,_=>by
  rw[qJ];unfold L5;rw[eP (by omega),cond_true,ags];exact Vf N e rec e.xIdx v2 e.aT 0 rfl hr rfl
 |x::l,k,hd,hy=>by
  have h1:=hy x agz;have hl:=h1.at_;rw[qJ,Lw N x.aQ h1.iw,ags,ki,show decide ((k:Int)<(e.xIdx.length:Int))=true from aha (by have:=En hd;omega),bj hd];unfold IG;simp only[cond_true,ags,bne_self_eq_false,cond_false];rw[eP (by omega),cond_true,ags,List.length_set,ki,cond_true];rw[Tx N _ e.xIdx k x (bj hd) x.bw 0 rfl h1.wb];exact Vc N e rec v2 ha hr l (k+1) (kL hd) fun z hz=>hy z (agC _ hz)
theorem Nc(N:Nat):∀(d:Nat)(e:ao),SizeOf.sizeOf e<d→mu e→oB N d e=some (e,0)
 |0,_,h,_=>absurd h (agV _)
 |d+1,e,h,hb=>by
  have h1:=hb e agz;have hl:=h1.idx;rw[oB,Lw N e.aQ h1.iw,ags];unfold KW;rw[eP (by omega)];refine Eq.trans (Vc N e _ (e.aQ,0) h1.args (fun x hx=>Nc N d x (by have:=lk hx;omega) (hb.arg hx)) e.xIdx 0 rfl h1.each) ?_;cases e;rfl
theorem Vk(N:Nat)(e:ao)(h:SizeOf.sizeOf e<N)(hb:mu e):A1 N e=some e:=by
 unfold A1 Ld;rw[Nc N N e h hb];rfl
theorem J6(N:Nat):∀(l:List bk)(k:Nat)(acc:List bk),acc.length+l.length≤1000000000→(∀x∈l,gX 1000000000 x.dS)→se N l k acc=some (acc++l)
 |[],_,acc,_,_=>by rw[se,agO]
 |a::l,k,acc,h,hx=>by
  simp only[agw]at h;rw[se,ES N a.dS (hx a agz),ags,eP (by omega),cond_true];dsimp only;rw[J6 N l (k+1) _ (by simp only[agu,agw,agF];omega) fun y hy=>hx y (agC _ hy)];rw[agK];rfl
section
variable {N:Nat} {p:aY}
theorem US(S:List ByteArray)(W:List cF)(P:List cq)(O:List ByteArray):∀(l:List aL)(k n:Nat)(acc:List aL),acc.length=n→n+l.length≤1000→iI l→(∀d∈l,mu d.bE∧SizeOf.sizeOf d.bE<N)→
 tW N S W P O l k n acc=some (S,W,P,n+l.length,O,acc++l)
 |[],_,n,acc,_,_,_,_=>by rw[tW,agO];rfl
 |d::l,k,n,acc,ha,hb,hD,hE=>by
  simp only[agw]at hb;have hl:=hD.len d agz;have e1:rC N d.aJ=some d.aJ:=by
   unfold rC;rw[J6 N _ _ _ (by simp only[agF];omega) fun y hy=>hD.kT d agz y (List.mem_append_left _ hy)];rfl
  have e2:rC N d.bG=some d.bG:=by
   unfold rC;rw[J6 N _ _ _ (by simp only[agF];omega) fun y hy=>hD.kT d agz y (List.mem_append_right _ hy)];rfl
  rw[tW,e1,e2,Vk N d.bE (hE d agz).2 (hE d agz).1,ags,ags,ags,ha,ki,eP (by omega),cond_true,cond_true];refine Eq.trans (US S W P O l (k+1) (n+1) (acc++[d]) (by simp only[agu,agw,agF];omega) (by omega) ⟨fun y hy=>hD.len y (agC _ hy),fun y hy=>hD.kT y (agC _ hy)⟩ fun y hy=>hE y (agC _ hy)) ?_;rw[agK,agw,Nat.add_assoc,Nat.add_comm 1 l.length];rfl
structure Bc(N:Nat)(p:aY):Prop where
 b:Bd N p
 E:∀d∈p.aA,mu d.bE∧SizeOf.sizeOf d.bE<N
theorem MX(B:Bc N p)(S:List ByteArray)(W:List cF)(O:List ByteArray):∀(l:List cq)(k:Nat)(acc:List cq),acc.length+l.length≤1000→mZ l→
 rY N S W O p l k acc=some (S,W,acc++l,p.aA.length,O,p.aA)
 |[],k,acc,_,_=>by
  have:=B.b.d;rw[rY,US S W acc O p.aA 0 0 [] rfl (by omega) B.b.D B.E,agO,agN];rfl
 |x::l,k,acc,h,hP=>by
  simp only[agw]at h;rw[rY,M7 N x.aJ (hP.len x agz) (hP.kT x agz),ags,eP (by omega),cond_true];refine Eq.trans (MX B S W O l (k+1) (acc++[x]) (by simp only[agu,agw,agF];omega) ⟨fun y hy=>hP.len y (agC _ hy),fun y hy=>hP.kT y (agC _ hy)⟩) ?_;rw[agK];rfl
theorem Pe(B:Bc N p)(S:List ByteArray)(O:List ByteArray):∀(l:List cF)(k:Nat)(acc:List cF),acc.length+l.length≤1000→(∀c∈l,gX 1000000000 c.aQ)→
 tr N S O p l k acc=some (S,acc++l,p.bu,p.aA.length,O,p.aA)
 |[],k,acc,_,_=>by
  have:=B.b.q;rw[tr,MX B S acc O p.bu 0 [] (by simp only[agF];omega) B.b.P,agO];rfl
 |c::l,k,acc,h,hc=>by
  simp only[agw]at h;rw[tr,ES N c.aQ (hc c agz),ags,eP (by omega),cond_true];refine Eq.trans (Pe B S O l (k+1) (acc++[c]) (by simp only[agu,agw,agF];omega) fun y hy=>hc y (agC _ hy)) ?_;rw[agK];rfl
theorem Mf(B:Bc N p):rM N p=some (p.bx,p.cX,p.bu,p.aA.length,p.cU,p.aA):=by
 have h1:=B.b.s;have h2:=B.b.o;have h3:=B.b.w;unfold rM FR;rw[eP (by omega),eP (by omega),cond_true,cond_true,ags,ags,Pe B _ _ p.cX 0 [] (by simp only[agF];omega) B.b.W];rfl
end
noncomputable def hF(D:aL):Nat→ao→X ao
 |0,_=> .error .arg
 |n+1,e=>bif e.bg==3&&bL e.aq==bL D.aq then kf (dZ D.aJ e.xIdx) (SizeOf.sizeOf D.bE+1) D.bE else match dv (hF D n) e.aT with
  | .error x=> .error x
  | .ok a=> .ok ⟨e.bg,e.aq,e.dK,e.aB,e.aQ,e.xIdx,a⟩
def oF(A:List bk):Prop:=A.Pairwise fun a b=>(bL b.aq==bL a.aq)=false
structure Rp(D:aL)(e:ao):Prop where
 ok:kQ e
 idx:∀y∈dN e,y.bg=3→(bL y.aq==bL D.aq)=true→y.xIdx.length=D.aJ.length
theorem Rp.arg{D:aL}{e x:ao}(h:Rp D e)(hx:x∈e.aT):Rp D x:=⟨h.ok.arg hx,fun y hy=>h.idx y (Ap hx hy)⟩
theorem Rp.sub{D:aL}{e:ao}(h:Rp D e)(hd:oF D.aJ)(h3:(e.bg==3)=true)(hn:(bL e.aq==bL D.aq)=true):lE D.aJ e.xIdx:=
 ⟨h.idx e agz (beq_iff_eq.1 h3) hn,fun x hx=>(((h.ok e agz).2.2.1 x hx).1).2,hd⟩
section
variable {N:Nat} {D:aL}
theorem Rj(e:ao)(rec:ao→aL→Option (ao×Int))(f:ao→X ao):∀(l:List ao)(k:Nat)(acc:List ao),(∀y∈l,rec y D=some (gC fQ (f y)))→acc.length+l.length<1000000→
 pI N e rec D l k acc=match dv f l with| .error e=>some (fQ,e.code)| .ok r=>some (⟨e.bg,e.aq,e.dK,e.aB,e.aQ,e.xIdx,acc++r⟩,0)
 |[],k,acc,_,_=>by rw[pI,dv];dsimp only;rw[agO]
 |y::l,k,acc,hy,hb=>by
  simp only[agw]at hb;rw[pI,hy y agz,ags,dv];cases f y with
  |error e=>show(bif e.code !=0 then _ else _)=_;rw[e.ne];rfl
  |ok v=>
   show(bif Nat.ble ((acc.length+1)*160) 140737488355328 then _ else none)=_;rw[eP (by omega)];refine Eq.trans (Rj e rec f l (k+1) (acc++[v]) (fun z hz=>hy z (agC _ hz)) (by simp only[agu,agw,agF];omega)) ?_;cases dv f l with
   |error e=>rfl
   |ok r=>dsimp only;rw[agK];rfl
theorem Oz(hN:1000000<N)(hd:oF D.aJ)(hD:kQ D.bE)(hs:SizeOf.sizeOf D.bE<N):∀(d:Nat)(e:ao),SizeOf.sizeOf e<d→Rp D e→pa N d e D=some (gC fQ (hF D d e))
 |0,e,h,_=>absurd h (agV _)
 |d+1,e,h,R=>by
  rw[pa,hF];have h1:=(R.ok e agz).2.2.2;have ih:=Rj (N:=N) (D:=D) e (pa N d) (hF D d) e.aT 0 [] (fun y hy=>Oz hN hd hD hs d y (by have:=lk hy;omega) (R.arg hy)) (by simp only[agF];omega);have e0:pI N e (pa N d) D e.aT 0 []=some (gC fQ (match dv (hF D d) e.aT with| .error x=> .error x| .ok a=> .ok ⟨e.bg,e.aq,e.dK,e.aB,e.aQ,e.xIdx,a⟩)):=by
    rw[ih];cases dv (hF D d) e.aT<;>rfl
  cases h3:e.bg==3 with
  |false=>exact e0
  |true=>
   cases hn:bL e.aq==bL D.aq with
   |false=>exact e0
   |true=>
    have S:=R.sub hd h3 hn;show Option.bind (Ga N D.aJ e.xIdx D.bE) _=_;unfold Ga;rw[RF hN S N D.bE hs hD,Mk _ N (SizeOf.sizeOf D.bE+1) D.bE hs (ahf _)];rfl
theorem Rf(e:ao)(rec:ao→aL→Option (ao×Int))(f:ao→X ao):∀(l:List ao)(k:Nat)(acc:List ao),(∀y∈l,rec y D=some (gC fQ (f y)))→acc.length+l.length<1000000→
 pL N e rec D l k acc=match dv f l with| .error e=>some (fQ,e.code)| .ok r=>some (⟨e.bg,e.aq,e.dK,e.aB,e.aQ,e.xIdx,acc++r⟩,0)
 |[],k,acc,_,_=>by rw[pL,dv];dsimp only;rw[agO]
 |y::l,k,acc,hy,hb=>by
  simp only[agw]at hb;rw[pL,hy y agz,ags,dv];cases f y with
  |error e=>show(bif e.code !=0 then _ else _)=_;rw[e.ne];rfl
  |ok v=>
   show(bif Nat.ble ((acc.length+1)*160) 140737488355328 then _ else none)=_;rw[eP (by omega)];refine Eq.trans (Rf e rec f l (k+1) (acc++[v]) (fun z hz=>hy z (agC _ hz)) (by simp only[agu,agw,agF];omega)) ?_;cases dv f l with
   |error e=>rfl
   |ok r=>dsimp only;rw[agK];rfl
theorem QN(hN:1000000<N)(hd:oF D.aJ)(hD:kQ D.bE)(hs:SizeOf.sizeOf D.bE<N):∀(d:Nat)(e:ao),SizeOf.sizeOf e<d→Rp D e→pz N d e D=some (gC fQ (hF D d e))
 |0,e,h,_=>absurd h (agV _)
 |d+1,e,h,R=>by
  rw[pz,hF];have h1:=(R.ok e agz).2.2.2;have ih:=Rf (N:=N) (D:=D) e (pz N d) (hF D d) e.aT 0 [] (fun y hy=>QN hN hd hD hs d y (by have:=lk hy;omega) (R.arg hy)) (by simp only[agF];omega);have e0:pL N e (pz N d) D e.aT 0 []=some (gC fQ (match dv (hF D d) e.aT with| .error x=> .error x| .ok a=> .ok ⟨e.bg,e.aq,e.dK,e.aB,e.aQ,e.xIdx,a⟩)):=by
    rw[ih];cases dv (hF D d) e.aT<;>rfl
  cases h3:e.bg==3 with
  |false=>exact e0
  |true=>
   cases hn:bL e.aq==bL D.aq with
   |false=>exact e0
   |true=>
    have S:=R.sub hd h3 hn;show Option.bind (Fz N ⟨D.aJ,e.xIdx⟩ D.bE) _=_;unfold Fz;rw[Qn hN S N D.bE hs hD,Mk _ N (SizeOf.sizeOf D.bE+1) D.bE hs (ahf _)];rfl
theorem MZ:∀(d d':Nat)(e:ao),SizeOf.sizeOf e<d→SizeOf.sizeOf e<d'→hF D d e=hF D d' e
 |0,_,_,h,_=>absurd h (agV _)
 |_,0,_,_,h=>absurd h (agV _)
 |d+1,d'+1,e,h,h'=>by
  rw[hF,hF,LF e.aT fun x hx=>MZ d d' x (by have:=lk hx;omega) (by have:=lk hx;omega)]
end
theorem PN(F:ByteArray→aw)(J:∀s,(F s).xL.length≤300):∀(l:List aF)(out r:aw),nJ F l out= .ok r→r.xL.length≤out.xL.length+l.length*300
 |[],out,r,h=>by cases h;omega
 |m::l,out,r,h=>by
  rw[nJ]at h;cases hs:lH (F m.aq) m.dq with
  |error e=>rw[hs]at h;cases h
  |ok g=>
   rw[hs]at h;dsimp only at h;cases ha:iG out g with
   |error e=>rw[ha]at h;cases h
   |ok k=>
    rw[ha]at h;have h1:=Bi hs;have h2:=ME ha;have h3:=PN F J l k r h;have h4:=J m.aq;simp only[agw];omega
theorem yZ{α β:Type}{f:α→X β}:∀(l:List α)(r:List β),dv f l= .ok r→r.length=l.length∧∀y∈r,∃x∈l,f x= .ok y
 |[],r,h=>by cases h;exact⟨rfl,fun _ h=>by cases h⟩
 |x::l,r,h=>by
  rw[dv]at h;cases hx:f x with
  |error e=>rw[hx]at h;cases h
  |ok y=>
   rw[hx]at h;dsimp only at h;cases hl:dv f l with
   |error e=>rw[hl]at h;cases h
   |ok r'=>
    rw[hl]at h;cases h
    obtain⟨h1,h2⟩:=yZ l r' hl;refine⟨by rw[agw,agw,h1],fun z hz=> ?_⟩;rcases agX.1 hz with rfl|hz
    ·exact⟨x,agz,hx⟩
    ·obtain⟨w,hw,e⟩:=h2 z hz;exact⟨w,agC _ hw,e⟩
theorem Lv{F:ByteArray→aw}(J:∀s,(F s).xL.length≤300){l r:aw}(ok:rk l)(h:iX F l= .ok r):gX 1000000 r:=by
 have h1:=PN F J l.xL ⟨l.xK,[]⟩ r h;have h2:=ok.2;unfold gX;simp only[agF]at h1;omega
theorem Sh{F:ByteArray→aw}(J:∀s,(F s).xL.length≤300):∀(d:Nat)(e r:ao),kQ e→kf F d e= .ok r→mu r
 |0,e,r,_,h=>by cases h
 |d+1,e,r,ok,h=>by
  have h1:=ok e agz;rw[kf]at h;cases e1:iX F e.aQ with
  |error x=>rw[e1]at h;cases h
  |ok l=>
   rw[e1]at h;dsimp only at h;cases e2:dv (jb F) e.xIdx with
   |error x=>rw[e2]at h;cases h
   |ok i=>
    rw[e2]at h;dsimp only at h;cases e3:dv (kf F d) e.aT with
    |error x=>rw[e3]at h;cases h
    |ok a=>
     rw[e3]at h;cases h
     obtain⟨l1,m1⟩:=yZ _ _ e2;obtain⟨l2,m2⟩:=yZ _ _ e3;intro y hy;rcases agX.1 hy with rfl|hy
     ·refine⟨Lv J h1.1 e1,by have:=h1.2.1;show i.length≤_;omega,fun z hz=> ?_,by have:=h1.2.2.2;show a.length≤_;omega⟩;obtain⟨x,hx,hz⟩:=m1 z hz;have Je:=h1.2.2.1 x hx;unfold jb at hz;cases f1:iX F x.aQ with
      |error q=>rw[f1]at hz;cases hz
      |ok l'=>
       rw[f1]at hz;dsimp only at hz;cases f2:dv (iX F) x.bw with
       |error q=>rw[f2]at hz;cases hz
       |ok a'=>
        rw[f2]at hz;cases hz
        obtain⟨l3,m3⟩:=yZ _ _ f2;refine⟨Lv J Je.1 f1,by have:=Je.2.1;show a'.length≤_;omega,fun w hw=> ?_⟩;obtain⟨v,hv,hw⟩:=m3 w hw;exact Lv J (Je.2.2 v hv) hw
     ·obtain⟨z,hz,hy⟩:=yz hy;obtain⟨x,hx,hz⟩:=m2 z hz;exact Sh J d x z (ok.arg hx) hz y hy
theorem afP{e:ao}(h:TE e):Ue e:=
 ⟨agL h.1.2 (by decide),agL h.2.1 (by decide),fun x hx=>⟨agL (h.2.2.1 x hx).1.2 (by decide),agL (h.2.2.1 x hx).2.1 (by decide),fun l hl=>agL ((h.2.2.1 x hx).2.2 l hl).2 (by decide)⟩,agL h.2.2.2 (by decide)⟩
theorem Ql{D:aL}(hD:kQ D.bE):∀(d:Nat)(e r:ao),kQ e→hF D d e= .ok r→mu r
 |0,e,r,_,h=>by cases h
 |d+1,e,r,ok,h=>by
  have h1:=ok e agz;rw[hF]at h;cases h3:e.bg==3&&bL e.aq==bL D.aq with
  |true=>
   rw[h3,cond_true]at h;exact Sh (fun s=>E4 _ _ s fun x hx=>((h1.2.2.1 x hx).1).2) _ _ _ hD h
  |false=>
   rw[h3,cond_false]at h;cases e3:dv (hF D d) e.aT with
   |error x=>rw[e3]at h;cases h
   |ok a=>
    rw[e3]at h;cases h
    obtain⟨l2,m2⟩:=yZ _ _ e3;have hb:=afP h1;intro y hy;rcases agX.1 hy with rfl|hy
    ·exact⟨hb.iw,hb.idx,hb.each,by have:=h1.2.2.2;show a.length≤_;omega⟩
    ·obtain⟨z,hz,hy⟩:=yz hy;obtain⟨x,hx,hz⟩:=m2 z hz;exact Ql hD d x z (ok.arg hx) hz y hy
noncomputable def lx(D x:aL):X aL:=match hF D (SizeOf.sizeOf x.bE+1) x.bE with
 | .error e=> .error e
 | .ok b=> .ok ⟨x.aq,x.aB,x.aJ,x.bG,x.cP,b⟩
structure G8(N:Nat)(D x:aL):Prop where
 rp:Rp D x.bE
 size:SizeOf.sizeOf x.bE<N
section
variable {N:Nat} {D:aL}
theorem UB(hN:1000000<N)(hd:oF D.aJ)(hD:kQ D.bE)(hs:SizeOf.sizeOf D.bE<N){x:aL}(h:G8 N D x):
 Ew N x.bE D=some (gC fQ (hF D (SizeOf.sizeOf x.bE+1) x.bE))∧Hk N x.bE D=some (gC fQ (hF D (SizeOf.sizeOf x.bE+1) x.bE)):=by
 unfold Ew Hk;rw[Oz hN hd hD hs N x.bE h.size h.rp,QN hN hd hD hs N x.bE h.size h.rp,MZ N (SizeOf.sizeOf x.bE+1) x.bE h.size (ahf _)];exact⟨rfl,rfl⟩
theorem Uy(hN:1000000<N)(hd:oF D.aJ)(hD:kQ D.bE)(hs:SizeOf.sizeOf D.bE<N)(S:List ByteArray)(W:List cF)(P:List cq)(O:List ByteArray)(D0:List aL)(s:ByteArray)(at_:Int)(n:Nat)(hn:n≤1000):
 ∀(l:List aL)(i:Nat)(R:List aL)(f:Nat),R.length=i→l.length<f→i+l.length=n→(∀x∈l,G8 N D x)→
  mL N (S,W,P,n,O,D0) D s at_ f (i:Int) (R++l)=match dv (lx D) l with| .error e=>some (qB,e.code)| .ok r=>mL N (S,W,P,n,O,D0) D s at_ 1 (n:Int) (R++r)
 |l,i,R,0,_,h,_,_=>absurd h (agV _)
 |[],i,R,f+1,hR,hf,hi,_=>by
  have hi:i=n:=by simpa using hi
  subst hi;rw[dv];dsimp only;rw[mL,mL,show decide ((i:Int)<(i:Int))=false from ahb (by omega)];rfl
 |x::l,i,R,f+1,hR,hf,hi,hx=>by
  simp only[agw]at hf hi;have JJ:=hx x agz;have hlen:(R++x::l).length=n:=by simp only[agu,agw];omega
  have hg:(R++x::l)[i]?=some x:=by rw[←hR];exact GL R x l
  have x9:∀y,(R++x::l).set i y=R++y::l:=fun y=>by rw[←hR];exact KJ R x y l
  rw[mL];dsimp only;rw[show decide ((i:Int)<(n:Int))=true from aha (by omega),hlen,ki,show decide ((0:Int)≤(i:Int))=true from aha (by omega),agU,hg,cond_true,cond_true,cond_true,ags,
    (UB hN hd hD hs JJ).1,ags,dv]
  cases e1:hF D (SizeOf.sizeOf x.bE+1) x.bE with
  |error e=>
   rw[show lx D x= .error e by unfold lx;rw[e1]];show(bif e.code !=0 then _ else _)=_;rw[e.ne];rfl
  |ok b=>
   rw[show lx D x= .ok ⟨x.aq,x.aB,x.aJ,x.bG,x.cP,b⟩ by unfold lx;rw[e1],x9,xE (by omega)];show mL N _ D s at_ f _ (R++⟨x.aq,x.aB,x.aJ,x.bG,x.cP,b⟩::l)=_;have ih:=Uy hN hd hD hs S W P O D0 s at_ n hn l (i+1) (R++[⟨x.aq,x.aB,x.aJ,x.bG,x.cP,b⟩]) f (by simp only[agu,agw,agF];omega) (by omega) (by omega) fun y hy=>hx y (agC _ hy);rw[agK]at ih;refine Eq.trans ih ?_;cases dv (lx D) l with
   |error e=>rfl
   |ok r=>dsimp only;rw[agK];rfl
def mC(c:Bool)(at_:Nat):Nat→List aL→List aL
 |_,[]=>[]
 |k,x::r=>bif !(k==at_)||c then x::mC c at_ (k+1) r else mC c at_ (k+1) r
theorem Ny(at_:Nat):∀(k:Nat)(r:List aL),mC true at_ k r=r
 |_,[]=>rfl
 |k,x::r=>by rw[mC,Bool.or_true,cond_true,Ny at_ (k+1) r]
theorem QF(at_:Nat):∀(k:Nat)(r:List aL),at_<k→mC false at_ k r=r
 |_,[],_=>rfl
 |k,x::r,h=>by
  rw[mC,show(k==at_)=false from beq_eq_false_iff_ne.2 (by omega),QF at_ (k+1) r (by omega)];rfl
theorem S3(at_:Nat):∀(k:Nat)(r:List aL),k≤at_→mC false at_ k r=r.take (at_-k)++r.drop (at_-k+1)
 |_,[],_=>by rw[mC,List.take_nil,List.drop_nil];rfl
 |k,x::r,h=>by
  rw[mC];by_cases hk:k=at_
  ·subst hk;rw[show(k==k)=true from ahc k,QF k (k+1) r (by omega),Nat.sub_self];rfl
  ·rw[show(k==at_)=false from beq_eq_false_iff_ne.2 hk,S3 at_ (k+1) r (by omega),show at_-k=(at_-(k+1))+1 by omega];rfl
theorem T9(hN:1000000<N)(hd:oF D.aJ)(hD:kQ D.bE)(hs:SizeOf.sizeOf D.bE<N)(p:aY)(s:ByteArray)(at_:Nat)(QJ:p.aA[at_]?=some D):
 ∀(l:List aL)(k:Nat)(acc:List aL),(∀x∈l,G8 N D x)→acc.length+l.length≤1000→
  lT N p (at_:Int) s l k acc=match dv (lx D) l with| .error e=>some (qB,e.code)| .ok r=>lT N p (at_:Int) s [] 0 (acc++mC (dn p.cU s) at_ k r)
 |[],k,acc,_,_=>by rw[dv];dsimp only;rw[mC,agO,lT,lT]
 |x::l,k,acc,hx,hb=>by
  simp only[agw]at hb;have JJ:=hx x agz;have ih:=fun acc hb=>T9 hN hd hD hs p s at_ QJ l (k+1) acc (fun y hy=>hx y (agC _ hy)) hb
  conv=>lhs;rw[lT]
  rw[show decide ((0:Int)≤(at_:Int))=true from aha (by omega),agU,QJ,cond_true,ags,(UB hN hd hD hs JJ).2,ags,DO,ags,dv];cases e1:hF D (SizeOf.sizeOf x.bE+1) x.bE with
  |error e=>
   rw[show lx D x= .error e by unfold lx;rw[e1]];show(bif e.code !=0 then _ else _)=_;rw[e.ne];rfl
  |ok b=>
   rw[show lx D x= .ok ⟨x.aq,x.aB,x.aJ,x.bG,x.cP,b⟩ by unfold lx;rw[e1]];rw[show(bif ((k:Int) !=(at_:Int))then some true else some (dn p.cU s))=some (!(k==at_)||dn p.cU s) by rw[I0];cases k==at_<;>rfl,ags,eP (by omega)];show(bif _ then lT N p (at_:Int) s l (k+1) (acc++[⟨x.aq,x.aB,x.aJ,x.bG,x.cP,b⟩])else lT N p (at_:Int) s l (k+1) acc)=_;rw[ih acc (by omega),ih _ (by simp only[agu,agw,agF];omega)];cases hm:dv (lx D) l with
   |error e=>cases !(k==at_)||dn p.cU s<;>rfl
   |ok r=>
    dsimp only;rw[mC];cases !(k==at_)||dn p.cU s with
    |true=>rw[cond_true,cond_true,agK];rfl
    |false=>rfl
end
theorem QX(S:List ByteArray):∀(l:List bk)(O:List ByteArray),n6 S O l=0→oF l∧∀a∈l,dn O a.aq=false
 |[],_,_=>⟨List.Pairwise.nil,fun _ h=>by cases h⟩
 |a::l,O,h=>by
  rw[n6]at h;cases e1:iZ (S++O) a.aq !=0 with
  |true=>rw[e1,cond_true]at h;rw[h]at e1;cases e1
  |false=>
   rw[e1,cond_false]at h;cases e2:ik S a.dS !=0 with
   |true=>rw[e2,cond_true]at h;rw[h]at e2;cases e2
   |false=>
    rw[e2,cond_false]at h;obtain⟨h1,h2⟩:=QX S l _ h;have h3:=(He (jy e1)).2;rw[kp,ahg]at h3;refine⟨List.pairwise_cons.2 ⟨fun b hb=> ?_,h1⟩,fun b hb=> ?_⟩
    ·have:=h2 b hb;rw[kp,ahg,AD]at this;rw[←this.2];exact Bool.eq_iff_iff.2 (by rw[beq_iff_eq,beq_iff_eq];exact eq_comm)
    ·rcases agX.1 hb with rfl|hb
     ·exact h3.2
     ·have:=h2 b hb;rw[kp,ahg]at this;exact this.1
theorem aaw{A B:List bk}(h:oF (A++B)):oF A:=(List.pairwise_append.1 h).1
theorem af2{l:List cq}{s:ByteArray}(h:dn (l.map (·.aq)) s=false):l.find? (fun x=>bL x.aq==bL s)=none:=by
 rw[E5]at h;cases e:l.find? fun x=>bL x.aq==bL s with
 |none=>rfl
 |some x=>rw[e]at h;cases h
theorem ac7{p:aY}{s:ByteArray}{i j:Nat}{D x:aL}(hj:p.aA.findIdx? (gn s)=some j)(hD:p.aA[j]?=some D)(hi:gn s D=true)(gD:yd p j D)(gx:yd p i x):
 ∀y∈dN x.bE,y.bg=3→(bL y.aq==bL D.aq)=true→y.xIdx.length=D.aJ.length:=by
 intro y hy h3 hn;have hr:=gx.reads y hy h3;unfold rJ at hr;have LW:p.bu.find? (fun x=>bL x.aq==bL y.aq)=none:=by
  have:=gD.par;rw[My (s:=y.aq) (by rw[beq_iff_eq]at hn ⊢;exact hn)]at this;exact af2 this
 have iF:gn y.aq=gn s:=by
  funext d
  unfold gn at hi ⊢;rw[beq_iff_eq.1 hn,beq_iff_eq.1 hi]
 have aft:fx p.bu (p.aA.take i) y.aq=(match (p.aA.take i).find? (gn s)with|some d=>(d.aB,d.aJ.map (·.dS),true)|none=>(fD,[],false)):=by
  unfold fx;rw[LW,iF]
  try rfl
 rw[aft]at hr;cases hf:(p.aA.take i).find? (gn s)with
 |none=>rw[hf]at hr;cases hr
 |some d=>
  rw[hf]at hr;have hd:d=D:=by
    have h1:p.aA.find? (gn s)=some d:=by
     have:=ag6 i p.aA;rw[←this,List.find?_append,hf];rfl
    rcases AI (gn s) p.aA with⟨h2,_⟩|⟨k,e,h2,h3,h4,_⟩
    ·rw[hj]at h2;cases h2
    ·rw[hj]at h2;cases h2;rw[hD]at h3;cases h3;rw[h1]at h4;cases h4;rfl
  subst hd;dsimp only at hr;rw[cond_true,agy]at hr;cases he:y.xIdx.length==d.aJ.length with
  |true=>exact beq_iff_eq.1 he
  |false=>rw[he]at hr;cases hr
theorem PX(N:Nat)(s:ByteArray)(D:List aL)(hl:D.length<1000000):∀(n i:Nat),i≤D.length→D.length-i<n→wB N D.length D s n (i:Int)=some (l6 (D.drop i) s i)
 |0,i,_,h=>absurd h (agV _)
 |n+1,i,hi,h=>by
  rw[wB];by_cases hk:i<D.length
  ·rw[show decide ((i:Int)<(D.length:Int))=true from aha (by omega),show decide ((0:Int)≤(i:Int))=true from aha (by omega),cond_true,cond_true,agU,agx hk,ags,List.drop_eq_getElem_cons hk,ID,xE (by omega)];dsimp only;rw[PX N s D hl n (i+1) (by omega) (by omega),show zG N D[i] s=some (gn s D[i])from rfl,ags];cases gn s D[i]<;>rfl
  ·rw[show decide ((i:Int)<(D.length:Int))=false from ahb (by omega),List.drop_eq_nil_of_le (by omega)];rfl
theorem Wu(N:Nat)(hN:1000000<N)(S:List ByteArray)(W:List cF)(P:List cq)(O:List ByteArray)(s:ByteArray)(D:List aL)(hl:D.length<1000000):g_program_IndexOf_n1 N S W P D.length O s D=some (l6 D s 0):=by
 unfold g_program_IndexOf_n1 GN;have:=PX N s D hl N 0 (Nat.zero_le _) (by omega);rw[ag2]at this;rw[ki,cond_true];rw[show((0:Nat):Int)=0 from rfl]at this;rw[this];rfl
noncomputable def Ee(p:aY)(s:ByteArray):List aL:=match p.aA.find? (gn s)with
 |none=>[]
 |some D=>match dv (lx D) p.aA with
  | .error _=>[]
  | .ok r=>r
theorem adM{N:Nat}{p:aY}(hN:2147483648<N)(B:Bc N p)(s:ByteArray)(okB:∀d∈p.aA,mU d.bE=0→kQ d.bE)(lY:∀d∈Ee p s,2*SizeOf.sizeOf d.bE+2<N):
 ∃r x,wM N p s=some (r,x)∧DT N p s=some (r,x)∧∀d∈r.aA,2*SizeOf.sizeOf d.bE+2<N:=by
 have jK:=B.b.d;obtain⟨z,e1,e2,e3⟩:=S2 hN B.b s;unfold wM DT;rw[e1,e2,ags,ags];cases hz:z !=0 with
 |true=>exact⟨_,_,rfl,rfl,fun _ h=>by cases h⟩
 |false=>
  obtain⟨N8,j,D,hj,hD,hi⟩:=e3 (jy hz);have gD:=N8 j D hD;have su:j<p.aA.length:=by
   by_cases h:j<p.aA.length
   ·exact h
   ·rw[agZ (by omega)]at hD;cases hD
  have Uj:=yN hD;have kE:=okB D Uj gD.body;have hs:=(B.E D Uj).2;have hd:oF D.aJ:=aaw (QX _ _ _ gD.ZQ).1;have rp:∀x∈p.aA,G8 N D x:=fun x hx=>by
   obtain⟨i,je,dR⟩:=List.mem_iff_getElem.1 hx;have gx:=N8 i x (by rw[agx je,dR]);exact⟨⟨okB x hx gx.body,ac7 hj hD hi gD gx⟩,(B.E x hx).2⟩
  have Kh:l6 p.aA s 0=(j:Int):=by unfold l6;rw[hj];dsimp only;rw[agN]
  simp only[cond_false];rw[Mf B,Qa,ags,ags];dsimp only;rw[Wu N (by omega) _ _ _ _ s p.aA (by omega),ags,Kh,ki,show decide ((0:Int)≤(j:Int))=true from aha (by omega),show decide ((j:Int)<(p.aA.length:Int))=true from aha (by omega),agU,hD];simp only[cond_true,ags];have l1:=Uy (N:=N) (by omega) hd kE hs p.bx p.cX p.bu p.cU p.aA s (j:Int) p.aA.length (by omega) p.aA 0 [] N rfl (by omega) (by omega) rp;have l2:=T9 (N:=N) (by omega) hd kE hs p s j hD p.aA 0 [] rp (by simp only[agF];omega);rw[List.nil_append]at l1;rw[show((0:Nat):Int)=0 from rfl]at l1;rw[l1,l2];cases hm:dv (lx D) p.aA with
  |error e=>exact⟨_,_,rfl,rfl,fun _ h=>by cases h⟩
  |ok r=>
   dsimp only;obtain⟨hlen,iC⟩:=yZ _ _ hm;have ae7:Ee p s=r:=by
    unfold Ee;rcases AI (gn s) p.aA with⟨h2,_⟩|⟨k,e,h2,h3,h4,_⟩
    ·rw[hj]at h2;cases h2
    ·rw[hj]at h2;cases h2;rw[hD]at h3;cases h3;rw[h4];dsimp only;rw[hm]
   rw[ae7]at lY;have parts:∀d∈r,∃x∈p.aA,d.aJ=x.aJ∧d.bG=x.bG∧mu d.bE:=fun d eR=>by
     obtain⟨x,hx,e⟩:=iC d eR;unfold lx at e;cases e4:hF D (SizeOf.sizeOf x.bE+1) x.bE with
     |error q=>rw[e4]at e;cases e
     |ok b=>
      rw[e4]at e;cases e
      exact⟨x,hx,rfl,rfl,Ql kE _ _ _ (rp x hx).rp.ok e4⟩
   have bc:∀K:List aL,(∀x∈K,x∈r)→K.length≤r.length→Bc N ⟨p.bx,p.cX,p.bu,K,p.cU⟩:=fun K hK hKl=>by
    refine⟨⟨B.b.s,B.b.w,B.b.q,by show K.length≤_;omega,B.b.o,B.b.P,⟨fun d eR=> ?_,fun d eR=> ?_⟩,B.b.W,fun d eR=> ?_⟩,fun d eR=> ?_⟩
    ·obtain⟨x,hx,h1,h2,_⟩:=parts d (hK d eR);rw[h1,h2];exact B.b.D.len x hx
    ·obtain⟨x,hx,h1,h2,_⟩:=parts d (hK d eR);rw[h1,h2];exact B.b.D.kT x hx
    ·obtain⟨x,hx,_,_,h3⟩:=parts d (hK d eR);exact⟨h3.ok,by have:=lY d (hK d eR);omega⟩
    ·obtain⟨x,hx,_,_,h3⟩:=parts d (hK d eR);exact⟨h3,by have:=lY d (hK d eR);omega⟩
   rw[mL,lT];dsimp only;rw[show decide ((p.aA.length:Int)<(p.aA.length:Int))=false from ahb (by omega),cond_false,TI,ags,List.nil_append,List.nil_append,hlen,ki];cases hh:dn p.cU s with
   |true=>
    rw[Ny];have b1:=bc r (fun _ h=>h) (agE _);obtain⟨a,x,v1,v2,_⟩:=KB hN b1.b;rw[v1,v2];simp only[cond_true,ags];cases hx:x !=0 with
    |true=>exact⟨_,_,rfl,rfl,fun _ h=>by cases h⟩
    |false=>
     simp only[cond_false];rw[Mf b1,ags];dsimp only;rw[ki];exact⟨_,_,rfl,rfl,lY⟩
   |false=>
    rw[S3 j 0 r (Nat.zero_le _),Nat.sub_zero];have PF:(r.take j++r.drop (j+1)).length+1=r.length:=by
      rw[agu,List.length_take,List.length_drop];omega
    have hk:∀x∈r.take j++r.drop (j+1),x∈r:=fun x hx=>by
     rcases ag5.1 hx with h|h
     ·exact List.mem_of_mem_take h
     ·exact List.mem_of_mem_drop h
    have b1:=bc _ hk (by omega);obtain⟨a,x,v1,v2,_⟩:=KB hN b1.b;have VP:GR N r (j:Int) p.aA.length=some (r.take j++r.drop (j+1)):=by
     unfold GR;rw[hlen,ki,show decide ((0:Int)≤(j:Int))=true from aha (by omega),agU,show Nat.blt j p.aA.length=true from Nat.ble_eq_true_of_le su,show Nat.blt p.aA.length 9223372036854775807=true from Nat.ble_eq_true_of_le (by omega)];rfl
    rw[VP,v2];simp only[cond_false,ags];rw[show(r.take j++r.drop (j+1)).length+1=p.aA.length by omega,ki,show(r.take j++r.drop (j+1)).length=p.aA.length-1 by omega,ki,cond_true,cond_true,v1,ags];dsimp only;cases hx:x !=0 with
    |true=>exact⟨_,_,rfl,rfl,fun _ h=>by cases h⟩
    |false=>
     simp only[cond_false];rw[Mf b1,ags];dsimp only;rw[ki];exact⟨_,_,rfl,rfl,fun d eR=>lY d (hk d eR)⟩
end Go.Proofs.YtphmhnabilhbgaaGreatDoor
