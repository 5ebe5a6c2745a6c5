/-
  Part 21 of the proof: SmVF, SmK, SmL, SmM, SmN, SmO, SmP, SmQ, OpenT, SmStepAbs.
-/
import Derived.Test.YtpgmcallngdceaaGreatDoorSp20
namespace Go.Proofs.YtpgmcallngdceaaGreatDoor
open Go.RowKit
set_option maxRecDepth 100000
set_option linter.unusedSimpArgs false
set_option linter.unusedVariables false
theorem aai{n d:Int}: -(n.natAbs:Int)≤n.tdiv d*d∧n.tdiv d*d≤(n.natAbs:Int):=by
 have h:(n.tdiv d*d).natAbs≤n.natAbs:=by rw[Int.natAbs_mul,Int.natAbs_tdiv];exact Nat.div_mul_le_self _ _
 omega
theorem F9(N:Nat)(n d:Int64)(hd:0<d.toInt)(b1: -4611686025000000000≤n.toInt)(b2:n.toInt≤4611686025000000000):
 sU N n d=some (Int64.ofInt (n.toInt / d.toInt)):=by
 have t1:=KW (a:=n.toInt) (b:=d.toInt);have t2:=aai (n:=n.toInt) (d:=d.toInt);have q1:(Int64.ofInt (n.toInt.tdiv d.toInt)).toInt=n.toInt.tdiv d.toInt:=gC (by omega) (by omega);have q2:((Int64.ofInt (n.toInt.tdiv d.toInt))*d).toInt=n.toInt.tdiv d.toInt*d.toInt:=by
  rw[oI]<;>rw[q1]<;>omega
 have q3:((Int64.ofInt (n.toInt.tdiv d.toInt))-(1:Int64)).toInt=n.toInt.tdiv d.toInt-1:=by
  rw[nI]<;>rw[q1,show(1:Int64).toInt=1 from rfl]<;>omega
 have key:=Pa (n:=n.toInt) hd;unfold sU;rw[bne_iff_ne.2 (show d.toInt≠0 by omega),q2];simp only[cond_true];cases hz:decide (n.toInt.tdiv d.toInt*d.toInt>n.toInt)with
 |true=>
  rw[hz]at key;simp only[cond_true]at key ⊢
  congr 1
  exact n9 (q3.trans key)
 |false=>
  rw[hz]at key;simp only[cond_false]at key ⊢;rw[←key]
theorem Nr{n d B:Int}(hd:0<d)(hB:0≤B)(h1: -B≤n)(h2:n≤B): -B≤n / d∧n / d≤B∧n-d<n / d*d∧n / d*d≤n:=by
 have e:=Int.mul_ediv_add_emod n d;have e1:=Int.emod_nonneg n (show d≠0 by omega);have e2:=Int.emod_lt_of_pos n hd;rw[Int.mul_comm]at e;refine⟨?_,?_,by omega,by omega⟩
 ·refine Int.le_ediv_of_mul_le hd ?_;have:B*1≤B*d:=Int.mul_le_mul_of_nonneg_left (by omega) hB;rw[Int.neg_mul];omega
 ·by_cases h:0≤n
  ·exact Int.le_trans (Int.ediv_le_self _ h) h2
  ·exact Int.le_trans (Int.le_of_lt (Int.ediv_neg_of_neg_of_pos (by omega) hd)) hB
theorem Lt(N:Nat)(n d:Int64)(how:Int)(hd:0<d.toInt)(lN:d.toInt≤4294967296)(b1: -4611686018427387904≤n.toInt)(b2:n.toInt≤4611686018427387904):
 ux N n d how=some (Int64.ofInt (gy n.toInt d.toInt how)):=by
 obtain⟨k1,k2,k3,k4⟩:=Nr hd (B:=4611686018427387904) (by decide) b1 b2;have q0:(Int64.ofInt (n.toInt / d.toInt)).toInt=n.toInt / d.toInt:=gC (by omega) (by omega);have q1:(Int64.ofInt (n.toInt / d.toInt)*d).toInt=n.toInt / d.toInt*d.toInt:=by rw[oI]<;>rw[q0]<;>omega
 have q2:(n-Int64.ofInt (n.toInt / d.toInt)*d).toInt=n.toInt-n.toInt / d.toInt*d.toInt:=by rw[nI]<;>rw[q1]<;>omega
 have q3:(d-(n-Int64.ofInt (n.toInt / d.toInt)*d)).toInt=d.toInt-(n.toInt-n.toInt / d.toInt*d.toInt):=by rw[nI]<;>rw[q2]<;>omega
 have q4:Int64.ofInt (n.toInt / d.toInt)+(1:Int64)=Int64.ofInt (n.toInt / d.toInt+1):=n9 (by rw[rU]<;>rw[q0,show(1:Int64).toInt=1 from rfl]<;>omega);have q5:(Int64.ofInt ((n.toInt / d.toInt).tmod 2)).toInt=(n.toInt / d.toInt).tmod 2:=by
  have:=Ny (a:=n.toInt / d.toInt) (b:=2) (by decide);exact gC (by omega) (by omega)
 rw[←acy how (n:=n.toInt) (d:=d.toInt) (q:=n.toInt / d.toInt) (rest:=n.toInt-n.toInt / d.toInt*d.toInt) rfl rfl];unfold ux;rw[F9 N n d hd (by omega) (by omega),ajm,q2,q3,q0,q5,q4,ik,ajm];generalize n.toInt-n.toInt / d.toInt*d.toInt=rest;generalize n.toInt / d.toInt=q;cases (rest==0||how==1)with
 |true=>rfl
 |false=>
  simp only[cond_false];cases how==2 with
  |true=>rfl
  |false=>
   simp only[cond_false];cases how==3 with
   |true=>simp only[cond_true];cases decide (n.toInt<0)<;>rfl
   |false=>
    simp only[cond_false];rw[dp,ik,ajm];cases (decide (rest>d.toInt-rest)||(rest==d.toInt-rest&&q.tmod 2 !=0))<;>rfl
theorem aif(a b:Int64):(na a b).toInt=max a.toInt b.toInt:=by unfold na;split<;>omega
theorem acV(a b:Int64):(rN a b).toInt=min a.toInt b.toInt:=by unfold rN;split<;>omega
theorem zy(N:Nat){t:aD}(F:qx t)(n:Int64)(b1: -4611686018427387905≤n.toInt)(b2:n.toInt≤4611686018427387905):oG N t n=some (jx t n.toInt):=by
 obtain⟨f1,f2,f3,f4,f5,f6⟩:=FX F.b1 F.b2;obtain⟨h1,h2⟩:=FN F;have mh:(-(Int64.ofInt ((1:Int)*2^(min ((IntKind.u64.wrap (aS (t.bz-(1:Int))))).toNat (IntKind.bits .i64)))))=Int64.ofInt (-b7 t):=n9 f3;have yD:((Int64.ofInt ((1:Int)*2^(min ((IntKind.u64.wrap (aS (t.bz-(1:Int))))).toNat (IntKind.bits .i64))))-(1:Int64))=Int64.ofInt (b7 t-1):=n9 f4;have hf0:(Int64.ofInt ((1:Int)*2^(min ((IntKind.u64.wrap (aS (t.bz-(1:Int))))).toNat (IntKind.bits .i64))))=Int64.ofInt (b7 t):=by
  have a1:=congrArg Int64.toInt yD;have a2:=f4;have e:∀x:Int64,(x-1).toInt=b7 t-1→x=Int64.ofInt (b7 t):=fun x hx=>by
   refine n9 ?_;rw[G4,show(1:Int64).toInt=1 from rfl,IntKind.wrap_i64]at hx;have:=iF x;omega
  exact e _ f4
 have e0:(Int64.ofInt (b7 t)).toInt=b7 t:=gC (by omega) (by omega);have e1:(Int64.ofInt (-b7 t)).toInt= -b7 t:=gC (by omega) (by omega);have e2:(Int64.ofInt (b7 t-1)).toInt=b7 t-1:=gC (by omega) (by omega);have J:∀z:Int64,z.toInt=n.toInt∧(t.bI==2)=false∨(z.toInt=mO true (b7 t) n.toInt∧(t.bI==2)=true)→yd N t z=some (jx t n.toInt):=fun z hz=>by
  unfold yd;rw[mh,yD];unfold jx
  congr 1
  refine zY ?_ rfl;show(na (Int64.ofInt (-b7 t)) (rN (Int64.ofInt (b7 t-1)) z)).toInt=(Int64.ofInt (mO (t.bI==2) (b7 t) n.toInt)).toInt;have hb:=aa5 (w:=t.bI==2) (h:=b7 t) (n:=n.toInt) (by omega);rw[aif,acV,e1,e2,gC (by omega) (by omega)];rcases hz with⟨hz,ho⟩|⟨hz,ho⟩
  ·rw[hz,ho];rfl
  ·rw[ho]at hb ⊢;rw[hz];omega
 unfold oG;rw[f1];simp only[cond_true];cases ho:t.bI==2 with
 |false=>exact J n (.inl ⟨rfl,ho⟩)
 |true=>
  simp only[cond_true];rw[hf0];have a1:(n+Int64.ofInt (b7 t)).toInt=n.toInt+b7 t:=by rw[rU]<;>rw[e0]<;>omega
  have a2:((2:Int64)*Int64.ofInt (b7 t)).toInt=2*b7 t:=by rw[oI]<;>rw[e0,show(2:Int64).toInt=2 from rfl]<;>omega
  rw[F9 N _ _ (by rw[a2];omega) (by rw[a1];omega) (by rw[a1];omega),ajm,a1,a2];obtain⟨k1,k2,k3,k4⟩:=Nr (n:=n.toInt+b7 t) (d:=2*b7 t) (B:=4611686025000000000) (by omega) (by decide) (by omega) (by omega);have a3:(Int64.ofInt ((n.toInt+b7 t)/(2*b7 t))).toInt=(n.toInt+b7 t)/(2*b7 t):=gC (by omega) (by omega);have hq:(n.toInt+b7 t)/(2*b7 t)*(2*b7 t)=(n.toInt+b7 t)/(2*b7 t)*2*b7 t:=by rw[Int.mul_assoc]
  have hm:(n.toInt+b7 t)%(2*b7 t)=n.toInt+b7 t-(n.toInt+b7 t)/(2*b7 t)*(2*b7 t):=by
   rw[Int.emod_def,Int.mul_comm]
  have pg:2≤b7 t→-4611686025000000000≤(n.toInt+b7 t)/(2*b7 t)*2∧(n.toInt+b7 t)/(2*b7 t)*2≤4611686025000000000:=fun hh=>by
   have z1:(n.toInt+b7 t)/(2*b7 t)*2≤(n.toInt+b7 t).natAbs:=by
    by_cases hp:0≤(n.toInt+b7 t)/(2*b7 t)
    ·have:(n.toInt+b7 t)/(2*b7 t)*2≤(n.toInt+b7 t)/(2*b7 t)*(2*b7 t):=Int.mul_le_mul_of_nonneg_left (by omega) hp;omega
    ·omega
   have z2: -((n.toInt+b7 t).natAbs:Int)-4*b7 t≤(n.toInt+b7 t)/(2*b7 t)*2:=by
    by_cases hp:0≤(n.toInt+b7 t)/(2*b7 t)
    ·omega
    ·have:(n.toInt+b7 t)/(2*b7 t)*(2*b7 t)≤(n.toInt+b7 t)/(2*b7 t)*2:=Int.mul_le_mul_of_nonpos_left (by omega) (by omega);omega
   omega
  obtain⟨z1,z2⟩:=pg h1;have a4:(Int64.ofInt ((n.toInt+b7 t)/(2*b7 t))*(2:Int64)).toInt=(n.toInt+b7 t)/(2*b7 t)*2:=by rw[oI]<;>rw[a3,show(2:Int64).toInt=2 from rfl]<;>omega
  have a5:(Int64.ofInt ((n.toInt+b7 t)/(2*b7 t))*(2:Int64)*Int64.ofInt (b7 t)).toInt=(n.toInt+b7 t)/(2*b7 t)*(2*b7 t):=by
   rw[oI]<;>rw[a4,e0,←hq]<;>omega
  refine J _ (.inr ⟨?_,ho⟩);rw[nI]<;>rw[a5]
  ·unfold mO;simp only[cond_true];rw[hm];omega
  ·omega
  ·omega
theorem E8(N:Nat){t:aD}(F:qx t):pZ N t=some (Int64.ofInt (dU t)):=by
 obtain⟨s1,s2,s3⟩:=xx F.f1 F.f2;have s4:(Int64.ofInt ((1:Int)*2^(min (t.bE).toNat (IntKind.bits .i64))))=Int64.ofInt (dU t):=n9 s2;unfold pZ;rw[s1,aj4 F.f1,s4];rfl
theorem M4{t:aD}(F:qx t):(Int64.ofInt (dU t)).toInt=dU t:=by
 have:=ED F;exact gC (by omega) (by omega)
theorem aiW(N:Nat){op:Int}{t:aD}{a b:ay}(F:qx t)(A:Jr t a)(B:op≠8→Jr t b):CQ N op t a.xN b.xN=some (Bf op t a.xN.toInt b.xN.toInt):=by
 have a1:=m7 F A;have S:=ED F;have s:=M4 F;unfold CQ Bf;by_cases h8:op=8
 ·subst h8;have e:(-a.xN).toInt= -a.xN.toInt:=nW (by omega);rw[show((8:Int)==4)=false from rfl,show((8:Int)==5)=false from rfl,show((8:Int)==6)=false from rfl,show((8:Int)==8)=true from rfl];simp only[cond_false,cond_true];rw[zy N F _ (by rw[e];omega) (by rw[e];omega),e];rfl
 have b1:=m7 F (B h8);rw[beq_false_of_ne h8];cases op==4 with
 |true=>
  have e:=rU (a:=a.xN) (b:=b.xN) (by omega) (by omega);simp only[cond_true];rw[zy N F _ (by rw[e];omega) (by rw[e];omega),e];rfl
 |false=>
  simp only[cond_false];cases op==5 with
  |true=>
   have e:=nI (a:=a.xN) (b:=b.xN) (by omega) (by omega);simp only[cond_true];rw[zy N F _ (by rw[e];omega) (by rw[e];omega),e];rfl
  |false=>
   simp only[cond_false];cases op==6 with
   |true=>
    have M:=uS a1.1 a1.2 b1.1 b1.2;have e:=oI (a:=a.xN) (b:=b.xN) (by omega) (by omega);simp only[cond_true];rw[E8 N F,ajm,Lt N _ _ _ (by rw[s];omega) (by rw[s];omega) (by rw[e];omega) (by rw[e];omega),ajm,e,s];have r:=JA (n:=a.xN.toInt*b.xN.toInt) (d:=dU t) (how:=t.bK) (B:=4611686018427387904) (by omega) (by decide) (by omega) (by omega);have r2:=vi (n:=a.xN.toInt*b.xN.toInt) (d:=dU t) (how:=t.bK) (by omega) (by omega) (by omega);rw[zy N F _ (by rw[r2];omega) (by rw[r2];omega),r2];rfl
   |false=>
    simp only[cond_false];by_cases hb:b.xN.toInt=0
    ·rw[hb];rfl
    ·rw[beq_false_of_ne hb];simp only[cond_false];have M:=uS a1.1 a1.2 (show-1073741824≤dU t by omega) S.2;have J:∀x y:Int64,0<y.toInt→y.toInt≤1073741824→-1073741824≤x.toInt→x.toInt≤1073741824→xq N t x y=some (jx t (gy (x.toInt*dU t) y.toInt t.bK),0):=fun x y y0 y1 x0 x1=>by
       have M:=uS x0 x1 (show-1073741824≤dU t by omega) S.2;have e:(x*Int64.ofInt (dU t)).toInt=x.toInt*dU t:=by rw[oI]<;>rw[s]<;>omega
       unfold xq;rw[E8 N F,ajm,Lt N _ _ _ (by omega) (by omega) (by rw[e];omega) (by rw[e];omega),ajm,e];have r:=JA (n:=x.toInt*dU t) (d:=y.toInt) (how:=t.bK) (B:=4611686018427387904) (by omega) (by decide) (by omega) (by omega);have r2:=vi (n:=x.toInt*dU t) (d:=y.toInt) (how:=t.bK) (by omega) (by omega) (by omega);rw[zy N F _ (by rw[r2];omega) (by rw[r2];omega),r2];rfl
     unfold nF;by_cases rf:b.xN.toInt<0
     ·have ea:(-a.xN).toInt= -a.xN.toInt:=nW (by omega);have eb:(-b.xN).toInt= -b.xN.toInt:=nW (by omega);rw[aj4 rf];simp only[cond_true];rw[J _ _ (by rw[eb];omega) (by rw[eb];omega) (by rw[ea];omega) (by rw[ea];omega),ea,eb,Int.neg_mul]
     ·rw[aj5 rf];simp only[cond_false];rw[J _ _ (by omega) (by omega) (by omega) (by omega)]
theorem aiA(N:Nat){op:Int}{a b:Int64}(h1: -2147483647≤a.toInt)(h2:a.toInt≤2147483647)(hb:op≠8→-2147483647≤b.toInt∧b.toInt≤2147483647)(ho:4≤op∧op≤8):
 DB N op a b=some (sN op a.toInt b.toInt):=by
 have fin:∀(z:Int64)(n:Int),z.toInt=n→(Option.bind (bif (decide (z.toInt>(2147483647:Int)))then some true else some (decide (z.toInt<(-2147483647:Int)))) fun v=>bif v then some (bg,(3:Int))else some ((⟨z,(1:Int64)⟩:ay),(0:Int)))=some (bif decide (-2147483647≤n)&&decide (n≤2147483647)then(⟨Int64.ofInt n,1⟩,0)else(bg,3)):=fun z n hz=>by
  subst hz;rw[ik,ajm,ID];by_cases c1:z.toInt>2147483647
  ·rw[aj4 c1,aj5 (show ¬z.toInt≤2147483647 by omega),Bool.and_false];rfl
  ·rw[aj5 c1,aj4 (show z.toInt≤2147483647 by omega),Bool.and_true];by_cases c2:z.toInt< -2147483647
   ·rw[aj4 c2,aj5 (show ¬-2147483647≤z.toInt by omega)];rfl
   ·rw[aj5 c2,aj4 (show-2147483647≤z.toInt by omega)];rfl
 unfold DB sN;rcases (by omega:op=4∨op=5∨op=6∨op=7∨op=8)with rfl|rfl|rfl|rfl|rfl
 ·obtain⟨h3,h4⟩:=hb (by decide);exact fin _ _ (rU (a:=a) (b:=b) (by omega) (by omega))
 ·obtain⟨h3,h4⟩:=hb (by decide);exact fin _ _ (nI (a:=a) (b:=b) (by omega) (by omega))
 ·obtain⟨h3,h4⟩:=hb (by decide);exact fin _ _ (gq h1 h2 h3 h4)
 ·obtain⟨h3,h4⟩:=hb (by decide);show(bif b.toInt==0 then some (bg,(4:Int))else _)=some (bif true&&b.toInt==0 then(bg,4)else bif decide (-2147483647≤kM a.toInt b.toInt)&&decide (kM a.toInt b.toInt≤2147483647)then(⟨Int64.ofInt (kM a.toInt b.toInt),1⟩,0)else(bg,3));by_cases mE:b.toInt=0
  ·rw[mE];rfl
  ·rw[beq_false_of_ne mE];simp only[cond_false,Bool.and_false];have J:∀x y:Int64,0<y.toInt→-2147483647≤x.toInt→x.toInt≤2147483647→kM a.toInt b.toInt=x.toInt / y.toInt→yP N x y=some (bif decide (-2147483647≤kM a.toInt b.toInt)&&decide (kM a.toInt b.toInt≤2147483647)then(⟨Int64.ofInt (kM a.toInt b.toInt),1⟩,0)else(bg,3)):=fun x y y0 x0 x1 hf=>by
     unfold yP;obtain⟨k1,k2,k3,k4⟩:=Nr (n:=x.toInt) (d:=y.toInt) (B:=2147483647) y0 (by decide) (by omega) (by omega);rw[F9 N x y y0 (by omega) (by omega),ajm,hf];exact fin _ _ (gC (by omega) (by omega))
   by_cases rf:b.toInt<0
   ·have ea:(-a).toInt= -a.toInt:=nW (by omega);have eb:(-b).toInt= -b.toInt:=nW (by omega);rw[aj4 rf];exact J _ _ (by rw[eb];omega) (by rw[ea];omega) (by rw[ea];omega) (by unfold kM;rw[aj4 rf,ea,eb];rfl)
   ·rw[aj5 rf];exact J _ _ (by omega) (by omega) (by omega) (by unfold kM;rw[aj5 rf];rfl)
 ·exact fin _ _ (nW (by omega))
theorem mX(N:Nat)(hN:2147483648<N)(v:ay):kL N v=some (cW sX v):=by
 unfold kL;have h:=qg N hN sX v KX;have h':mB N ⟨1,0,0,0,0⟩ v=some (cW sX v):=h;rw[h'];rfl
theorem Ql(N:Nat)(v:Int64):zA N v=some ((v.toInt.natAbs:Nat):Int):=by
 unfold zA;have hb:=iF v;by_cases h:v.toInt<0
 ·have e1:(v+(1:Int64)).toInt=v.toInt+1:=by rw[rU]<;>rw[show(1:Int64).toInt=1 from rfl]<;>omega
  have e2:(-(v+(1:Int64))).toInt= -(v.toInt+1):=by rw[nW]<;>rw[e1];omega
  rw[aj4 h,e2];simp only[cond_true,jF]
  congr 1
  omega
 ·rw[aj5 h];simp only[cond_false,jF]
  congr 1
  omega
theorem PS(N:Nat):∀(k a b:Nat),b<k→zi N k (a:Int) (b:Int)=some ((Nat.gcd a b:Nat):Int)
 |0,a,b,h=>absurd h (ajP _)
 |k+1,a,b,h=>by
  rw[zi];by_cases h0:b=0
  ·subst h0;simp
  ·rw[show(((b:Nat):Int) !=(0:Int))=true by rw[bne_iff_ne];omega];simp only[cond_true];rw[←Int.ofNat_tmod,PS N k b (a%b) (by have:=Nat.mod_lt a (Nat.pos_of_ne_zero h0);omega)];rw[Nat.gcd_comm a b,Nat.gcd_rec b a,Nat.gcd_comm]
theorem CV(N:Nat)(hN:9223372036854775808<N)(n d:Int64):ry N n d=some (gW n.toInt d.toInt):=by
 have h:=zJ N hN n d;unfold pj vF at h;rw[Es,Es]at h;unfold ry IS G6;rw[Ql,Ql];have Xv:=iF d;by_cases hd:d.toInt=0
 ·rw[hd]at h ⊢;exact h
 ·rw[beq_false_of_ne hd]at h ⊢;simp only[cond_false,ajm]at h ⊢;rw[Hw N N _ _ (by omega)]at h;rw[PS N N _ _ (by omega)];simp only[ajm]at h ⊢;have hg:0<Nat.gcd n.toInt.natAbs d.toInt.natAbs:=Nat.gcd_pos_of_pos_right _ (by omega);rw[show(((Nat.gcd n.toInt.natAbs d.toInt.natAbs:Nat):Int) !=0)=true by rw[bne_iff_ne];omega]at h ⊢;simp only[cond_true]at h ⊢;rw[ik,ajm]at h ⊢;cases hc:(decide (IntKind.u64.wrap (((n.toInt.natAbs:Nat):Int).tdiv ((Nat.gcd n.toInt.natAbs d.toInt.natAbs:Nat):Int))>2147483647)||decide (IntKind.u64.wrap (((d.toInt.natAbs:Nat):Int).tdiv ((Nat.gcd n.toInt.natAbs d.toInt.natAbs:Nat):Int))>2147483647))with
  |true=>rw[hc]at h;exact h
  |false=>
   rw[hc]at h;simp only[cond_false]at h ⊢;cases hs:(decide (n.toInt<0)==decide (d.toInt<0))with
   |true=>rw[hs]at h;exact h
   |false=>rw[hs]at h;exact h
theorem aeS{N:Nat}(hN:9223372036854775808<N){a b:ay}(A:eQ a)(B:eQ b):Dq N a b=some (gW (a.xN.toInt*b.xD.toInt+b.xN.toInt*a.xD.toInt) (a.xD.toInt*b.xD.toInt)):=by
 unfold Dq;rw[mX N (by omega),mX N (by omega),A.ok,B.ok,CV N hN,Vr A B,gq A.d0 A.d2 B.d0 B.d2];rfl
theorem agu{N:Nat}(hN:9223372036854775808<N){a b:ay}(A:eQ a)(B:eQ b):DG N a b=some (gW (a.xN.toInt*b.xD.toInt-b.xN.toInt*a.xD.toInt) (a.xD.toInt*b.xD.toInt)):=by
 unfold DG;rw[mX N (by omega),mX N (by omega),A.ok,B.ok,CV N hN,Pk A B,gq A.d0 A.d2 B.d0 B.d2];rfl
theorem ab1{N:Nat}(hN:9223372036854775808<N){a b:ay}(A:eQ a)(B:eQ b):EP N a b=some (gW (a.xN.toInt*b.xN.toInt) (a.xD.toInt*b.xD.toInt)):=by
 unfold EP;rw[mX N (by omega),mX N (by omega),A.ok,B.ok,CV N hN,gq A.n1 A.n2 B.n1 B.n2,gq A.d0 A.d2 B.d0 B.d2];rfl
theorem ahV{N:Nat}(hN:9223372036854775808<N){a b:ay}(A:eQ a)(B:eQ b):BR N a b=some (gW (a.xN.toInt*b.xD.toInt) (a.xD.toInt*b.xN.toInt)):=by
 unfold BR;rw[mX N (by omega),mX N (by omega),A.ok,B.ok,CV N hN,gq A.n1 A.n2 B.d0 B.d2,gq A.d0 A.d2 B.n1 B.n2];rfl
theorem abx{N:Nat}(hN:2147483648<N){a:ay}(A:eQ a):CU N a=some ⟨-a.xN,a.xD⟩:=by
 unfold CU;rw[mX N hN,A.ok];rfl
theorem aii(N:Nat)(a b:Int64):vD N a b=some (l0 a.toInt b.toInt):=by
 unfold vD l0;cases decide (a.toInt<b.toInt)
 ·cases decide (a.toInt>b.toInt)<;>rfl
 ·rfl
theorem sb{t:aD}{v:ay}(ht:cO t=true)(hv:cW t v=true):eQ v:=by
 by_cases hk:t.a8=2
 ·have F:=hX ht hk;have A:=jN hv hk;have B:=m7 F A;have d:=A.d;exact⟨by omega,by omega,by omega,by omega,by rw[d];exact Nat.gcd_one_right _⟩
 ·exact mH hv hk
theorem Nk(N:Nat)(hN:2147483648<N)(t:aD)(a b:ay):y4 N t a b=some (j5 t a b):=by
 unfold y4 Cp j5;rw[sf];cases ht:cO t with
 |false=>rfl
 |true=>
  simp only[ajm,cond_true];rw[qg N hN t a ht,qg N hN t b ht];cases ha:cW t a with
  |false=>rfl
  |true=>
   cases hb:cW t b with
   |false=>rfl
   |true=>
    have A:=sb ht ha;have B:=sb ht hb;simp only[ajm,cond_true,Bool.not_true,cond_false,Bool.and_self];unfold F2;rw[mX N hN,mX N hN,A.ok,B.ok];simp only[ajm,cond_true];rw[aii,gq A.n1 A.n2 B.d0 B.d2,gq B.n1 B.n2 A.d0 A.d2];cases hk:t.a8==1 with
    |true=>rfl
    |false=>
     have da:a.xD.toInt=1:=by
      rcases kinds ht with h|h|h
      ·rw[h]at hk;cases hk
      ·exact(jN ha h).d
      ·exact DT ha h
     have db:b.xD.toInt=1:=by
      rcases kinds ht with h|h|h
      ·rw[h]at hk;cases hk
      ·exact(jN hb h).d
      ·exact DT hb h
     rw[da,db,Int.mul_one,Int.mul_one];rfl
theorem Pt(N:Nat)(hN:9223372036854775808<N)(op:Int)(t:aD)(a b:ay):rX N op t a b=some (qM op t a b):=by
 have jS:2147483648<N:=Nat.lt_trans (by decide) hN;unfold rX qM;rw[ik,ajm,sf,ajm];by_cases h4:op<4
 ·rw[aj4 h4];rfl
 by_cases az:op≤10
 ·rw[aj5 h4,aj5 (show ¬op>10 by omega)];simp only[Bool.or_self,cond_false];cases ht:cO t with
  |false=>rfl
  |true=>
   simp only[cond_true,Bool.not_true,cond_false];rw[qg N jS t a ht,qg N jS t b ht];cases ha:cW t a with
   |false=>rfl
   |true=>
    have A:=sb ht ha;simp only[ajm,cond_true,Bool.not_true,Bool.false_or];rw[fu,dp,ajm];have j8:(!(op==8)&& !cW t b)=false→op≠8→cW t b=true:=fun h h8=>by
     rw[beq_false_of_ne h8]at h
     simpa using h
    cases hc:(!(op==8)&& !cW t b)with
    |true=>rfl
    |false=>
     have hb:=j8 hc;simp only[cond_false];rw[ik,ajm];by_cases h9:op=9
     ·subst h9;rw[Nk N jS t a b];simp only[aj6,Bool.true_or,cond_true,ajm];cases decide (j5 t a b>0)<;>rfl
     ·by_cases h1:op=10
      ·subst h1;have hb:=hb (by decide);rw[Nk N jS t a b];rw[show((10:Int)==9)=false from rfl,show((10:Int)==10)=true from rfl];simp only[Bool.or_true,cond_true,ajm,cond_false];by_cases c0:j5 t a b>0
       ·rw[aj4 c0,aj5 (show ¬j5 t a b<0 by omega)];rfl
       ·by_cases c1:j5 t a b<0
        ·rw[aj5 c0,aj4 c1];rfl
        ·have e:=aaY ht ha hb (by omega);subst e;rw[aj5 c0,aj5 c1];rfl
      ·rw[beq_false_of_ne h9,beq_false_of_ne h1];simp only[Bool.or_self,cond_false];rcases kinds ht with hk|hk|hk
       ·rw[hk,show((1:Int)==2)=false from rfl,show((1:Int)==3)=false from rfl];simp only[cond_false];unfold vI;rcases (by omega:op=4∨op=5∨op=6∨op=7∨op=8)with rfl|rfl|rfl|rfl|rfl
        ·have B:=sb ht (hb (by decide));rw[aeS hN A B];rfl
        ·have B:=sb ht (hb (by decide));rw[agu hN A B];rfl
        ·have B:=sb ht (hb (by decide));rw[ab1 hN A B];rfl
        ·have B:=sb ht (hb (by decide));rw[ahV hN A B];rfl
        ·rw[abx jS A];rfl
       ·rw[hk,show((2:Int)==2)=true from rfl];simp only[cond_true];rw[aiW N (hX ht hk) (jN ha hk) fun h8=>jN (hb h8) hk];rfl
       ·rw[hk,show((3:Int)==2)=false from rfl,show((3:Int)==3)=true from rfl];simp only[cond_true,cond_false];rw[aiA N A.n1 A.n2 (fun h8=>by have B:=sb ht (hb h8);exact⟨B.n1,B.n2⟩) (by omega)];rfl
 ·rw[aj4 (show op>10 by omega),Bool.or_true];rfl
theorem ad6(N:Nat)(hN:9223372036854775808<N){t:aD}{v:ay}(ht:cO t=true):Bm N t v=some (kH t v):=by
 unfold Bm EE kH;cases hk:t.a8==2 with
 |false=>rfl
 |true=>
  have F:=hX ht (by simpa using hk);simp only[cond_true];rw[E8 N F,ajm,CV N hN,M4 F];rfl
theorem abl(N:Nat)(hN:9223372036854775808<N)(t u:aD)(v:ay):yA N t u v=some (ur t u v):=by
 have jS:2147483648<N:=Nat.lt_trans (by decide) hN;unfold yA ur;rw[sf,sf];cases ht:cO t with
 |false=>rfl
 |true=>
  cases hu:cO u with
  |false=>rfl
  |true=>
   simp only[ajm,cond_true,cond_false,Bool.not_true,Bool.or_self];rw[qg N jS t v ht];cases hv:cW t v with
   |false=>rfl
   |true=>
    simp only[ajm,cond_true,Bool.not_true,cond_false];have V:=TF ht hv;have n1:=V.n1;have n2:=V.n2;have d1:=V.d1;have d2:=V.d2;rw[ad6 N hN ht,ajm];rcases kinds hu with hk|hk|hk
    ·rw[hk];rfl
    ·have F:=hX hu hk;have S:=ED F;have s:=M4 F;have M:=uS n1 n2 (show-1073741824≤dU u by omega) S.2;have e:((kH t v).xN*Int64.ofInt (dU u)).toInt=(kH t v).xN.toInt*dU u:=by rw[oI]<;>rw[s]<;>omega
     rw[hk,show((2:Int)==3)=false from rfl,show((2:Int)==2)=true from rfl];simp only[cond_true,cond_false];rw[E8 N F,ajm,Lt N _ _ _ (by omega) (by omega) (by rw[e];omega) (by rw[e];omega),ajm,e];have r:=JA (n:=(kH t v).xN.toInt*dU u) (d:=(kH t v).xD.toInt) (how:=u.bK) (B:=4611686018427387904) (by omega) (by decide) (by omega) (by omega);have r2:=vi (n:=(kH t v).xN.toInt*dU u) (d:=(kH t v).xD.toInt) (how:=u.bK) (by omega) (by omega) (by omega);rw[zy N F _ (by rw[r2];omega) (by rw[r2];omega),r2];rfl
    ·rw[hk,show((3:Int)==3)=true from rfl];simp only[cond_true];rw[F9 N _ _ (by omega) (by omega) (by omega)];rfl
theorem Wl(N:Nat)(t:aD):w6 N t=some (pE t):=by
 unfold w6 pE;rw[sf];cases cO t<;>rfl
theorem Wp(N:Nat)(hN:2147483648<N)(t:aD):wz N t=some (iy t):=by
 unfold wz iy Cf;rw[sf];cases ht:cO t with
 |false=>rfl
 |true=>
  simp only[ajm,cond_true,cond_false,Bool.not_true];cases hk:t.a8==2 with
  |false=>
   simp only[cond_false];rw[qg N hN t _ ht,show Int64.ofInt 1=(1:Int64)from rfl];cases cW t ⟨1,1⟩<;>rfl
  |true=>
   have F:=hX ht (by simpa using hk);simp only[cond_true];rw[E8 N F,ajm,qg N hN t _ ht];cases cW t ⟨Int64.ofInt (dU t),1⟩<;>rfl
structure En(N:Nat)(e:an):Prop where
 hN:9223372036854775808<N
 sz:8*SizeOf.sizeOf e+16≤N
 v:vE e
 t:W wT e≤800000
theorem En.arg{N:Nat}{e x:an}(h:En N e)(hx:x∈e.ax):En N x:=
 ⟨h.hN,by have:=h.sz;have:=fy hx;omega,h.v.arg hx,by have:=h.t;rw[gF]at this;have:=Ff (w:=wT) hx;omega⟩
theorem En.AE{N:Nat}{e:an}(h:En N e):2147483648<N:=Nat.lt_trans (by decide) h.hN
theorem En.node{N:Nat}{e:an}(h:En N e):wo e:=Hm (h.v e (wP e))
inductive Sh:an→Prop
 |leaf {op:Int} {n v t l i}:op=1∨op=2∨op=3→Sh ⟨op,n,v,t,l,i,[]⟩
 |one {op:Int} {n v t l i a}:op=8∨op=12∨op=18→Sh ⟨op,n,v,t,l,i,[a]⟩
 |two {op:Int} {n v t l i a b}:op=4∨op=5∨op=6∨op=7∨op=9∨op=10∨op=13∨op=14∨op=15∨op=16∨op=17→Sh ⟨op,n,v,t,l,i,[a,b]⟩
 |three {op:Int} {n v t l i c a b}:op=11→Sh ⟨op,n,v,t,l,i,[c,a,b]⟩
theorem Dk{n:Nat}{l:akb an}(h:l.length=n):(n=0→l=[])∧(n=1→∃a,l=[a])∧(n=2→∃a b,l=[a,b])∧(n=3→∃a b c,l=[a,b,c]):=by
 subst h
 match l with
 |[]=>simp
 |[a]=>simp
 |[a,b]=>simp
 |[a,b,c]=>simp
 |_::_::_::_::_=>simp
theorem fi{e:an}(h:wo e):Sh e:=by
 have hp:=h.plain;have hr:=h.VN;unfold my at hp;unfold mU at hr;simp only[ajp,decide_eq_true_eq,beq_iff_eq]at hp hr;obtain⟨o1,o2,_⟩:=hp;obtain⟨r,_⟩:=hr;obtain⟨op,n,v,t,l,i,al⟩:=e;simp only at o1 o2 r;have key:∀k:Nat,kG op=(k:Int)→al.length=k:=fun k hk=>by rw[hk]at r;omega
 rcases (by omega:(op=1∨op=2∨op=3)∨(op=8∨op=12∨op=18)∨(op=4∨op=5∨op=6∨op=7∨op=9∨op=10∨op=13∨op=14∨op=15∨op=16∨op=17)∨op=11)with h1|h1|h1|h1
 ·have:=(Dk (key 0 (by rcases h1 with rfl|rfl|rfl<;>rfl))).1 rfl;subst this;exact .leaf h1
 ·obtain⟨a,rfl⟩:=(Dk (key 1 (by rcases h1 with rfl|rfl|rfl<;>rfl))).2.1 rfl;exact .one h1
 ·obtain⟨a,b,rfl⟩:=(Dk (key 2 (by rcases h1 with rfl|rfl|rfl|rfl|rfl|rfl|rfl|rfl|rfl|rfl|rfl<;>rfl))).2.2.1 rfl;exact .two h1
 ·obtain⟨c,a,b,rfl⟩:=(Dk (key 3 (by subst h1;rfl))).2.2.2 rfl;exact .three h1
theorem Fu{N:Nat}{a:an}(b:an)(h:3*SizeOf.sizeOf a+3≤N):nH N a b=some (ic a b):=by
 obtain⟨c,e1,e2⟩:=VH N (SizeOf.sizeOf a+1) a b N (aj9 _) (by omega);unfold nH KY;rw[e1,ajm,e2];rfl
theorem zl{N:Nat}{a:an}(b:an)(h:3*SizeOf.sizeOf a+3≤N):jB N a b=some (ic a b):=Td N (SizeOf.sizeOf a+1) a b N (aj9 _) (by omega)
def kn(t:Kn):et:=⟨t.yT,t.dk⟩
theorem Rg(a b:aD):((a.a8==b.a8)&&((a.bz==b.bz)&&((a.bE==b.bE)&&((a.bK==b.bK)&&((a.bI==b.bI)&&true)))))=eo a b:=rfl
theorem Vk(N:Nat):∀(n:Nat)(e:an),SizeOf.sizeOf e<n→vE e→∀d,SizeOf.sizeOf e<d→jO N d e=some (cM e)
 |0,_,h,_,_,_=>absurd h (ajP _)
 |n+1,e,hn,hv,d,hd=>by
  obtain⟨d,rfl⟩:∃k,d=k+1:=⟨d-1,by omega⟩;have ih:∀x∈e.ax,jO N d x=some (cM x):=fun x hx=>Vk N n x (by have:=fy hx;omega) (hv.arg hx) d (by have:=fy hx;omega);have sh:=fi (Hm (hv e (wP e)));rw[jO,TK];clear hn hd hv;cases sh with
  |leaf h=>rcases h with rfl|rfl|rfl<;>rfl
  |one h=>
   rename_i a
   have i1:=ih a (by simp);rcases h with rfl|rfl|rfl
   ·show Option.bind (jO N d a) _=some (cM a);rw[i1];rfl
   ·rfl
   ·rfl
  |two h=>
   rename_i a b
   have i1:=ih a (by simp);have i2:=ih b (by simp);have J:Option.bind (jO N d a) (fun v12=>Option.bind (some b) fun aZ=>Option.bind (jO N d aZ) fun bu=>Option.bind (tn N v12 bu) fun bQ=>some bQ)=some (bif (cM a).dk then cM a else cM b):=by
    rw[i1,ajm,ajm,i2,ajm];unfold tn;cases (cM a).dk<;>rfl
   rcases h with rfl|rfl|rfl|rfl|rfl|rfl|rfl|rfl|rfl|rfl|rfl
   ·exact J
   ·exact J
   ·exact J
   ·exact J
   ·exact J
   ·exact J
   all_goals rfl
  |three h=>
   rename_i c a b
   have i1:=ih a (by simp);have i2:=ih b (by simp);subst h;show Option.bind (jO N d a) (fun v6=>Option.bind (bif v6.dk then Option.bind (jO N d b) _ else some false) _)=some (bif true&&((cM a).dk&&((cM b).dk&&eo (cM a).yT (cM b).yT))then cM a else jU);rw[i1,ajm,i2];generalize cM a=A;generalize cM b=B;obtain⟨At,Ak⟩:=A;obtain⟨Bt,Bk⟩:=B;dsimp only;cases Ak with
   |false=>rfl
   |true=>
    simp only[cond_true,ajm,Rg];cases Bk<;>cases eo At Bt<;>rfl
theorem FY(N:Nat):∀(n:Nat)(e:an),SizeOf.sizeOf e<n→vE e→∀d,2*SizeOf.sizeOf e<d→kp N d e=some (kn (cM e))
 |0,_,h,_,_,_=>absurd h (ajP _)
 |n+1,e,hn,hv,d,hd=>by
  have hp:0<SizeOf.sizeOf e:=by cases e;simp only[an.mk.sizeOf_spec];omega
  obtain⟨d,rfl⟩:∃k,d=k+2:=⟨d-2,by omega⟩;have ih:∀x∈e.ax,∀k,k=d∨k=d+1→kp N k x=some (kn (cM x)):=fun x hx k hk=>FY N n x (by have:=fy hx;omega) (hv.arg hx) k (by have:=fy hx;omega);have sh:=fi (Hm (hv e (wP e)));rw[kp,TK];clear hn hd hv hp;cases sh with
  |leaf h=>rcases h with rfl|rfl|rfl<;>rfl
  |one h=>
   rename_i a
   have i1:=ih a (by simp) _ (.inr rfl);rcases h with rfl|rfl|rfl
   ·show Option.bind (kp N (d+1) a) _=some (kn (cM a));rw[i1];rfl
   ·rfl
   ·rfl
  |two h=>
   rename_i a b
   have i1:=ih a (by simp) _ (.inl rfl);have i2:=ih b (by simp) _ (.inl rfl);have J:Option.bind (q7 N (d+1) a b) (fun v8=>some v8)=some (kn (bif (cM a).dk then cM a else cM b)):=by
    rw[q7,i1,ajm,i2,ajm];generalize cM a=A;obtain⟨At,Ak⟩:=A;cases Ak<;>rfl
   rcases h with rfl|rfl|rfl|rfl|rfl|rfl|rfl|rfl|rfl|rfl|rfl
   ·exact J
   ·exact J
   ·exact J
   ·exact J
   ·exact J
   ·exact J
   all_goals rfl
  |three h=>
   rename_i c a b
   have i1:=ih a (by simp) _ (.inr rfl);have i2:=ih b (by simp) _ (.inr rfl);subst h;show Option.bind (kp N (d+1) a) (fun v10=>Option.bind (kp N (d+1) b) _)=some (kn (bif true&&((cM a).dk&&((cM b).dk&&eo (cM a).yT (cM b).yT))then cM a else jU));rw[i1,ajm,i2];generalize cM a=A;generalize cM b=B;obtain⟨At,Ak⟩:=A;obtain⟨Bt,Bk⟩:=B;unfold kn;dsimp only;simp only[ajm,Rg];cases Ak<;>cases Bk<;>cases eo At Bt<;>rfl
theorem GJ{N:Nat}{e:an}(h:En N e):oH N e=some (cM e):=Vk N _ e (aj9 _) h.v N (by have:=h.sz;omega)
theorem SR{N:Nat}{e:an}(h:En N e):xY N e=some (kn (cM e)):=FY N _ e (aj9 _) h.v N (by have:=h.sz;omega)
theorem acR{N:Nat}{a b:an}(h:En N a)(h2:En N b):BW N a b=some (kn (uq a b)):=by
 obtain⟨M,hM⟩:∃M,N=M+1:=⟨N-1,by have:=h.sz;omega⟩;unfold BW;have e1:=FY N _ a (aj9 _) h.v M (by have:=h.sz;omega);have e2:=FY N _ b (aj9 _) h2.v M (by have:=h2.sz;omega);have:q7 N (M+1) a b=some (kn (uq a b)):=by
  rw[q7,e1,ajm,e2,ajm];unfold uq;generalize cM a=A;obtain⟨At,Ak⟩:=A;cases Ak<;>rfl
 rw[←hM]at this;exact this
theorem aiw{N:Nat}{a b:an}(h:En N a)(h2:En N b):(Option.bind (oH N a) fun v7=>Option.bind (some b) fun v8=>Option.bind (oH N v8) fun v9=>Option.bind (tn N v7 v9) fun v10=>some v10)=some (uq a b):=by
 rw[GJ h,ajm,ajm,GJ h2,ajm];unfold tn uq;cases (cM a).dk<;>rfl
theorem Tq(i:Nat):decide ((i:Int)>0)= !(i==0):=by
 by_cases h:i=0
 ·subst h;rfl
 ·rw[aj4 (by omega),beq_false_of_ne h];rfl
theorem ahT{N:Nat}{e:an}(h:En N e)(k:Kn)(i:Nat):Jf N e k (i:Int)=some (rh e k i):=by
 have A:∀x∈e.ax,En N x:=fun x hx=>h.arg hx;have sh:=fi h.node;clear h;unfold rh;cases sh with
 |leaf h=>rcases h with rfl|rfl|rfl<;>rfl
 |one h=>
  rename_i a
  have i1:=GJ (A a (by simp));rcases h with rfl|rfl|rfl
  ·rfl
  ·show Option.bind (oH N a) _=some (cM a);rw[i1];rfl
  ·rfl
 |two h=>
  rename_i a b
  have i1:=aiw (A a (by simp)) (A b (by simp));rcases h with rfl|rfl|rfl|rfl|rfl|rfl|rfl|rfl|rfl|rfl|rfl
  ·rfl
  ·rfl
  ·rfl
  ·rfl
  ·rfl
  ·rfl
  ·exact i1
  ·exact i1
  ·exact i1
  ·rfl
  ·rfl
 |three h=>
  subst h;show(bif decide ((i:Int)>0)then some k else some DC)=some (bif (false||(false||(true&& !(i==0))))then k else jU);rw[Tq];cases i==0<;>rfl
theorem aeb{N:Nat}{e:an}(h:En N e)(k:Kn)(i:Nat):Ic N e (i:Int) (kn k)=some (kn (rh e k i)):=by
 have A:∀x∈e.ax,En N x:=fun x hx=>h.arg hx;have sh:=fi h.node;clear h;unfold rh;cases sh with
 |leaf h=>rcases h with rfl|rfl|rfl<;>rfl
 |one h=>
  rename_i a
  have i1:=SR (A a (by simp));rcases h with rfl|rfl|rfl
  ·rfl
  ·show Option.bind (xY N a) _=some (kn (cM a));rw[i1];rfl
  ·rfl
 |two h=>
  rename_i a b
  have i1:Option.bind (BW N a b) (fun v8=>some v8)=some (kn (uq a b)):=by rw[acR (A a (by simp)) (A b (by simp))];rfl
  rcases h with rfl|rfl|rfl|rfl|rfl|rfl|rfl|rfl|rfl|rfl|rfl
  ·rfl
  ·rfl
  ·rfl
  ·rfl
  ·rfl
  ·rfl
  ·exact i1
  ·exact i1
  ·exact i1
  ·rfl
  ·rfl
 |three h=>
  subst h;show Option.bind (some (decide ((i:Int)>0))) (fun v4=>bif v4 then some (kn k)else some Gd)=some (kn (bif (false||(false||(true&& !(i==0))))then k else jU));rw[Tq];cases i==0<;>rfl
def cr(e:an):aF×Bool:=match jj e with|some l=>(l,true)|none=>(zLin,false)
theorem FR(N:Nat)(e:an):og N e=some (cr e):=by
 unfold og cr jj Jj;rw[dp,ajm];cases e.ar==2 with
 |true=>rfl
 |false=>
  simp only[cond_false];cases (e.ar==1&&e.aC.a8==3)<;>rfl
theorem Nw(N:Nat)(e:an):ku N e=some (gp e):=by
 unfold ku gp;rw[dp];rfl
theorem Gr(N:Nat)(e:an):∃l,ph N e=some (l,(cr e).2)∧((cr e).2=true→l=(cr e).1):=by
 unfold ph;rw[Nw,ajm];unfold cr jj;have hw:gp e=(e.ar==1&&e.aC.a8==3):=rfl;cases h2:e.ar==2 with
 |true=>
  have:(e.ar==1)=false:=by
   have:e.ar=2:=by simpa using h2
   rw[this];rfl
  rw[hw,this];exact⟨e.aK,rfl,fun _=>rfl⟩
 |false=>
  rw[hw];cases (e.ar==1&&e.aC.a8==3)with
  |true=>exact⟨_,rfl,fun _=>rfl⟩
  |false=>exact⟨e.aK,rfl,fun h=>by cases h⟩
theorem Wm(e:an):(cr e).1.xL.length≤wT e:=by
 unfold cr;cases h:jj e with
 |some l=>exact Ns h
 |none=>exact Nat.zero_le _
theorem Fi(e:an):wT e≤W wT e:=by rw[gF];exact aj2 _ _
def gH(f g:aF):aF×Bool:=match lk f g with| .ok d=>(d,true)| .error _=>(zLin,false)
theorem LO(e:Er):(e.code==0)=false:=by cases e<;>rfl
theorem PQ(N:Nat)(hN:1000000<N){f g:aF}(h:f.xL.length+g.xL.length≤800000):vy N f g=some (gH f g):=by
 unfold vy gH lk;rw[ML N (by omega) g (-1) (show g.xL.length≤1000000000 by omega),ajm];cases hs:jg g (-1)with
 |error e=>show(bif e.code !=0 then _ else _)=_;rw[Er.ne e];rfl
 |ok q=>
  have hl:=yN hs;show(bif (0:Int) !=0 then _ else Option.bind (uc N f q) _)=_;rw[UD N (by omega) f q (by omega) (by omega)]
  change _=some (match j9 f q with| .ok d=>(d,true)| .error _=>(zLin,false))
  cases j9 f q with
  |error e=>show some (zLin,e.code==0)=_;rw[LO]
  |ok d=>rfl
theorem Sk(N:Nat)(hN:1000000<N){f g:aF}(h:f.xL.length+g.xL.length≤800000):rO N f g=some (gH f g):=by
 unfold rO gH lk;rw[Kq N (by omega) g (-1) (show g.xL.length≤1000000000 by omega),ajm];cases hs:jg g (-1)with
 |error e=>show(bif e.code !=0 then _ else _)=_;rw[Er.ne e];rfl
 |ok q=>
  have hl:=yN hs;show(bif (0:Int) !=0 then _ else Option.bind (rm N f q) _)=_;rw[Tk N hN f q (by omega)]
  change _=some (match j9 f q with| .ok d=>(d,true)| .error _=>(zLin,false))
  cases j9 f q with
  |error e=>show some (zLin,e.code==0)=_;rw[LO]
  |ok d=>rfl
theorem GK(a b c:Bool):(bif a then(bif b then some c else some false)else some false)=some (a&&(b&&c)):=by cases a<;>cases b<;>rfl
theorem Rq(a b:an):NM a b=bif (cr a).2&&(cr b).2 then(bif (gH (cr a).1 (cr b).1).2&&(gH (cr a).1 (cr b).1).1.xL.length==0 then some (gH (cr a).1 (cr b).1).1.xK else none)else none:=by
 unfold NM cr;cases jj a with
 |none=>rfl
 |some f=>
  cases jj b with
  |none=>rfl
  |some g=>
   show(match lk f g with| .ok d=>bif d.xL.length==0 then some d.xK else none| .error _=>none)=bif (gH f g).2&&(gH f g).1.xL.length==0 then some (gH f g).1.xK else none;unfold gH;cases lk f g with
   |error e=>rfl
   |ok d=>cases h:d.xL.length==0<;>simp [h]
theorem PB(N:Nat)(op s:Int):tw N op s=some (rL op s):=by
 unfold tw rL;cases op==13<;>cases op==14<;>rfl
theorem Un(N:Nat){op:Int}(s:Int)(h:op=13∨op=14∨op=15):zM N op s=some (rL op s):=by
 unfold zM rL;rcases h with rfl|rfl|rfl
 ·rfl
 ·cases h:decide (s≤0)<;>simp [h]
 ·cases h:s==0<;>simp [h]
theorem afj(k:Int)(f:Int→akd (Bool×Bool)):(bif decide (k<0)then f (-1)else bif decide (k>0)then f 1 else f 0)=f (l0 k 0):=by
 unfold l0;cases decide (k<0)with
 |true=>rfl
 |false=>cases decide (k>0)<;>rfl
structure q6(N:Nat)(a b:an):Prop where
 l:En N a
 r:En N b
 t:W wT a+W wT b≤800000
theorem En.two{N:Nat}{op:Int}{n v t l i a b}(h:En N ⟨op,n,v,t,l,i,[a,b]⟩):q6 N a b:=
 ⟨h.arg (by simp),h.arg (by simp),by have:=h.t;rw[gF]at this;have e:WL wT [a,b]=W wT a+W wT b:=sx wT a b;change _+WL wT [a,b]≤_ at this;omega⟩
theorem q6.len{N:Nat}{a b:an}(h:q6 N a b):(cr a).1.xL.length+(cr b).1.xL.length≤800000:=by
 have:=Wm a;have:=Wm b;have:=Fi a;have:=Fi b;have:=h.t;omega
theorem En.qw{N:Nat}{e:an}(h:En N e):1000000<N:=Nat.lt_trans (by decide) h.hN
theorem En.eq{N:Nat}{e:an}(h:En N e):3*SizeOf.sizeOf e+3≤N:=by have:=h.sz;omega
theorem LH{N:Nat}{op:Int}{n v t l i a b}(h:q6 N a b)(hv:cO a.aC=true∨a.ar≠1):sA N ⟨op,n,v,t,l,i,[a,b]⟩=some (mu op a b):=by
 have J:yu N a b ⟨op,n,v,t,l,i,[a,b]⟩=some (bif ic a b then(!(op==13),true)else(false,false)):=by
  unfold yu;rw[Fu b h.l.eq,ajm];cases ic a b<;>rfl
 unfold sA mu;show Option.bind (bif (a.ar==1)then(bif (b.ar==1)then some (eo a.aC b.aC)else some false)else some false) _=_;rw[GK,ajm,Rq];cases hc:(a.ar==1&&(b.ar==1&&eo a.aC b.aC))with
 |true=>
  have ha:a.ar=1:=by simp only[ajp,beq_iff_eq]at hc;exact hc.1
  have ht:cO a.aC=true:=by
   rcases hv with hv|hv
   ·exact hv
   ·exact absurd ha hv
  simp only[cond_true];rw[TM N h.l.AE _ _ _ ht,ajm,PB];rfl
 |false=>
  simp only[cond_false];rw[FR,ajm,FR,ajm,dp,ajm];cases (cr a).2&&(cr b).2 with
  |false=>exact J
  |true=>
   simp only[cond_true];rw[PQ N h.l.qw h.len,ajm,sW,dp,ajm];cases (gH (cr a).1 (cr b).1).2&&(gH (cr a).1 (cr b).1).1.xL.length==0 with
   |false=>exact J
   |true=>
    simp only[cond_true,PB,ajm];exact afj _ fun s=>some (rL op s,true)
theorem Ks{N:Nat}{op:Int}{n v t l i a b}(h:q6 N a b)(ho:op=13∨op=14∨op=15):sM N ⟨op,n,v,t,l,i,[a,b]⟩=some (mu op a b):=by
 have J:AI N a b ⟨op,n,v,t,l,i,[a,b]⟩=some (bif ic a b then(!(op==13),true)else(false,false)):=by
  unfold AI;rw[zl b h.l.eq,ajm];cases ic a b<;>rfl
 have J3:∀s,yU N ⟨op,n,v,t,l,i,[a,b]⟩ s=some (rL op s,true):=fun s=>by
  unfold yU;rw[Un N s ho];rfl
 unfold sM mu;show Option.bind (bif (a.ar==1)then(bif (b.ar==1)then some (eo a.aC b.aC)else some false)else some false) _=_;rw[GK,ajm,Rq];cases hc:(a.ar==1&&(b.ar==1&&eo a.aC b.aC))with
 |true=>
  simp only[cond_true];rw[Nk N h.l.AE,ajm,Un N _ ho];rfl
 |false=>
  simp only[cond_false];obtain⟨l1,e1,f1⟩:=Gr N a;obtain⟨l2,e2,f2⟩:=Gr N b;rw[e1,ajm,e2,ajm,dp,ajm];dsimp only;cases hb:(cr a).2&&(cr b).2 with
  |false=>exact J
  |true=>
   rw[ajp]at hb;rw[f1 hb.1,f2 hb.2];simp only[cond_true];rw[Sk N h.l.qw h.len,ajm,sW,dp,ajm];cases (gH (cr a).1 (cr b).1).2&&(gH (cr a).1 (cr b).1).1.xL.length==0 with
   |false=>exact J
   |true=>
    simp only[cond_true];unfold Db;simp only[J3];generalize (gH (cr a).1 (cr b).1).1.xK.toInt=k;unfold l0;by_cases h1:k<0
    ·rw[aj4 h1,aj5 (show ¬k>0 by omega)];rfl
    ·rw[aj5 h1];cases decide (k>0)<;>rfl
theorem aff{e:an}(h:wo e):cO e.aC=true∨e.ar≠1:=by
 have ht:=h.typed;unfold kP at ht;by_cases h1:e.ar=1
 ·rw[h1]at ht;simp at ht;exact .inl ht.1
 ·exact .inr h1
theorem aeH{op:Int}{l:akb an}:∀{k i:Nat}{x:an},sL op k l=true→l[i]?=some x→eu x=ke op (k+i):=by
 induction l with
 |nil=>intro k i x _ h;cases h
 |cons a l ih=>
  intro k i x h hx;rw[sL,ajp,beq_iff_eq]at h;cases i with
  |zero=>cases hx;exact h.1
  |succ i=>
   rw[ajY]at hx;have:=ih h.2 hx
   rwa [show k+1+i=k+(i+1) by omega]at this
theorem wo.arg{e x:an}{i:Nat}(h:wo e)(hx:e.ax[i]?=some x):eu x=ke e.ar i:=by
 have ht:=h.typed;unfold kP at ht;rw[ajp]at ht;have:=aeH ht.2 hx
 rwa [ajH]at this
theorem Rx{e:an}(h:eu e=true):13≤e.ar:=by
 unfold eu at h;simp only[ajp,decide_eq_true_eq]at h;exact h.1
theorem Hh(x:Bool)(q r:Bool×Bool):(Option.bind (bif q.2 then(bif (q.1==x)then some true else(bif r.2 then some (r.1==x)else some false))else(bif r.2 then some (r.1==x)else some false)) fun v12=>
 bif v12 then some (x,true)else Option.bind (bif x then(bif q.2 then some (false,r.2)else some (false,false))else(bif q.2 then some (r.2,r.2)else some (false,false))) fun aZ=>some (aZ.1,aZ.2))
 =some (bif (q.2&&q.1==x)||(r.2&&r.1==x)then(x,true)else(!x&&(q.2&&r.2),q.2&&r.2)):=by
 obtain⟨q1,q2⟩:=q;obtain⟨r1,r2⟩:=r;cases x<;>cases q1<;>cases q2<;>cases r1<;>cases r2<;>rfl
theorem P7(q:Bool×Bool):(Option.bind (bif q.2 then some (!q.1)else some false) fun v6=>some (v6,q.2))=some (q.2&& !q.1,q.2):=by
 obtain⟨q1,q2⟩:=q;cases q1<;>cases q2<;>rfl
theorem Ro(N:Nat):∀(n:Nat)(e:an),SizeOf.sizeOf e<n→En N e→eu e=true→∀d,SizeOf.sizeOf e<d→jA N d e=some (er e)
 |0,_,h,_,_,_,_=>absurd h (ajP _)
 |n+1,e,hn,hE,hc,d,hd=>by
  obtain⟨d,rfl⟩:∃k,d=k+1:=⟨d-1,by omega⟩;have ih:∀x∈e.ax,eu x=true→jA N d x=some (er x):=fun x hx mb=>Ro N n x (by have:=fy hx;omega) (hE.arg hx) mb d (by have:=fy hx;omega);have hA:∀(i:Nat)(x:an),e.ax[i]?=some x→eu x=ke e.ar i:=fun i x hx=>hE.node.arg hx;have hT:∀x∈e.ax,cO x.aC=true∨x.ar≠1:=fun x hx=>aff (hE.arg hx).node;have sh:=fi hE.node;have ho:=Rx hc;rw[jA,Px];clear hn hd;cases sh with
  |leaf h=>exfalso;dsimp only at ho;omega
  |one h=>
   rename_i a
   have fh:=ho;dsimp only at fh;rcases h with rfl|rfl|rfl
   ·exact absurd fh (by decide)
   ·exact absurd fh (by decide)
   ·have i1:=ih a (by simp) ((hA 0 a rfl).trans rfl);show(Option.bind (jA N d a) fun v5=>Option.bind (bif v5.2 then some (!v5.1)else some false) fun v6=>some (v6,v5.2))=some ((er a).2&& !(er a).1,(er a).2);rw[i1,ajm];exact P7 _
  |two h=>
   rename_i a b
   have fh:=ho;dsimp only at fh;have t1:=hT a (by simp);rcases h with rfl|rfl|rfl|rfl|rfl|rfl|rfl|rfl|rfl|rfl|rfl
   ·exact absurd fh (by decide)
   ·exact absurd fh (by decide)
   ·exact absurd fh (by decide)
   ·exact absurd fh (by decide)
   ·exact absurd fh (by decide)
   ·exact absurd fh (by decide)
   ·show Option.bind (sA N _) _=some (mu 13 a b);rw[LH hE.two t1];rfl
   ·show Option.bind (sA N _) _=some (mu 14 a b);rw[LH hE.two t1];rfl
   ·show Option.bind (sA N _) _=some (mu 15 a b);rw[LH hE.two t1];rfl
   ·have i1:=ih a (by simp) ((hA 0 a rfl).trans rfl);have i2:=ih b (by simp) ((hA 1 b rfl).trans rfl);show Option.bind (jA N d a) (fun v9=>Option.bind (jA N d b) _)=_;rw[i1,ajm,i2,ajm];exact Hh false _ _
   ·have i1:=ih a (by simp) ((hA 0 a rfl).trans rfl);have i2:=ih b (by simp) ((hA 1 b rfl).trans rfl);show Option.bind (jA N d a) (fun v9=>Option.bind (jA N d b) _)=_;rw[i1,ajm,i2,ajm];exact Hh true _ _
  |three h=>exfalso;dsimp only at ho;omega
theorem Uk(N:Nat):∀(n:Nat)(e:an),SizeOf.sizeOf e<n→En N e→eu e=true→∀d,SizeOf.sizeOf e<d→kF N d e=some (er e)
 |0,_,h,_,_,_,_=>absurd h (ajP _)
 |n+1,e,hn,hE,hc,d,hd=>by
  obtain⟨d,rfl⟩:∃k,d=k+1:=⟨d-1,by omega⟩;have ih:∀x∈e.ax,eu x=true→kF N d x=some (er x):=fun x hx mb=>Uk N n x (by have:=fy hx;omega) (hE.arg hx) mb d (by have:=fy hx;omega);have hA:∀(i:Nat)(x:an),e.ax[i]?=some x→eu x=ke e.ar i:=fun i x hx=>hE.node.arg hx;have sh:=fi hE.node;have ho:=Rx hc;rw[kF,Px];clear hn hd;cases sh with
  |leaf h=>exfalso;dsimp only at ho;omega
  |one h=>
   rename_i a
   have fh:=ho;dsimp only at fh;rcases h with rfl|rfl|rfl
   ·exact absurd fh (by decide)
   ·exact absurd fh (by decide)
   ·have i1:=ih a (by simp) ((hA 0 a rfl).trans rfl);show(Option.bind (kF N d a) fun v5=>Option.bind (bif v5.2 then some (!v5.1)else some false) fun v6=>some (v6,v5.2))=some ((er a).2&& !(er a).1,(er a).2);rw[i1,ajm];exact P7 _
  |two h=>
   rename_i a b
   have fh:=ho;dsimp only at fh;rcases h with rfl|rfl|rfl|rfl|rfl|rfl|rfl|rfl|rfl|rfl|rfl
   ·exact absurd fh (by decide)
   ·exact absurd fh (by decide)
   ·exact absurd fh (by decide)
   ·exact absurd fh (by decide)
   ·exact absurd fh (by decide)
   ·exact absurd fh (by decide)
   ·show Option.bind (sM N _) _=some (mu 13 a b);rw[Ks hE.two (by omega)];rfl
   ·show Option.bind (sM N _) _=some (mu 14 a b);rw[Ks hE.two (by omega)];rfl
   ·show Option.bind (sM N _) _=some (mu 15 a b);rw[Ks hE.two (by omega)];rfl
   ·have i1:=ih a (by simp) ((hA 0 a rfl).trans rfl);have i2:=ih b (by simp) ((hA 1 b rfl).trans rfl);show Option.bind (kF N d a) (fun v9=>Option.bind (kF N d b) _)=_;rw[i1,ajm,i2,ajm];exact Hh false _ _
   ·have i1:=ih a (by simp) ((hA 0 a rfl).trans rfl);have i2:=ih b (by simp) ((hA 1 b rfl).trans rfl);show Option.bind (kF N d a) (fun v9=>Option.bind (kF N d b) _)=_;rw[i1,ajm,i2,ajm];exact Hh true _ _
  |three h=>exfalso;dsimp only at ho;omega
theorem CY{N:Nat}{e:an}(h:En N e)(hc:eu e=true):uE N e=some (er e):=Ro N _ e (aj9 _) h hc N (by have:=h.sz;omega)
theorem BA{N:Nat}{e:an}(h:En N e)(hc:eu e=true):vw N e=some (er e):=Uk N _ e (aj9 _) h hc N (by have:=h.sz;omega)
def cb(r:akd (an×Bool))(o:akd an):Prop:=∃x,r=some (x,o.isSome)∧∀y,o=some y→x=y
theorem cb.no{r:akd (an×Bool)}{x:an}(h:r=some (x,false)):cb r none:=⟨x,h,fun _ h=>by cases h⟩
theorem cb.yes{r:akd (an×Bool)}{x:an}(h:r=some (x,true)):cb r (some x):=⟨x,h,fun _ h=>by cases h;rfl⟩
theorem cb.ite{r:akd (an×Bool)}{x:an}{b:Bool}(h:r=some (x,b)):cb r (bif b then some x else none):=by
 cases b
 ·exact .no h
 ·exact .yes h
theorem cb.eta{r:akd (an×Bool)}{o:akd an}(h:cb r o):cb (Option.bind r fun v=>some (v.1,v.2)) o:=by
 obtain⟨x,rfl,h2⟩:=h;exact⟨x,rfl,h2⟩
theorem cb.fZ{l:aF}{o:X aF}(r:akd (an×Bool))(h:r=some (lA (qP zLin o).1,(qP zLin o).2==0)):cb r (iJ o):=by
 cases o with
 |ok l=>exact .yes h
 |error e=>exact .no (h.trans (by show some (_,e.code==0)=_;rw[LO]))
theorem cb.gH{f g:aF}{r:akd (an×Bool)}(h:r=some (lA (gH f g).1,(gH f g).2)):cb r (iJ (lk f g)):=by
 unfold Go.Proofs.YtpgmcallngdceaaGreatDoor.gH at h;cases hm:lk f g with
 |ok l=>rw[hm]at h;exact .yes h
 |error e=>rw[hm]at h;exact .no h
theorem cb.An{o:X aF}{r:akd (an×Bool)}(h:r=some (lA (qP zLin o).1,(qP zLin o).2==0)):cb r (iJ o):=cb.fZ (l:=zLin) r h
theorem cb.val{t:aD}{o:ay×Int}{r:akd (an×Bool)}(h:r=some (fU t o.1,o.2==0)):cb r (oe t o):=cb.ite h
abbrev nd(e:an)(k:Kn):cy:=⟨e,k⟩
theorem aan(t:aD):eo t t=true:=Ol.2 rfl
theorem OG(a b c:Bool):(bif a then some true else(bif b then some true else some c))=some (a||(b||c)):=by cases a<;>cases b<;>rfl
theorem vn(N:Nat)(hN:9223372036854775808<N)(op:Int)(a b:an):cb (Option.bind (bif (a.ar !=1)then some true else(bif (b.ar !=1)then some true else some (!eo a.aC b.aC))) fun v6=>bif v6 then some (ef,false)else Option.bind (yb N op a.aC a.ba b.ba) fun v7=>Option.bind (oF N a.aC v7.1) fun v8=>some (v8,(v7.2==(0:Int))))
 (bif a.ar==1&&(b.ar==1&&eo a.aC b.aC)then oe a.aC (qM op a.aC a.ba b.ba)else none):=by
 rw[OG,ajm,aas N hN,ajm];unfold oF;rw[ajm,fu,fu];cases a.ar==1 with
 |false=>exact .no rfl
 |true=>
  cases b.ar==1 with
  |false=>exact .no rfl
  |true=>
   cases eo a.aC b.aC with
   |false=>exact .no rfl
   |true=>exact .val rfl
theorem UO:aS ((1:Nat)-(1:Int))=0:=by decide
theorem VQ:aS ((2:Nat)-(1:Int))=1:=by decide
theorem W0{N:Nat}{e:an}(h:En N e)(k:Kn):cb (xz N (nd e k)) (rV e):=by
 have hN:=h.hN;have sh:=fi h.node;clear h;unfold xz rV;cases sh with
 |leaf h=>rcases h with rfl|rfl|rfl<;>exact .no rfl
 |one h=>
  rename_i a
  rcases h with rfl|rfl|rfl
  ·have c:=vn N hN 8 a a;have e1:aS ((([a]:akb an).length:Int)-1)=0:=UO;dsimp only at e1 ⊢;rw[e1];have c2:(a.ar==1&&(a.ar==1&&eo a.aC a.aC))=(true&&a.ar==1):=by rw[aan];cases a.ar==1<;>rfl
   rw[c2]at c;exact c
  ·exact .no rfl
  ·exact .no rfl
 |two h=>
  rename_i a b
  have e1:aS ((([a,b]:akb an).length:Int)-1)=1:=VQ;dsimp only at e1 ⊢;rw[e1];rcases h with rfl|rfl|rfl|rfl|rfl|rfl|rfl|rfl|rfl|rfl|rfl
  ·exact vn N hN 4 a b
  ·exact vn N hN 5 a b
  ·exact vn N hN 6 a b
  ·exact vn N hN 7 a b
  ·exact vn N hN 9 a b
  ·exact vn N hN 10 a b
  all_goals exact .no rfl
 |three h=>subst h;exact .no rfl
theorem zW(N:Nat)(hN:9223372036854775808<N)(op:Int)(a b q:an):cb (Option.bind (bif (a.ar !=1)then some true else(Option.bind (some b) fun v9=>(bif (v9.ar !=1)then some true else some (!eo a.aC v9.aC)))) fun v6=>bif v6 then some (q,false)else Option.bind (rX N op a.aC a.ba b.ba) fun v7=>Option.bind (nx N a.aC v7.1) fun v8=>some (v8,(v7.2==(0:Int))))
 (bif a.ar==1&&(b.ar==1&&eo a.aC b.aC)then oe a.aC (qM op a.aC a.ba b.ba)else none):=by
 rw[ajm,OG,ajm,Pt N hN,ajm];unfold nx;rw[ajm,fu,fu];cases a.ar==1 with
 |false=>exact .no rfl
 |true=>
  cases b.ar==1 with
  |false=>exact .no rfl
  |true=>
   cases eo a.aC b.aC with
   |false=>exact .no rfl
   |true=>exact .val rfl
theorem abi{N:Nat}{e:an}(h:En N e):cb (Cs N e) (rV e):=by
 have hN:=h.hN;have sh:=fi h.node;clear h;unfold Cs rV;cases sh with
 |leaf h=>rcases h with rfl|rfl|rfl<;>exact .no rfl
 |one h=>
  rename_i a
  rcases h with rfl|rfl|rfl
  ·show cb (Option.bind (some (a.ar==1)) _) (bif true&&a.ar==1 then _ else none);rw[ajm];cases a.ar==1 with
   |false=>exact .no rfl
   |true=>
    show cb (Option.bind (rX N 8 a.aC a.ba a.ba) _) (oe a.aC (qM 8 a.aC a.ba a.ba));rw[Pt N hN];exact .val rfl
  ·exact .no rfl
  ·exact .no rfl
 |two h=>
  rename_i a b
  rcases h with rfl|rfl|rfl|rfl|rfl|rfl|rfl|rfl|rfl|rfl|rfl
  ·exact zW N hN 4 a b _
  ·exact zW N hN 5 a b _
  ·exact zW N hN 6 a b _
  ·exact zW N hN 7 a b _
  ·exact zW N hN 9 a b _
  ·exact zW N hN 10 a b _
  all_goals exact .no rfl
 |three h=>subst h;exact .no rfl
theorem afe{N:Nat}{e:an}(h:En N e)(k:Kn):cb (EX N (nd e k)) (ue e):=by
 have hN:=h.hN;have A:∀x∈e.ax,En N x:=fun x hx=>h.arg hx;have sh:=fi h.node;clear h;unfold EX ue;cases sh with
 |leaf h=>rcases h with rfl|rfl|rfl<;>exact .no rfl
 |one h=>
  rename_i nm v t l i a
  rcases h with rfl|rfl|rfl
  ·exact .no rfl
  ·show cb (bif a.ar==1 then Option.bind (zD N a.aC t a.ba) _ else Option.bind (oH N a) _) (bif a.ar==1 then oe t (ur a.aC t a.ba)else bif (cM a).dk&&eo (cM a).yT t then some a else none);rw[ahd N hN,GJ (A a (by simp)),ajm,ajm];cases a.ar==1 with
   |true=>exact .val rfl
   |false=>
    show cb (Option.bind (bif (cM a).dk then some (eo (cM a).yT t)else some false) fun v6=>some (a,v6)) _;rw[dp];exact .ite rfl
  ·exact .no rfl
 |two h=>rcases h with rfl|rfl|rfl|rfl|rfl|rfl|rfl|rfl|rfl|rfl|rfl<;>exact .no rfl
 |three h=>subst h;exact .no rfl
theorem YR{N:Nat}{e:an}(h:En N e):cb (CR N e) (ue e):=by
 have hN:=h.hN;have A:∀x∈e.ax,En N x:=fun x hx=>h.arg hx;have sh:=fi h.node;clear h;unfold CR ue;cases sh with
 |leaf h=>rcases h with rfl|rfl|rfl<;>exact .no rfl
 |one h=>
  rename_i nm v t l i a
  rcases h with rfl|rfl|rfl
  ·exact .no rfl
  ·show cb (bif a.ar==1 then Option.bind (yA N a.aC t a.ba) _ else Option.bind (xY N a) _) (bif a.ar==1 then oe t (ur a.aC t a.ba)else bif (cM a).dk&&eo (cM a).yT t then some a else none);rw[abl N hN,SR (A a (by simp)),ajm,ajm];cases a.ar==1 with
   |true=>exact .val rfl
   |false=>
    show cb (Option.bind (bif (cM a).dk then some (eo (cM a).yT t)else some false) fun v6=>some (a,v6)) _;rw[dp];exact .ite rfl
  ·exact .no rfl
 |two h=>rcases h with rfl|rfl|rfl|rfl|rfl|rfl|rfl|rfl|rfl|rfl|rfl<;>exact .no rfl
 |three h=>subst h;exact .no rfl
theorem afP(e:an):(cr e).2=(e.ar==2||gp e):=by
 unfold cr jj gp;cases e.ar==2 with
 |true=>rfl
 |false=>cases (e.ar==1&&e.aC.a8==3)<;>rfl
theorem Ua(op:Int)(a b:an):yY op a b=bif (cr a).2&&((cr b).2&&(a.ar==2||b.ar==2))then iJ (bif op==5 then lk (cr a).1 (cr b).1 else j9 (cr a).1 (cr b).1)else none:=by
 unfold yY cr;cases jj a with
 |none=>rfl
 |some f=>cases jj b<;>rfl
theorem Se{N:Nat}{op:Int}{n v t l i a b}(h:q6 N a b)(ho:op=4∨op=5):cb (Et N ⟨op,n,v,t,l,i,[a,b]⟩) (yY op a b):=by
 rw[Ua];unfold Et;show cb (Option.bind (og N a) fun v3=>Option.bind (og N b) _) _;rw[FR,ajm,FR,ajm];have e1:(bif (cr a).2 then(bif (cr b).2 then(bif (a.ar !=(2:Int))then some (b.ar !=(2:Int))else some false)else some true)else some true)=some (!((cr a).2&&((cr b).2&&(a.ar==2||b.ar==2)))):=by
   rw[fu,fu];cases (cr a).2<;>cases (cr b).2<;>cases a.ar==2<;>cases b.ar==2<;>rfl
 rw[e1,ajm];cases (cr a).2&&((cr b).2&&(a.ar==2||b.ar==2))with
 |false=>exact .no rfl
 |true=>
  simp only[Bool.not_true,cond_false,cond_true];have hl:=h.len;have hn:=h.l.qw;rcases ho with rfl|rfl
  ·show cb (Option.bind (uc N (cr a).1 (cr b).1) _) (iJ (j9 (cr a).1 (cr b).1));rw[UD N (by omega) _ _ (by omega) (by omega)];exact .An rfl
  ·show cb (Option.bind (vy N (cr a).1 (cr b).1) _) (iJ (lk (cr a).1 (cr b).1));rw[PQ N hn hl];exact .gH rfl
theorem adF{N:Nat}{a b:an}(h:q6 N a b):cb (Ec N a b) (o9 a b):=by
 have J:∀x y:an,W wT x≤800000→cb (xO N x y) (bif x.ar==2&&gp y then iJ (jg x.aK y.ba.xN)else none):=fun x y hx=>by
  unfold xO gp;rw[OG,ajm,fu,fu,fu];cases x.ar==2 with
  |false=>exact .no rfl
  |true=>
   cases y.ar==1 with
   |false=>exact .no rfl
   |true=>
    cases y.aC.a8==3 with
    |false=>exact .no rfl
    |true=>
     show cb (Option.bind (qc N x.aK y.ba.xN) _) (iJ (jg x.aK y.ba.xN));rw[ML N (by have:=h.l.qw;omega) _ _ (ajF (Fi x) (ajF hx (by decide)))];exact .An rfl
 have ht:=h.t;have j1:=J a b (by omega);have j2:=J b a (by omega);unfold Ec o9;cases h1:a.ar==1 with
 |true=>
  have ha:a.ar=1:=by simpa using h1
  have ha2:(a.ar==2)=false:=by rw[ha];rfl
  rw[ha2];simp only[cond_true,Bool.false_and,cond_false];rw[Bool.and_comm];exact j2
 |false=>
  have hw:gp a=false:=by unfold gp;rw[h1];rfl
  rw[hw];simp only[cond_false,Bool.false_and];exact j1
theorem YI{N:Nat}{e:an}(h:En N e)(k:Kn):cb (DI N (nd e k)) (td e):=by
 have A:∀x∈e.ax,En N x:=fun x hx=>h.arg hx;have qw:=h.qw;have B:∀a b,e.ax=[a,b]→q6 N a b:=fun a b K8=>by
  obtain⟨op,n,v,t,l,i,al⟩:=e;cases K8
  exact h.two
 have sh:=fi h.node;clear h;unfold DI td;cases sh with
 |leaf h=>
  rcases h with rfl|rfl|rfl
  ·exact .no rfl
  ·rename_i n v t l i
   show cb (Option.bind (oF N vK ⟨l.xK,1⟩) fun v2=>Option.bind (bif ((l.xL.length:Int)==0)then(bif decide (-2147483647≤l.xK.toInt)then some (decide (l.xK.toInt≤2147483647))else some false)else some false) fun v3=>some (v2,v3)) (bif l.xL.length==0&&(decide (-2147483647≤l.xK.toInt)&&decide (l.xK.toInt≤2147483647))then some (fU vK ⟨l.xK,1⟩)else none);rw[GK,sW];exact .ite rfl
  ·exact .no rfl
 |one h=>
  rename_i n v t l i a
  rcases h with rfl|rfl|rfl
  ·show cb (bif a.ar==2 then Option.bind (qc N a.aK (-1)) _ else some (ef,false)) (bif true&&a.ar==2 then iJ (jg a.aK (-1))else none);rw[ML N (by omega) _ _ (ajF (Fi a) (ajF (A a (by simp)).t (by decide)))];cases a.ar==2 with
   |false=>exact .no rfl
   |true=>exact .An rfl
  ·exact .no rfl
  ·exact .no rfl
 |two h=>
  rename_i n v t l i a b
  have E:=B a b rfl;rcases h with rfl|rfl|rfl|rfl|rfl|rfl|rfl|rfl|rfl|rfl|rfl
  ·exact(Se E (.inl rfl)).eta
  ·exact(Se E (.inr rfl)).eta
  ·exact(adF E).eta
  all_goals exact .no rfl
 |three h=>subst h;exact .no rfl
theorem afU(xa xb wa wb:Bool)(ha:wa=true→xa=false)(hb:wb=true→xb=false):(bif xa||wa then(bif xb||wb then(bif wa then some wb else some false)else some true)else some true)=some (!((xa||wa)&&((xb||wb)&&(xa||xb)))):=by
 revert ha hb;cases xa<;>cases xb<;>cases wa<;>cases wb<;>simp
theorem YY{xa xb wa wb:Bool}(h:((xa||wa)&&((xb||wb)&&(xa||xb)))=false):(xa&&wb)=false∧(wa&&xb)=false:=by
 revert h;cases xa<;>cases xb<;>cases wa<;>cases wb<;>simp
theorem Y2{N:Nat}{e:an}(h:En N e):cb (Ba N e) (td e):=by
 have A:∀x∈e.ax,En N x:=fun x hx=>h.arg hx;have qw:=h.qw;have B:∀a b,e.ax=[a,b]→q6 N a b:=fun a b K8=>by
  obtain⟨op,n,v,t,l,i,al⟩:=e;cases K8
  exact h.two
 have sh:=fi h.node;clear h;unfold Ba td;cases sh with
 |leaf h=>
  rcases h with rfl|rfl|rfl
  ·exact .no rfl
  ·rename_i n v t l i
   show cb (Option.bind (nx N vK ⟨l.xK,1⟩) fun v2=>Option.bind (bif ((l.xL.length:Int)==0)then(bif decide (l.xK.toInt≤2147483647)then some (decide (-2147483647≤l.xK.toInt))else some false)else some false) fun v3=>some (v2,v3)) (bif l.xL.length==0&&(decide (-2147483647≤l.xK.toInt)&&decide (l.xK.toInt≤2147483647))then some (fU vK ⟨l.xK,1⟩)else none);rw[GK,sW,Bool.and_comm (decide (l.xK.toInt≤2147483647))];exact .ite rfl
  ·exact .no rfl
 |one h=>
  rename_i n v t l i a
  rcases h with rfl|rfl|rfl
  ·show cb (Option.bind (qO N a.aK (-1)) fun v5=>Option.bind (bif a.ar==2 then some (v5.2==0)else some false) fun v6=>some (lA v5.1,v6)) (bif true&&a.ar==2 then iJ (jg a.aK (-1))else none);rw[Kq N (by omega) _ _ (ajF (Fi a) (ajF (A a (by simp)).t (by decide))),ajm];cases a.ar==2 with
   |false=>exact .no rfl
   |true=>exact .An rfl
  ·exact .no rfl
  ·exact .no rfl
 |two h=>
  rename_i n v t l i a b
  have E:=B a b rfl;have hl:=E.len;have core:∀op:Int,op=4∨op=5∨op=6→cb (
   Option.bind (ph N a) fun v10=>
   Option.bind (ph N b) fun v11=>
   Option.bind (bif v10.2 then(bif v11.2 then Option.bind (ku N a) fun v12=>(bif v12 then Option.bind (ku N b) fun aZ=>some aZ else some false)else some true)else some true) fun bu=>
   bif bu then some ((⟨op,n,v,t,l,i,[a,b]⟩:an),false)
   else bif (op==(4:Int))then Option.bind (rm N v10.1 v11.1) fun bQ=>some ((⟨(2:Int),(bs []),bg,b8,bQ.1,[],[]⟩:an),(bQ.2==(0:Int)))
   else bif (op==(5:Int))then Option.bind (rO N v10.1 v11.1) fun de=>some ((⟨(2:Int),(bs []),bg,b8,de.1,[],[]⟩:an),de.2)
   else Option.bind (ku N a) fun bW=>Option.bind (bif bW then some false else Option.bind (ku N b) fun bx=>some (!bx)) fun cA=>
    bif cA then some ((⟨op,n,v,t,l,i,[a,b]⟩:an),false)
    else Option.bind (ku N a) fun v20=>bif v20 then sO N a v11.1.xK v11.1.xL else sO N b v10.1.xK v10.1.xL)
   (bif op==4||op==5 then yY op a b else bif op==6 then o9 a b else none):=fun op ho=>by
   obtain⟨l1,e1,f1⟩:=Gr N a;obtain⟨l2,e2,f2⟩:=Gr N b;rw[e1,ajm,e2,ajm,Nw,Nw,Ua];simp only[ajm];have hf:∀x:an,(cr x).2=(x.ar==2||gp x):=afP;have hx:∀x:an,gp x=true→(x.ar==2)=false:=fun x hx=>by
    unfold gp at hx;rw[ajp,beq_iff_eq]at hx;rw[hx.1];rfl
   have e3:(bif (cr a).2 then(bif (cr b).2 then(bif gp a then some (gp b)else some false)else some true)else some true)=some (!((cr a).2&&((cr b).2&&(a.ar==2||b.ar==2)))):=by
    rw[hf a,hf b];exact afU _ _ _ _ (hx a) (hx b)
   rw[e3,ajm];cases hc:(cr a).2&&((cr b).2&&(a.ar==2||b.ar==2))with
   |false=>
    rcases ho with rfl|rfl|rfl
    ·exact .no rfl
    ·exact .no rfl
    ·refine(?_:cb _ (o9 a b));have:o9 a b=none:=by
      unfold o9;rw[hf a,hf b]at hc;obtain⟨z1,z2⟩:=YY hc;rw[z1,z2];rfl
     rw[this];exact .no rfl
   |true=>
    rw[ajp,ajp]at hc;obtain⟨c1,c2,c3⟩:=hc;have g1:=f1 c1;have g2:=f2 c2;subst g1;subst g2;simp only[Bool.not_true,cond_false];rcases ho with rfl|rfl|rfl
    ·show cb (Option.bind (rm N (cr a).1 (cr b).1) _) (iJ (j9 (cr a).1 (cr b).1));rw[Tk N (by omega) _ _ (by omega)];exact .An rfl
    ·show cb (Option.bind (rO N (cr a).1 (cr b).1) _) (iJ (lk (cr a).1 (cr b).1));rw[Sk N qw hl];exact .gH rfl
    ·have sc:∀x y:an,(x.ar==2)=true→(cr x).1.xL.length≤800000→cb (sO N y (cr x).1.xK (cr x).1.xL) (iJ (jg x.aK y.ba.xN)):=fun x y mb hlen=>by
      have hfx:(cr x).1=x.aK:=by unfold cr jj;rw[mb];rfl
      rw[hfx]at hlen ⊢;unfold sO;have hsc:=Kq N (by omega) x.aK y.ba.xN (ajF hlen (by omega));have aeo:qO N (⟨x.aK.xK,x.aK.xL⟩:aF) y.ba.xN=some (qP zLin (jg x.aK y.ba.xN)):=hsc;rw[aeo];exact .An rfl
     refine(?_:cb (Option.bind (bif gp a then some false else some (!gp b)) _) (o9 a b));unfold o9;have ha:=hx a;have hb:=hx b;rw[hf a]at c1;rw[hf b]at c2;cases wa:gp a with
     |true=>
      rw[ha wa]at c3 ⊢;simp only[Bool.false_or]at c3;rw[c3];exact sc b a c3 (by omega)
     |false=>
      rw[wa]at c1;simp only[Bool.or_false]at c1;rw[c1];cases wb:gp b with
      |true=>exact sc a b c1 (by omega)
      |false=>exact .no rfl
  rcases h with rfl|rfl|rfl|rfl|rfl|rfl|rfl|rfl|rfl|rfl|rfl
  ·exact core 4 (by omega)
  ·exact core 5 (by omega)
  ·exact core 6 (by omega)
  all_goals exact .no rfl
 |three h=>subst h;exact .no rfl
theorem VG{r:akd (Bool×Bool)}{p:Bool×Bool}{a b:an}(h:r=some p):cb (Option.bind r fun v3=>bif v3.1 then Option.bind (some a) fun v4=>some (v4,v3.2)else Option.bind (some b) fun v5=>some (v5,v3.2)) (bif true&&p.2 then some (bif p.1 then a else b)else none):=by
 subst h;obtain⟨p1,p2⟩:=p;cases p1
 ·exact .ite rfl
 ·exact .ite rfl
theorem ZP{N:Nat}{e:an}(h:En N e)(k:Kn):cb (DW N (nd e k)) (sy e):=by
 have A:∀x∈e.ax,En N x:=fun x hx=>h.arg hx;have hA:∀(i:Nat)(x:an),e.ax[i]?=some x→eu x=ke e.ar i:=fun i x hx=>h.node.arg hx;have sh:=fi h.node;clear h;unfold DW sy;cases sh with
 |leaf h=>rcases h with rfl|rfl|rfl<;>exact .no rfl
 |one h=>rcases h with rfl|rfl|rfl<;>exact .no rfl
 |two h=>rcases h with rfl|rfl|rfl|rfl|rfl|rfl|rfl|rfl|rfl|rfl|rfl<;>exact .no rfl
 |three h=>
  rename_i c a b
  subst h;exact VG (CY (A c (by simp)) ((hA 0 c rfl).trans rfl))
theorem abR{N:Nat}{e:an}(h:En N e):cb (Bd N e) (sy e):=by
 have A:∀x∈e.ax,En N x:=fun x hx=>h.arg hx;have hA:∀(i:Nat)(x:an),e.ax[i]?=some x→eu x=ke e.ar i:=fun i x hx=>h.node.arg hx;have sh:=fi h.node;clear h;unfold Bd sy;cases sh with
 |leaf h=>rcases h with rfl|rfl|rfl<;>exact .no rfl
 |one h=>rcases h with rfl|rfl|rfl<;>exact .no rfl
 |two h=>rcases h with rfl|rfl|rfl|rfl|rfl|rfl|rfl|rfl|rfl|rfl|rfl<;>exact .no rfl
 |three h=>
  rename_i c a b
  subst h;exact VG (BA (A c (by simp)) ((hA 0 c rfl).trans rfl))
theorem oD{r:akd Bool}{p:Bool}{a:an}(h:r=some p):cb (Option.bind r fun v8=>some (a,v8)) (bif true&&p then some a else none):=by
 subst h;exact .ite rfl
theorem afB{N:Nat}{e:an}(h:En N e)(k:Kn):cb (Dd N (nd e k)) (tp e):=by
 have A:∀x∈e.ax,3*SizeOf.sizeOf x+3≤N:=fun x hx=>(h.arg hx).eq;have sh:=fi h.node;clear h;unfold Dd tp;cases sh with
 |leaf h=>rcases h with rfl|rfl|rfl<;>exact .no rfl
 |one h=>rcases h with rfl|rfl|rfl<;>exact .no rfl
 |two h=>
  rename_i a b
  have s:=Fu b (A a (by simp));rcases h with rfl|rfl|rfl|rfl|rfl|rfl|rfl|rfl|rfl|rfl|rfl
  ·exact .no rfl
  ·exact .no rfl
  ·exact .no rfl
  ·exact .no rfl
  ·exact oD s
  ·exact oD s
  ·exact .no rfl
  ·exact .no rfl
  ·exact .no rfl
  ·exact oD s
  ·exact oD s
 |three h=>
  rename_i c a b
  subst h;exact oD (Fu b (A a (by simp)))
theorem agM{N:Nat}{e:an}(h:En N e):cb (C5 N e) (tp e):=by
 have A:∀x∈e.ax,3*SizeOf.sizeOf x+3≤N:=fun x hx=>(h.arg hx).eq;have sh:=fi h.node;clear h;unfold C5 tp;cases sh with
 |leaf h=>rcases h with rfl|rfl|rfl<;>exact .no rfl
 |one h=>rcases h with rfl|rfl|rfl<;>exact .no rfl
 |two h=>
  rename_i a b
  have s:=zl b (A a (by simp));rcases h with rfl|rfl|rfl|rfl|rfl|rfl|rfl|rfl|rfl|rfl|rfl
  ·exact .no rfl
  ·exact .no rfl
  ·exact .no rfl
  ·exact .no rfl
  ·exact oD s
  ·exact oD s
  ·exact .no rfl
  ·exact .no rfl
  ·exact .no rfl
  ·exact oD s
  ·exact oD s
 |three h=>
  rename_i c a b
  subst h;exact oD (zl b (A a (by simp)))
theorem Rc(N:Nat)(e:an):iR N e=some (eV e):=by
 unfold iR eV;rw[Wo,ajm];show Option.bind (bif e.ar==1 then some (mv e.ba (pE e.aC))else some false) _=_;rw[dp,ajm]
theorem KP(N:Nat)(e:an):nO N e=some (eV e):=by
 unfold nO eV;rw[Wl,ajm];show Option.bind (bif e.ar==1 then some (mv e.ba (pE e.aC))else some false) _=_;rw[dp,ajm]
theorem XY{N:Nat}{e:an}(h:En N e)(k:Kn):cb (Cy N (nd e k)) (sY e):=by
 have sh:=fi h.node;clear h;unfold Cy sY;cases sh with
 |leaf h=>rcases h with rfl|rfl|rfl<;>exact .no rfl
 |one h=>rcases h with rfl|rfl|rfl<;>exact .no rfl
 |two h=>
  rename_i a b
  have za:=Rc N a;have zb:=Rc N b;rcases h with rfl|rfl|rfl|rfl|rfl|rfl|rfl|rfl|rfl|rfl|rfl
  ·show cb (Option.bind (iR N b) fun v5=>bif v5 then some (a,true)else Option.bind (iR N a) fun v6=>some (b,v6)) (bif eV b then some a else bif eV a then some b else none);rw[za,zb];cases eV b
   ·exact .ite rfl
   ·exact .yes rfl
  ·show cb (Option.bind (iR N b) fun v5=>bif v5 then some (a,true)else Option.bind (oZ N 8 [b]) fun v8=>Option.bind (iR N a) fun v6=>some (v8,v6)) (bif eV b then some a else bif eV a then some (dj 8 [b])else none);rw[za,zb];cases eV b
   ·exact .ite rfl
   ·exact .yes rfl
  ·show cb (Option.bind (iR N b) fun v5=>bif v5 then some (b,true)else Option.bind (iR N a) fun v6=>some (a,v6)) (bif eV b then some b else bif eV a then some a else none);rw[za,zb];cases eV b
   ·exact .ite rfl
   ·exact .yes rfl
  ·show cb (Option.bind (iR N a) fun v6=>some (a,v6)) (bif eV a then some a else none);rw[za];exact .ite rfl
  all_goals exact .no rfl
 |three h=>subst h;exact .no rfl
theorem ahL(N:Nat)(a e b:an)(v:Bool):uC N a e b v=some (bif v then(a,true)else bif e.ar==4&&eV a then(b,true)else bif e.ar==5&&eV a then(dj 8 [b],true)else bif e.ar==6&&eV b then(b,true)else(a,(e.ar==6&&eV a)||(!(e.ar==6)&&(e.ar==7&&eV a)))):=by
 unfold uC;rw[KP,KP,ajm,ajm];generalize eV a=za;generalize eV b=zb;generalize (e.ar==4)=x4;generalize (e.ar==5)=x5;generalize (e.ar==6)=x6;generalize (e.ar==7)=x7;cases v with
 |true=>rfl
 |false=>cases x4<;>cases x5<;>cases x6<;>cases x7<;>cases za<;>cases zb<;>rfl
theorem acS{N:Nat}{e:an}(h:En N e):cb (Bw N e) (sY e):=by
 have sh:=fi h.node;clear h;unfold Bw sY;cases sh with
 |leaf h=>rcases h with rfl|rfl|rfl<;>exact .no rfl
 |one h=>rcases h with rfl|rfl|rfl<;>exact .no rfl
 |two h=>
  rename_i n v t l i a b
  simp only[List.getElem?_cons_zero,ajY,ajm,KP,ahL];generalize hzb:eV b=zb;generalize hza:eV a=za;rcases h with rfl|rfl|rfl|rfl|rfl|rfl|rfl|rfl|rfl|rfl|rfl
  ·cases zb
   ·cases za
    ·exact .no rfl
    ·exact .yes rfl
   ·exact .yes rfl
  ·cases zb
   ·cases za
    ·exact .no rfl
    ·exact .yes rfl
   ·exact .yes rfl
  ·cases zb
   ·cases za
    ·exact .no rfl
    ·exact .yes rfl
   ·exact .yes rfl
  ·cases za
   ·cases zb<;>exact .no rfl
   ·cases zb<;>exact .yes rfl
  all_goals exact .no rfl
 |three h=>subst h;exact .no rfl
theorem Qf(N:Nat)(hN:2147483648<N)(e:an):qG N e=some (jy e):=by
 unfold qG jy;rw[UC N hN,ajm,fu];cases e.ar==1 with
 |false=>rfl
 |true=>
  show Option.bind (bif (iy e.aC).2==0 then some (mv e.ba (iy e.aC).1)else some false) _=_;rw[dp,ajm];rfl
theorem Qm(N:Nat)(hN:2147483648<N)(e:an):qj N e=some (jy e):=by
 unfold qj jy;rw[Wp N hN,ajm,fu];cases e.ar==1 with
 |false=>rfl
 |true=>
  show Option.bind (bif (iy e.aC).2==0 then some (mv e.ba (iy e.aC).1)else some false) _=_;rw[dp,ajm];rfl
theorem Xk{N:Nat}{e:an}(h:En N e)(k:Kn):cb (BC N (nd e k)) (s6 e):=by
 have hN:=h.AE;have sh:=fi h.node;clear h;unfold BC s6;cases sh with
 |leaf h=>rcases h with rfl|rfl|rfl<;>exact .no rfl
 |one h=>rcases h with rfl|rfl|rfl<;>exact .no rfl
 |two h=>
  rename_i a b
  have za:=Qf N hN a;have zb:=Qf N hN b;rcases h with rfl|rfl|rfl|rfl|rfl|rfl|rfl|rfl|rfl|rfl|rfl
  ·exact .no rfl
  ·exact .no rfl
  ·show cb (Option.bind (qG N b) fun v5=>bif v5 then some (a,true)else Option.bind (Option.bind (qG N a) fun v6=>some v6) fun v7=>some (b,v7)) (bif jy b then some a else bif jy a then some b else none);rw[za,zb];cases jy b
   ·exact .ite rfl
   ·exact .yes rfl
  ·show cb (Option.bind (qG N b) fun v5=>bif v5 then some (a,true)else some (b,false)) (bif jy b then some a else none);rw[zb];cases jy b
   ·exact .no rfl
   ·exact .yes rfl
  all_goals exact .no rfl
 |three h=>subst h;exact .no rfl
theorem ahp{N:Nat}{e:an}(h:En N e):cb (BM N e) (s6 e):=by
 have hN:=h.AE;have sh:=fi h.node;clear h;unfold BM s6;cases sh with
 |leaf h=>rcases h with rfl|rfl|rfl<;>exact .no rfl
 |one h=>rcases h with rfl|rfl|rfl<;>exact .no rfl
 |two h=>
  rename_i a b
  have za:=Qm N hN a;have zb:=Qm N hN b;rcases h with rfl|rfl|rfl|rfl|rfl|rfl|rfl|rfl|rfl|rfl|rfl
  ·exact .no rfl
  ·exact .no rfl
  ·show cb (Option.bind (qj N b) fun v5=>bif v5 then some (a,true)else Option.bind (Option.bind (qj N a) fun v6=>some v6) fun v7=>some (b,v7)) (bif jy b then some a else bif jy a then some b else none);rw[za,zb];cases jy b
   ·exact .ite rfl
   ·exact .yes rfl
  ·show cb (Option.bind (qj N b) fun v5=>bif v5 then some (a,true)else some (b,false)) (bif jy b then some a else none);rw[zb];cases jy b
   ·exact .no rfl
   ·exact .yes rfl
  all_goals exact .no rfl
 |three h=>subst h;exact .no rfl
theorem aie{N:Nat}{e:an}(h:En N e)(k:Kn):cb (E0 N (nd e k)) (tb e k):=by
 have hN:=h.AE;have A:∀x∈e.ax,3*SizeOf.sizeOf x+3≤N:=fun x hx=>(h.arg hx).eq;have sh:=fi h.node;clear h;unfold E0 tb;cases sh with
 |leaf h=>rcases h with rfl|rfl|rfl<;>exact .no rfl
 |one h=>rcases h with rfl|rfl|rfl<;>exact .no rfl
 |two h=>
  rename_i a b
  have s:=Fu b (A a (by simp));rcases h with rfl|rfl|rfl|rfl|rfl|rfl|rfl|rfl|rfl|rfl|rfl
  ·exact .no rfl
  ·show cb (Option.bind (bif k.dk then Option.bind (nH N a b) fun v7=>some (!v7)else some true) fun v8=>bif v8 then some (ef,false)else Option.bind (uT N k.yT) fun v9=>some (fU k.yT v9,true)) (bif true&&(k.dk&&ic a b)then some (fU k.yT (pE k.yT))else none);rw[s,Wo];cases k.dk
   ·exact .no rfl
   ·cases ic a b
    ·exact .no rfl
    ·exact .yes rfl
  ·exact .no rfl
  ·show cb (Option.bind (bif k.dk then Option.bind (nH N a b) fun v7=>some (!v7)else some true) fun v8=>bif v8 then some (ef,false)else Option.bind (vA N k.yT) fun v11=>Option.bind (bif (k.yT.a8 !=2)then some (v11.2==0)else some false) fun aZ=>some (fU k.yT v11.1,aZ)) (bif true&&(k.dk&&ic a b)then(bif !(k.yT.a8==2)&&(iy k.yT).2==0 then some (fU k.yT (iy k.yT).1)else none)else none);rw[s,UC N hN];cases k.dk
   ·exact .no rfl
   ·cases ic a b
    ·exact .no rfl
    ·show cb (Option.bind (bif !(k.yT.a8==2)then some ((iy k.yT).2==0)else some false) fun aZ=>some (fU k.yT (iy k.yT).1,aZ)) _;rw[dp];exact .ite rfl
  all_goals exact .no rfl
 |three h=>subst h;exact .no rfl
theorem YE{N:Nat}{e:an}(h:En N e)(k:Kn):cb (B8 N e (kn k)) (tb e k):=by
 have hN:=h.AE;have A:∀x∈e.ax,3*SizeOf.sizeOf x+3≤N:=fun x hx=>(h.arg hx).eq;have sh:=fi h.node;clear h;obtain⟨kt,kk⟩:=k;unfold B8 tb kn;cases kk with
 |false=>
  cases sh with
  |leaf h=>rcases h with rfl|rfl|rfl<;>exact .no rfl
  |one h=>rcases h with rfl|rfl|rfl<;>exact .no rfl
  |two h=>rcases h with rfl|rfl|rfl|rfl|rfl|rfl|rfl|rfl|rfl|rfl|rfl<;>exact .no rfl
  |three h=>subst h;exact .no rfl
 |true=>
  cases sh with
  |leaf h=>rcases h with rfl|rfl|rfl<;>exact .no rfl
  |one h=>rcases h with rfl|rfl|rfl<;>exact .no rfl
  |two h=>
   rename_i a b
   have s:=zl b (A a (by simp));rcases h with rfl|rfl|rfl|rfl|rfl|rfl|rfl|rfl|rfl|rfl|rfl
   ·exact .no rfl
   ·show cb (Option.bind (Option.bind (jB N a b) fun v7=>some (!v7)) fun v8=>bif v8 then some (_,false)else Option.bind (w6 N kt) fun v9=>some (fU kt v9,true)) (bif true&&(true&&ic a b)then some (fU kt (pE kt))else none);rw[s,Wl];cases ic a b
    ·exact .no rfl
    ·exact .yes rfl
   ·exact .no rfl
   ·show cb (Option.bind (Option.bind (jB N a b) fun v7=>some (!v7)) fun v8=>bif v8 then some (_,false)else Option.bind (wz N kt) fun v11=>Option.bind (bif (kt.a8 !=2)then some (v11.2==0)else some false) fun aZ=>some (fU kt v11.1,aZ)) (bif true&&(true&&ic a b)then(bif !(kt.a8==2)&&(iy kt).2==0 then some (fU kt (iy kt).1)else none)else none);rw[s,Wp N hN];cases ic a b
    ·exact .no rfl
    ·show cb (Option.bind (bif !(kt.a8==2)then some ((iy kt).2==0)else some false) fun aZ=>some (fU kt (iy kt).1,aZ)) _;rw[dp];exact .ite rfl
   all_goals exact .no rfl
  |three h=>subst h;exact .no rfl
theorem WN{N:Nat}{a:an}(h:En N a):(a.ax.length:Int)=kG a.ar:=h.v.mc a (wP a)
theorem mP{N:Nat}{a:an}(h:En N a)(ho:(a.ar==8)=true∨(a.ar==18)=true):∃x,a.ax=[x]:=by
 refine Mc (WN h) ?_;rcases ho with ho|ho<;>(rw[beq_iff_eq]at ho;rw[ho];rfl)
theorem Hp{N:Nat}{a:an}(h:En N a)(ho:(a.ar==13)=true∨(a.ar==14)=true):∃x y,a.ax=[x,y]:=by
 have hr:=WN h;have:kG a.ar=2:=by rcases ho with ho|ho<;>(rw[beq_iff_eq]at ho;rw[ho];rfl)
 rw[this]at hr;exact(Dk (show a.ax.length=2 by omega)).2.2.1 rfl
theorem acr(k:Kn)(z:Bool):(bif k.dk then(bif (k.yT.a8==2)then(bif (k.yT.bI !=2)then some true else some z)else some z)else some true)=some (!(k.dk&&(!(k.yT.a8==2)||k.yT.bI==2))||z):=by
 rw[fu];cases k.dk<;>cases k.yT.a8==2<;>cases k.yT.bI==2<;>cases z<;>rfl
theorem Y0{N:Nat}{e:an}(h:En N e)(k:Kn):cb (DX N (nd e k)) (tZ e k):=by
 have A:∀x∈e.ax,En N x:=fun x hx=>h.arg hx;have sh:=fi h.node;clear h;unfold DX tZ;rw[acr,ajm];dsimp only;cases (k.dk&&(!(k.yT.a8==2)||k.yT.bI==2))with
 |false=>exact .no rfl
 |true=>
  cases sh with
  |leaf h=>rcases h with rfl|rfl|rfl<;>exact .no rfl
  |one h=>
   rename_i a
   have e1:aS ((([a]:akb an).length:Int)-1)=0:=UO;dsimp only at e1 ⊢;rw[e1];rcases h with rfl|rfl|rfl
   ·show cb (Option.bind (some (a.ar==8)) fun v5=>bif v5 then Option.bind (a.ax[0]?) fun v6=>some (v6,true)else _) (bif true&&a.ar==8 then a.ax[0]? else none);cases ho:a.ar==8 with
    |false=>exact .no rfl
    |true=>
     obtain⟨x,hx⟩:=mP (A a (by simp)) (.inl ho);rw[hx];exact .yes rfl
   ·exact .no rfl
   ·exact .no rfl
  |two h=>
   rename_i a b
   have e1:aS ((([a,b]:akb an).length:Int)-1)=1:=VQ;dsimp only at e1 ⊢;rw[e1];rcases h with rfl|rfl|rfl|rfl|rfl|rfl|rfl|rfl|rfl|rfl|rfl
   ·show cb (Option.bind (some (b.ar==8)) fun v7=>bif v7 then Option.bind (b.ax[0]?) fun v8=>some (dj 5 [a,v8],true)else Option.bind (some (a.ar==8)) fun v10=>bif v10 then Option.bind (a.ax[0]?) fun v11=>some (dj 5 [b,v11],true)else some (ef,false))
     (bif b.ar==8 then(b.ax[0]?).map fun x=>dj 5 [a,x]else bif a.ar==8 then(a.ax[0]?).map fun x=>dj 5 [b,x]else none)
    cases ho:b.ar==8 with
    |true=>
     obtain⟨x,hx⟩:=mP (A b (by simp)) (.inl ho);rw[hx];exact .yes rfl
    |false=>
     cases tO:a.ar==8 with
     |true=>
      obtain⟨x,hx⟩:=mP (A a (by simp)) (.inl tO);rw[hx];exact .yes rfl
     |false=>exact .no rfl
   ·show cb (Option.bind (some (b.ar==8)) fun aZ=>bif aZ then Option.bind (b.ax[0]?) fun bu=>some (dj 4 [a,bu],true)else some (ef,false))
     (bif true&&b.ar==8 then(b.ax[0]?).map fun x=>dj 4 [a,x]else none)
    cases ho:b.ar==8 with
    |true=>
     obtain⟨x,hx⟩:=mP (A b (by simp)) (.inl ho);rw[hx];exact .yes rfl
    |false=>exact .no rfl
   all_goals exact .no rfl
  |three h=>
   rename_i c a b
   subst h;have e1:aS ((([c,a,b]:akb an).length:Int)-1)=2:=by
    have:aS ((3:Nat)-(1:Int))=2:=by decide
    exact this
   dsimp only at e1 ⊢;rw[e1];exact .no rfl
theorem acK{N:Nat}{e:an}(h:En N e)(k:Kn):cb (Be N e (kn k)) (tZ e k):=by
 have A:∀x∈e.ax,En N x:=fun x hx=>h.arg hx;have sh:=fi h.node;clear h;unfold Be tZ kn;have e0:(bif k.dk then(bif (k.yT.a8==2)then some (k.yT.bI !=2)else some false)else some true)=some (!(k.dk&&(!(k.yT.a8==2)||k.yT.bI==2))):=by
  rw[fu];cases k.dk<;>cases k.yT.a8==2<;>cases k.yT.bI==2<;>rfl
 dsimp only;rw[e0,ajm];cases (k.dk&&(!(k.yT.a8==2)||k.yT.bI==2))with
 |false=>exact .no rfl
 |true=>
  cases sh with
  |leaf h=>rcases h with rfl|rfl|rfl<;>exact .no rfl
  |one h=>
   rename_i a
   rcases h with rfl|rfl|rfl
   ·show cb (Option.bind (some (a.ar==8)) fun v5=>bif v5 then Option.bind (a.ax[0]?) fun v6=>some (v6,true)else _) (bif true&&a.ar==8 then a.ax[0]? else none);cases ho:a.ar==8 with
    |false=>exact .no rfl
    |true=>
     obtain⟨x,hx⟩:=mP (A a (by simp)) (.inl ho);rw[hx];exact .yes rfl
   ·exact .no rfl
   ·exact .no rfl
  |two h=>
   rename_i n v t l i a b
   rcases h with rfl|rfl|rfl|rfl|rfl|rfl|rfl|rfl|rfl|rfl|rfl
   ·show cb (Option.bind (bif b.ar==8 then some true else some false) fun v7=>bif v7 then Option.bind (b.ax[0]?) fun v8=>some (dj 5 [a,v8],true)else Option.bind (bif a.ar==8 then some true else some false) fun v10=>bif v10 then Option.bind (a.ax[0]?) fun v11=>some (dj 5 [b,v11],true)else bif b.ar==8 then Option.bind (b.ax[0]?) fun bW=>some (dj 4 [a,bW],true)else some (⟨4,n,v,t,l,i,[a,b]⟩,false))
     (bif b.ar==8 then(b.ax[0]?).map fun x=>dj 5 [a,x]else bif a.ar==8 then(a.ax[0]?).map fun x=>dj 5 [b,x]else none)
    cases ho:b.ar==8 with
    |true=>
     obtain⟨x,hx⟩:=mP (A b (by simp)) (.inl ho);rw[hx];exact .yes rfl
    |false=>
     cases tO:a.ar==8 with
     |true=>
      obtain⟨x,hx⟩:=mP (A a (by simp)) (.inl tO);rw[hx];exact .yes rfl
     |false=>exact .no rfl
   ·show cb (Option.bind (bif b.ar==8 then some false else some false) fun v7=>bif v7 then _ else Option.bind (bif a.ar==8 then some false else some false) fun v10=>bif v10 then _ else bif b.ar==8 then Option.bind (b.ax[0]?) fun bW=>some (dj 4 [a,bW],true)else some (⟨5,n,v,t,l,i,[a,b]⟩,false))
     (bif true&&b.ar==8 then(b.ax[0]?).map fun x=>dj 4 [a,x]else none)
    cases ho:b.ar==8 with
    |true=>
     obtain⟨x,hx⟩:=mP (A b (by simp)) (.inl ho);rw[hx];cases a.ar==8<;>exact .yes rfl
    |false=>cases a.ar==8<;>exact .no rfl
   all_goals exact .no rfl
  |three h=>subst h;exact .no rfl
theorem XR{N:Nat}{e:an}(h:En N e)(k:Kn):cb (Fa N (nd e k)) (sB e):=by
 have A:∀x∈e.ax,En N x:=fun x hx=>h.arg hx;have sh:=fi h.node;clear h;unfold Fa sB;cases sh with
 |leaf h=>rcases h with rfl|rfl|rfl<;>exact .no rfl
 |one h=>
  rename_i c
  rcases h with rfl|rfl|rfl
  ·exact .no rfl
  ·exact .no rfl
  ·show cb (bif c.ar==18 then Option.bind (c.ax[0]?) fun v8=>some (v8,true)else bif c.ar==13 then Option.bind (c.ax[1]?) fun v9=>Option.bind (c.ax[0]?) fun v10=>some (dj 14 [v9,v10],true)else bif c.ar==14 then Option.bind (c.ax[1]?) fun v12=>Option.bind (c.ax[0]?) fun aZ=>some (dj 13 [v12,aZ],true)else some (ef,false))
    (bif c.ar==18 then c.ax[0]? else bif c.ar==13 then(match c.ax with|[x,y]=>some (dj 14 [y,x])|_=>none)else bif c.ar==14 then(match c.ax with|[x,y]=>some (dj 13 [y,x])|_=>none)else none)
   have C:=A c (by simp);cases ho:c.ar==18 with
   |true=>
    obtain⟨x,hx⟩:=mP C (.inr ho);rw[hx];exact .yes rfl
   |false=>
    cases tO:c.ar==13 with
    |true=>
     obtain⟨x,y,hx⟩:=Hp C (.inl tO);rw[hx];exact .yes rfl
    |false=>
     cases L8:c.ar==14 with
     |true=>
      obtain⟨x,y,hx⟩:=Hp C (.inr L8);rw[hx];exact .yes rfl
     |false=>exact .no rfl
 |two h=>rcases h with rfl|rfl|rfl|rfl|rfl|rfl|rfl|rfl|rfl|rfl|rfl<;>exact .no rfl
 |three h=>
  rename_i c a b
  subst h;show cb (bif !(c.ar==18)then some (ef,false)else Option.bind (c.ax[0]?) fun v4=>some (dj 11 [v4,b,a],true)) (bif true&&c.ar==18 then(c.ax[0]?).map fun x=>dj 11 [x,b,a]else none);cases ho:c.ar==18 with
  |true=>
   obtain⟨x,hx⟩:=mP (A c (by simp)) (.inr ho);rw[hx];exact .yes rfl
  |false=>exact .no rfl
theorem aeE{N:Nat}{e:an}(h:En N e):cb (Bx N e) (sB e):=by
 have A:∀x∈e.ax,En N x:=fun x hx=>h.arg hx;have sh:=fi h.node;clear h;unfold Bx sB;cases sh with
 |leaf h=>rcases h with rfl|rfl|rfl<;>exact .no rfl
 |one h=>
  rename_i n v t l i c
  rcases h with rfl|rfl|rfl
  ·exact .no rfl
  ·exact .no rfl
  ·show cb (bif c.ar==18 then Option.bind (c.ax[0]?) fun v8=>some (v8,true)else bif c.ar==13 then Option.bind (c.ax[1]?) fun v9=>Option.bind (c.ax[0]?) fun v10=>some (dj 14 [v9,v10],true)else bif c.ar==14 then Option.bind (c.ax[1]?) fun v12=>Option.bind (c.ax[0]?) fun aZ=>some (dj 13 [v12,aZ],true)else some (⟨18,n,v,t,l,i,[c]⟩,false))
    (bif c.ar==18 then c.ax[0]? else bif c.ar==13 then(match c.ax with|[x,y]=>some (dj 14 [y,x])|_=>none)else bif c.ar==14 then(match c.ax with|[x,y]=>some (dj 13 [y,x])|_=>none)else none)
   have C:=A c (by simp);cases ho:c.ar==18 with
   |true=>
    obtain⟨x,hx⟩:=mP C (.inr ho);rw[hx];exact .yes rfl
   |false=>
    cases tO:c.ar==13 with
    |true=>
     obtain⟨x,y,hx⟩:=Hp C (.inl tO);rw[hx];exact .yes rfl
    |false=>
     cases L8:c.ar==14 with
     |true=>
      obtain⟨x,y,hx⟩:=Hp C (.inr L8);rw[hx];exact .yes rfl
     |false=>exact .no rfl
 |two h=>rcases h with rfl|rfl|rfl|rfl|rfl|rfl|rfl|rfl|rfl|rfl|rfl<;>exact .no rfl
 |three h=>
  rename_i n v t l i c a b
  subst h;show cb (Option.bind (some (c.ar==18)) fun v3=>bif v3 then Option.bind (c.ax[0]?) fun v4=>some (dj 11 [v4,b,a],true)else some (⟨11,n,v,t,l,i,[c,a,b]⟩,false)) (bif true&&c.ar==18 then(c.ax[0]?).map fun x=>dj 11 [x,b,a]else none);cases ho:c.ar==18 with
  |true=>
   obtain⟨x,hx⟩:=mP (A c (by simp)) (.inr ho);rw[hx];exact .yes rfl
  |false=>exact .no rfl
theorem Hv{f:an→akd (Bool×Bool)}{a b:an}{p q:Bool×Bool}(z:Bool)(ha:f a=some p)(hb:f b=some q):cb (Option.bind (f a) fun v4=>Option.bind (bif v4.2 then some (v4.1==z)else some false) fun v5=>bif v5 then Option.bind (some b) fun v6=>some (v6,true)else Option.bind (some b) fun v7=>Option.bind (f v7) fun v8=>Option.bind (bif v8.2 then some (v8.1==z)else some false) fun v9=>some (a,v9))
 (bif p.2&&p.1==z then some b else bif q.2&&q.1==z then some a else none):=by
 rw[ha,ajm,dp,ajm];cases (p.2&&p.1==z)with
 |true=>exact .yes rfl
 |false=>
  simp only[cond_false,ajm];rw[hb,ajm,dp];exact .ite rfl
theorem afI{N:Nat}{e:an}(h:En N e)(k:Kn):cb (DK N (nd e k)) (tc e):=by
 have A:∀x∈e.ax,En N x:=fun x hx=>h.arg hx;have hA:∀(i:Nat)(x:an),e.ax[i]?=some x→eu x=ke e.ar i:=fun i x hx=>h.node.arg hx;have sh:=fi h.node;clear h;unfold DK tc;cases sh with
 |leaf h=>rcases h with rfl|rfl|rfl<;>exact .no rfl
 |one h=>rcases h with rfl|rfl|rfl<;>exact .no rfl
 |two h=>
  rename_i a b
  rcases h with rfl|rfl|rfl|rfl|rfl|rfl|rfl|rfl|rfl|rfl|rfl
  case inr.inr.inr.inr.inr.inr.inr.inr.inr.inl=>exact Hv (f:=uE N) true (CY (A a (by simp)) ((hA 0 a rfl).trans rfl)) (CY (A b (by simp)) ((hA 1 b rfl).trans rfl))
  case inr.inr.inr.inr.inr.inr.inr.inr.inr.inr=>exact Hv (f:=uE N) false (CY (A a (by simp)) ((hA 0 a rfl).trans rfl)) (CY (A b (by simp)) ((hA 1 b rfl).trans rfl))
  all_goals exact .no rfl
 |three h=>subst h;exact .no rfl
theorem Zt{N:Nat}{e:an}(h:En N e):cb (D8 N e) (tc e):=by
 have A:∀x∈e.ax,En N x:=fun x hx=>h.arg hx;have hA:∀(i:Nat)(x:an),e.ax[i]?=some x→eu x=ke e.ar i:=fun i x hx=>h.node.arg hx;have sh:=fi h.node;clear h;unfold D8 tc;cases sh with
 |leaf h=>rcases h with rfl|rfl|rfl<;>exact .no rfl
 |one h=>rcases h with rfl|rfl|rfl<;>exact .no rfl
 |two h=>
  rename_i a b
  rcases h with rfl|rfl|rfl|rfl|rfl|rfl|rfl|rfl|rfl|rfl|rfl
  case inr.inr.inr.inr.inr.inr.inr.inr.inr.inl=>exact Hv (f:=vw N) true (BA (A a (by simp)) ((hA 0 a rfl).trans rfl)) (BA (A b (by simp)) ((hA 1 b rfl).trans rfl))
  case inr.inr.inr.inr.inr.inr.inr.inr.inr.inr=>exact Hv (f:=vw N) false (BA (A a (by simp)) ((hA 0 a rfl).trans rfl)) (BA (A b (by simp)) ((hA 1 b rfl).trans rfl))
  all_goals exact .no rfl
 |three h=>subst h;exact .no rfl
abbrev Tp:=Bool×akc×Int×akc×Int64×Int64×Int×Int×Int×Int×Int×Int64×(akb aU)×(akb aI)×(akb an)
def m8(b:Bool)(s:akc)(x:an):Tp:=(b,s,x.ar,x.aV,x.ba.xN,x.ba.xD,x.aC.a8,x.aC.bz,x.aC.bE,x.aC.bK,x.aC.bI,x.aK.xK,x.aK.xL,x.xIdx,x.ax)
def kh(v:Tp):an:=⟨v.2.2.1,v.2.2.2.1,⟨v.2.2.2.2.1,v.2.2.2.2.2.1⟩,⟨v.2.2.2.2.2.2.1,v.2.2.2.2.2.2.2.1,v.2.2.2.2.2.2.2.2.1,v.2.2.2.2.2.2.2.2.2.1,v.2.2.2.2.2.2.2.2.2.2.1⟩,⟨v.2.2.2.2.2.2.2.2.2.2.2.1,v.2.2.2.2.2.2.2.2.2.2.2.2.1⟩,v.2.2.2.2.2.2.2.2.2.2.2.2.2.1,v.2.2.2.2.2.2.2.2.2.2.2.2.2.2⟩
theorem zS(b:Bool)(s:akc)(x:an):kh (m8 b s x)=x:=by cases x;rfl
abbrev Tr:=akc→an→akd Tp
def ch:akb Tr→akc→an→akd (Bool×an×akc)
 |[],s,x=>some (false,x,s)
 |[f],s,x=>Option.bind (f s x) fun v=>some (v.1,kh v,v.2.1)
 |f::g::l,s,x=>Option.bind (f s x) fun v=>bif v.1 then some (true,kh v,v.2.1)else ch (g::l) v.2.1 (kh v)
def FL(o:akd an)(s old:akc)(x:an):Tp:=match o with|some y=>m8 true s y|none=>m8 false old x
def UE(f:Tr)(o:akd an)(s:akc):Prop:=∀old x,f old x=some (FL o s old x)
theorem mW{r:akd (an×Bool)}{o:akd an}(s old:akc)(x:an)(h:cb r o):(Option.bind r fun v=>bif v.2 then some (m8 v.2 s v.1)else some (m8 v.2 old x))=some (FL o s old x):=by
 obtain⟨y,rfl,h2⟩:=h;cases o with
 |none=>rfl
 |some z=>obtain rfl:=h2 z rfl;rfl
def EV(r:Rw)(old:akc)(x:an):Bool×an×akc:=match r with|some y=>(true,y.1,y.2)|none=>(false,x,old)
def CG(l:akb (Tr×akd an×akc)):Rw:=l.foldr (fun t r=>iZ t.2.1 t.2.2 r) none
theorem Q9:∀(l:akb (Tr×akd an×akc))(old:akc)(x:an),(∀t∈l,UE t.1 t.2.1 t.2.2)→
 ch (l.map (·.1)) old x=some (EV (CG l) old x)
 |[],old,x,_=>rfl
 |[t],old,x,h=>by
  show Option.bind (t.1 old x) (fun v=>some (v.1,kh v,v.2.1))=some (EV (iZ t.2.1 t.2.2 none) old x);rw[h t (by simp) old x];cases t.2.1 with
  |some y=>show some (true,kh (m8 true t.2.2 y),t.2.2)=_;rw[zS];rfl
  |none=>show some (false,kh (m8 false old x),old)=_;rw[zS];rfl
 |t::u::l,old,x,h=>by
  show Option.bind (t.1 old x) (fun v=>bif v.1 then some (true,kh v,v.2.1)else ch ((u::l).map (·.1)) v.2.1 (kh v))=some (EV (iZ t.2.1 t.2.2 (CG (u::l))) old x);have ih:=Q9 (u::l) old x fun q hq=>h q (ajw _ hq);rw[h t (by simp) old x];cases t.2.1 with
  |some y=>show some (true,kh (m8 true t.2.2 y),t.2.2)=_;rw[zS];rfl
  |none=>show ch ((u::l).map (·.1)) old (kh (m8 false old x))=_;rw[zS];exact ih
noncomputable def Ev(N:Nat)(e:an)(k:Kn):akb (Tr×akd an×akc):=
 [(fun old _=>BB N (nd e k) (bs [102,111,108,100]) old 0 (bs []) bg b8 0,rV e,MM),
  (fun old x=>GF N (nd e k) (bs [99,97,115,116]) old x,ue e,Oe),
  (fun old x=>IY N (nd e k) (bs [105,110,100,101,120]) old x,td e,Li),
  (fun old x=>Gv N (nd e k) (bs [105,102]) old x,sy e,OJ),
  (fun old x=>FQ N (nd e k) (bs [115,97,109,101]) old x,tp e,Ow),
  (fun old x=>Hg N (nd e k) (bs [122,101,114,111]) old x,sY e,M0),
  (fun old x=>Ga N (nd e k) (bs [111,110,101]) old x,s6 e,NG),
  (fun old x=>Im N (nd e k) (bs [99,97,110,99,101,108]) old x,tb e k,Ls),
  (fun old x=>IA N (nd e k) (bs [110,101,103,97,116,101]) old x,tZ e k,OV),
  (fun old x=>Gj N (nd e k) (bs [110,111,116]) old x,sB e,Oi),
  (fun old x=>Hc N (nd e k) (bs [108,111,103,105,99]) old x,tc e,Ou)]
theorem ae9(N:Nat)(e:an)(k:Kn):AD N (nd e k)=Option.bind (ch ((Ev N e k).map (·.1)) (bs []) ef) fun aZ=>some (aZ.2.1,aZ.2.2,aZ.1):=by
 unfold AD Ev;simp only[ajM,List.map_nil,ch];rw[Option.bind_assoc];rfl
theorem Y9{N:Nat}{e:an}(k:Kn){o:akd an}(s old:akc)(h:cb (xz N (nd e k)) o):BB N (nd e k) s old 0 (bs []) bg b8 0=some (FL o s old ef):=mW s old ef h
def r3(r:Rw)(e:an):an×akc×Bool:=match r with|some y=>(y.1,y.2,true)|none=>(e,bs [],false)
theorem abk(t u:Tr×akd an×akc)(l:akb (Tr×akd an×akc))(old:akc)(x:an)(h0:t.1 old x=some (FL t.2.1 t.2.2 old x))(h:∀q∈u::l,UE q.1 q.2.1 q.2.2):
 ch ((t::u::l).map (·.1)) old x=some (EV (CG (t::u::l)) old x):=by
 show Option.bind (t.1 old x) (fun v=>bif v.1 then some (true,kh v,v.2.1)else ch ((u::l).map (·.1)) v.2.1 (kh v))=some (EV (iZ t.2.1 t.2.2 (CG (u::l))) old x);have ih:=Q9 (u::l) old x h;rw[h0];cases t.2.1 with
 |some y=>show some (true,kh (m8 true t.2.2 y),t.2.2)=_;rw[zS];rfl
 |none=>show ch ((u::l).map (·.1)) old (kh (m8 false old x))=_;rw[zS];exact ih
theorem ZC{N:Nat}{e:an}(h:En N e)(k:Kn):AD N (nd e k)=some (r3 (mD e k) ef):=by
 rw[ae9];unfold Ev;rw[abk]
 ·show some _=_;have:CG (Ev N e k)=mD e k:=rfl;unfold Ev at this;rw[this];cases mD e k<;>rfl
 ·exact Y9 k MM _ (W0 h k)
 ·intro t ht;simp only[ajR,aj3,or_false]at ht;rcases ht with rfl|rfl|rfl|rfl|rfl|rfl|rfl|rfl|rfl|rfl
  ·exact fun old x=>mW Oe old x (afe h k)
  ·exact fun old x=>mW Li old x (YI h k)
  ·exact fun old x=>mW OJ old x (ZP h k)
  ·exact fun old x=>mW Ow old x (afB h k)
  ·exact fun old x=>mW M0 old x (XY h k)
  ·exact fun old x=>mW NG old x (Xk h k)
  ·exact fun old x=>mW Ls old x (aie h k)
  ·exact fun old x=>mW OV old x (Y0 h k)
  ·exact fun old x=>mW Oi old x (XR h k)
  ·exact fun old x=>mW Ou old x (afI h k)
theorem nh{r:akd (an×Bool)}{o:akd an}{s:akc}{R:akd (an×akc×Bool)}{S:Rw}{e:an}(h:cb r o)(hR:R=some (r3 S e)):(Option.bind r fun v3=>bif v3.2 then some (v3.1,s,true)else R)=some (r3 (iZ o s S) e):=by
 obtain⟨x,rfl,h2⟩:=h;subst hR;cases o with
 |none=>rfl
 |some y=>obtain rfl:=h2 y rfl;rfl
theorem agH{N:Nat}{e:an}(h:En N e)(k:Kn):HA N e (kn k)=some (r3 (mD e k) e):=
 nh (abi h) (nh (YR h) (nh (Y2 h) (nh (abR h) (nh (agM h) (nh (acS h) (nh (ahp h) (nh (YE h k) (nh (acK h k) (nh (aeE h) (nh (Zt h) rfl))))))))))
theorem Po{e:an}(h:wo e):e.ax.length≤3:=by
 have sh:=fi h;clear h;cases sh<;>simp
theorem V2{N:Nat}{e:an}(h:En N e)(k:Kn)(rec:an→Kn→akd (an×akc×Bool))(hr:∀x∈e.ax,∀q,rec x q=some (r3 (iG x q) x)):
 ∀(l:akb an)(i:Nat),e.ax.drop i=l→uI N e k rec l i=some (r3 (jt iG e k i l) e)
 |[],i,_=>rfl
 |x::l,i,hd=>by
  have hx:x∈e.ax:=ajA (cd hd);have hl:=Po h.node;rw[uI,ahT h,ajm,hr x hx,ajm,jt];cases hf:iG x (rh e k i)with
  |none=>exact V2 h k rec hr l (i+1) (ji hd)
  |some y=>
   show(bif Nat.ble (e.ax.length*160) 140737488355328 then Option.bind (e.ax[i]?) fun v10=>bif Nat.beq (e.ax.set i y.1).length e.ax.length then some ((⟨e.ar,e.aV,e.ba,e.aC,e.aK,e.xIdx,e.ax.set i y.1⟩:an),y.2,true)else none else none)=_;rw[nB (by omega),cd hd,List.length_set,rH];rfl
theorem TQ{N:Nat}{e:an}(h:En N e)(k:Kn)(rec:an→et→akd (an×akc×Bool))(hr:∀x∈e.ax,∀q,rec x (kn q)=some (r3 (iG x q) x)):
 ∀(l:akb an)(i:Nat),e.ax.drop i=l→uv N e (kn k) rec l i=some (r3 (jt iG e k i l) e)
 |[],i,_=>rfl
 |x::l,i,hd=>by
  have hx:x∈e.ax:=ajA (cd hd);have hl:=Po h.node;rw[uv,aeb h,ajm,hr x hx,ajm,jt];cases hf:iG x (rh e k i)with
  |none=>exact TQ h k rec hr l (i+1) (ji hd)
  |some y=>
   show(bif Nat.ble (e.ax.length*160) 140737488355328 then Option.bind (e.ax[i]?) fun v10=>bif Nat.beq (e.ax.set i y.1).length e.ax.length then some ((⟨e.ar,e.aV,e.ba,e.aC,e.aK,e.xIdx,e.ax.set i y.1⟩:an),y.2,true)else none else none)=_;rw[nB (by omega),cd hd,List.length_set,rH];rfl
theorem S2(N:Nat):∀(d:Nat)(e:an)(k:Kn),SizeOf.sizeOf e<d→En N e→ss N d e k=some (r3 (iG e k) e)
 |0,_,_,h,_=>absurd h (ajP _)
 |d+1,e,k,hd,h=>by
  have hw:=ZC h k;rw[ss,hw,ajm,Qz];cases mD e k with
  |some y=>rfl
  |none=>exact V2 h k _ (fun x hx q=>S2 N d x q (by have:=fy hx;omega) (h.arg hx)) e.ax 0 rfl
theorem QN(N:Nat):∀(d:Nat)(e:an)(k:Kn),SizeOf.sizeOf e<d→En N e→qN N d e (kn k)=some (r3 (iG e k) e)
 |0,_,_,h,_=>absurd h (ajP _)
 |d+1,e,k,hd,h=>by
  rw[qN,agH h,ajm,Qz];cases mD e k with
  |some y=>rfl
  |none=>exact TQ h k _ (fun x hx q=>QN N d x q (by have:=fy hx;omega) (h.arg hx)) e.ax 0 rfl
structure nbN(e:an):Prop where
 idx:e.xIdx.length≤1000000
 each:∀x∈e.xIdx,J4 x
 args:e.ax.length≤1000000
structure Iv(e:an):Prop where
 nb:∀y∈cQ e,nbN y
 fZ:∀y∈cQ e,y.aK.xL.length≤1000000
 t:jE e=0→W wT e≤600000
theorem Iv.bd{e:an}(h:Iv e):tz e:=fun y hy=>⟨h.fZ y hy,(h.nb y hy).idx,(h.nb y hy).each,(h.nb y hy).args⟩
theorem S5{w:an→Nat}:∀{l:akb an}{y:an},y∈l→w y≤(l.map w).sum
 |x::l,y,h=>by
  rw[ajM,List.sum_cons];rcases ajR.1 h with rfl|h
  ·omega
  ·have:=S5 (w:=w) h;omega
theorem RW{w:an→Nat}{B:Nat}:∀{l:akb an},(∀y∈l,w y≤B)→(l.map w).sum≤l.length*B
 |[],_=>Nat.zero_le _
 |x::l,h=>by
  rw[ajM,List.sum_cons,ajq];have:=RW (w:=w) fun y hy=>h y (ajw x hy);have:=h x ajt;rw[Nat.succ_mul];omega
theorem afr{w:an→Nat}{B:Nat}{e:an}(h:∀y∈cQ e,w y≤B)(hv:jE e=0):W w e≤2000*B:=by
 have h1:=RW h;have h2:=(GX hv).2.2;have h3:(cQ e).length*B≤2000*B:=Nat.mul_le_mul_right _ h2;exact ajF h1 h3
theorem Iv.step{t:aD}{e x:an}{s:akc}(h:Iv e)(hs:ln t e=some (x,s)):Iv x:=by
 have hv:=(Lm hs).2.1;have ht:W wT x≤W wT e:=W6 aiT afo hs;have h6:=h.t hv;refine⟨ZR (fun t v=>⟨Nat.zero_le _,fun x hx=>(by cases hx),Nat.zero_le _⟩) (fun l=>⟨Nat.zero_le _,fun x hx=>(by cases hx),Nat.zero_le _⟩) (fun op l _ hl=>⟨Nat.zero_le _,fun x hx=>(by cases hx),ajF hl (by decide)⟩) (fun e i x hb=>⟨hb.idx,hb.each,by show(e.ax.set i x).length≤_;rw[List.length_set];exact hb.args⟩) hs h.nb,fun y hy=> ?_,fun _=>by omega⟩;have:wT y≤W wT x:=S5 hy;exact ajF this (by omega)
theorem Iv.en{N:Nat}{e:an}(h:Iv e)(hv:jE e=0)(hN:9223372036854775808<N)(hs:8*SizeOf.sizeOf e+16≤N):En N e:=
 ⟨hN,hs,(GX hv).1,ajF (h.t hv) (by decide)⟩
theorem Y7{N:Nat}{t:aD}{e:an}(h:Iv e)(hN:9223372036854775808<N)(hs:8*SizeOf.sizeOf e+16≤N)(hx:∀x s,ln t e=some (x,s)→SizeOf.sizeOf x<N):vZ N t e=some (r3 (ln t e) e):=by
 have hb:=h.bd;unfold vZ;rw[od,Ye N (Nat.lt_trans (by decide) hN) e hb.ok,Tx,KT N e (by omega) hb];have fD:ln t e=bif cO t&&jE e==0 then iG e ⟨t,!eu e⟩else none:=rfl;cases ht:cO t with
 |false=>rw[fD,ht];rfl
 |true=>
  cases hv:jE e==0 with
  |false=>
   rw[fD,ht,hv];simp only[ajm,cond_true,bne_self_eq_false,cond_false,fu,hv];rfl
  |true=>
   have mT:jE e=0:=by simpa using hv
   have E:=h.en mT hN hs;simp only[ajm,cond_true,bne_self_eq_false,cond_false,fu,hv,Bool.not_true];have hf:=S2 N N e ⟨t,!eu e⟩ (by omega) E;have Ht:ln t e=iG e ⟨t,!eu e⟩:=by rw[fD,ht,hv];rfl
   unfold NS;rw[hf,ajm,Ht];cases hr:iG e ⟨t,!eu e⟩with
   |none=>
    show Option.bind (tP N e) _=_;rw[KT N e (by omega) hb];rfl
   |some y=>
    have cp:ln t e=some (y.1,y.2):=by rw[Ht,hr]
    show Option.bind (tP N y.1) _=_;rw[KT N y.1 (hx y.1 y.2 cp) (h.step cp).bd];rfl
theorem agL{N:Nat}{t:aD}{e:an}(h:Iv e)(hN:9223372036854775808<N)(hs:8*SizeOf.sizeOf e+16≤N):DN N t e=some (r3 (ln t e) e):=by
 have hb:=h.bd;unfold DN HT;rw[sf,aey N (Nat.lt_trans (by decide) hN) e (by omega) hb.ok,Ul];have fD:ln t e=bif cO t&&jE e==0 then iG e ⟨t,!eu e⟩else none:=rfl;cases ht:cO t with
 |false=>rw[fD,ht];rfl
 |true=>
  cases hv:jE e==0 with
  |false=>
   rw[fD,ht,hv];simp only[ajm,cond_true,fu,hv]<;>rfl
  |true=>
   have mT:jE e=0:=by simpa using hv
   have E:=h.en mT hN hs;simp only[ajm,cond_true,cond_false,fu,hv,Bool.not_true];have hf:=QN N N e ⟨t,!eu e⟩ (by omega) E;have hf':qN N N e ⟨t,!eu e⟩=some (r3 (iG e ⟨t,!eu e⟩) e):=hf;have Ht:ln t e=iG e ⟨t,!eu e⟩:=by rw[fD,ht,hv];rfl
   unfold Mf;rw[hf',ajm,Ht]
theorem Xa(n:Nat):zP (n+3000)=some true:=by kernel_rfl
theorem lr.iv{e:an}(h:lr 300 e):Iv e:=by
 refine⟨fun y hy=> ?_,fun y hy=>ajF (h y hy).fZ (by decide),fun hv=>afr (w:=wT) (B:=300) (fun y hy=>(h y hy).fZ) hv⟩;have H:=h y hy;exact⟨ajF H.idx (by decide),fun x hx=>⟨ajF (H.each x hx).fZ (by decide),ajF (H.each x hx).at_ (by decide),fun l hl=>ajF ((H.each x hx).y6 l hl) (by decide)⟩,ajF H.args (by decide)⟩
noncomputable def FO(t:aD)(e:an):Nat:=match ln t e with|some y=>SizeOf.sizeOf y.1|none=>0
theorem agV(N:Nat)(t:aD)(e:an)(hN:9223372036854775808<N)(hl:lr xM e)(hs:8*SizeOf.sizeOf e+16≤N)(hx:3*FO t e+3<N):H7 N t e=some true:=by
 have ex:zP N=some true:=by
  obtain⟨n,rfl⟩:∃n,N=n+3000:=⟨N-3000,by omega⟩;exact Xa n
 obtain⟨w,w1,w2,w3,w4⟩:=WJ N N e 300 (by decide) (by omega) hl;unfold H7 Oh;have YL:lZ N N e 300=some (w:Int):=w1;rw[YL,ajm,ex];by_cases hw:w≤300
 ·have hI:=(w4 hw).iv;rw[aj5 (show ¬(w:Int)>300 by omega)];simp only[cond_false];rw[Y7 hI hN hs (fun x s h=>by unfold FO at hx;rw[h]at hx;dsimp only at hx;omega),agL hI hN hs,ajm,ajm];unfold FO at hx;cases fD:ln t e with
  |none=>
   show Option.bind (jB N e e) _=_;rw[zl e (by omega),Si.2 rfl,ajm];simp only[r3,aj6,cond_true,ajm]
  |some y=>
   rw[fD]at hx;show Option.bind (jB N y.1 y.1) _=_;rw[zl y.1 (by dsimp only at hx;omega),Si.2 rfl,ajm];simp only[r3,aj6,cond_true,ajm]
 ·rw[aj4 (show(w:Int)>300 by omega)];rfl
def u7(k:IntKind)(n:Int):Prop:=k.min≤n∧n≤k.max
theorem Gt{n:Int}(h:u7 .i64 n):∃m:Int64,n=m.toInt:=by
 refine⟨Int64.ofInt n,?_⟩;have h1:aS n=n:=by
  unfold aS;rw[IntKind.wrap_i64];have h2: -9223372036854775808≤n:=h.1;have h3:n≤9223372036854775807:=h.2;omega
 rw[Int64.toInt_ofInt,←xw];exact h1.symm
theorem Wh{p:akb D}:∀{l:akb (akb D)},p∈l→SizeOf.sizeOf p≤SizeOf.sizeOf l.flatten
 |[],h=>by cases h
 |q::l,h=>by
  have app:∀a b:akb D,SizeOf.sizeOf a≤SizeOf.sizeOf (a++b)∧SizeOf.sizeOf b≤SizeOf.sizeOf (a++b):=by
   intro a b
   induction a with
   |nil=>cases b<;>simp only[List.nil_append,List.nil.sizeOf_spec,List.cons.sizeOf_spec]<;>omega
   |cons x a ih=>simp only[List.cons_append,List.cons.sizeOf_spec];omega
  rw[List.flatten_cons];rcases ajR.1 h with rfl|h
  ·exact(app _ _).1
  ·exact ajF (Wh h) (app _ _).2
structure T9(x:ay):Prop where
 h0:True
 h1:True
theorem ab2{xs:akb D}(h:eJ Tryz.prog 25 xs):∃x:ay,xs=IV x∧T9 x:=by
 obtain⟨parts,rfl,hl,hx⟩:=h.yv Tryz.underlying25
 match parts,hl with
 |[a0,a1],_=>
 obtain⟨p9,rfl,nw⟩:=(hx 0 _ _ rfl rfl).oP Tryz.underlying2;obtain⟨NR,rfl⟩:=Gt nw;obtain⟨qU,rfl,nP⟩:=(hx 1 _ _ rfl rfl).oP Tryz.underlying2;obtain⟨K6,rfl⟩:=Gt nP;exact⟨⟨NR,K6⟩,rfl,⟨trivial,trivial⟩⟩
structure NJ(x:aD):Prop where
 h0:u7 .i64 x.a8
 h1:u7 .i64 x.bz
 h2:u7 .i64 x.bE
 h3:u7 .i64 x.bK
 h4:u7 .i64 x.bI
theorem WK{xs:akb D}(h:eJ Tryz.prog 23 xs):∃x:aD,xs=agQ x∧NJ x:=by
 obtain⟨parts,rfl,hl,hx⟩:=h.yv Tryz.underlying23
 match parts,hl with
 |[a0,a1,a2,a3,a4],_=>
 obtain⟨p9,rfl,nw⟩:=(hx 0 _ _ rfl rfl).oP Tryz.underlying3;obtain⟨qU,rfl,nP⟩:=(hx 1 _ _ rfl rfl).oP Tryz.underlying3;obtain⟨Dy,rfl,Fl⟩:=(hx 2 _ _ rfl rfl).oP Tryz.underlying3;obtain⟨LN,rfl,Ng⟩:=(hx 3 _ _ rfl rfl).oP Tryz.underlying3;obtain⟨L3,rfl,Nf⟩:=(hx 4 _ _ rfl rfl).oP Tryz.underlying3;exact⟨⟨p9,qU,Dy,LN,L3⟩,rfl,⟨nw,nP,Fl,Ng,Nf⟩⟩
structure FD(x:aU):Prop where
 h0:x.aV.size≤maxLen
 h1:True
theorem ac7{xs:akb D}(h:eJ Tryz.prog 114 xs):∃x:aU,xs=wH x∧FD x:=by
 obtain⟨parts,rfl,hl,hx⟩:=h.yv Tryz.underlying114
 match parts,hl with
 |[a0,a1],_=>
 obtain⟨p9,rfl,nw⟩:=(hx 0 _ _ rfl rfl).Nd Tryz.underlying9;obtain⟨qU,rfl,nP⟩:=(hx 1 _ _ rfl rfl).oP Tryz.underlying2;obtain⟨K6,rfl⟩:=Gt nP;exact⟨⟨p9,K6⟩,rfl,⟨nw,trivial⟩⟩
theorem ado{xs:akb D}(h:eJ Tryz.prog 26 xs):∃l:akb aU,xs=[.sl (bZ l)]∧(l.length≤140737488355328∧∀a∈l,FD a):=by
 obtain⟨l,rfl,hl,hs⟩:=h.FI Tryz.underlying26;obtain⟨r,rfl,hr⟩:=Ea (f:=wH) (Q:=fun a=>FD a) l (fun x hx=>ac7 (hs x hx));exact⟨r,by rw[pR],by simpa using hl,hr⟩
structure AQ(x:aF):Prop where
 h0:True
 h1:x.xL.length≤140737488355328∧∀a∈x.xL,FD a
theorem OE{xs:akb D}(h:eJ Tryz.prog 28 xs):∃x:aF,xs=jc x∧AQ x:=by
 obtain⟨parts,rfl,hl,hx⟩:=h.yv Tryz.underlying28
 match parts,hl with
 |[a0,a1],_=>
 obtain⟨p9,rfl,nw⟩:=(hx 0 _ _ rfl rfl).oP Tryz.underlying2;obtain⟨NR,rfl⟩:=Gt nw;obtain⟨qU,rfl,nP⟩:=ado (hx 1 _ _ rfl rfl);exact⟨⟨NR,qU⟩,rfl,⟨trivial,nP⟩⟩
theorem aix{xs:akb D}(h:eJ Tryz.prog 58 xs):∃l:akb aF,xs=[.sl (du l)]∧(l.length≤140737488355328∧∀a∈l,AQ a):=by
 obtain⟨l,rfl,hl,hs⟩:=h.FI Tryz.underlying58;obtain⟨r,rfl,hr⟩:=Ea (f:=jc) (Q:=fun a=>AQ a) l (fun x hx=>OE (hs x hx));exact⟨r,by rw[qo],by simpa using hl,hr⟩
structure JH(x:aI):Prop where
 h0:AQ x.aK
 h1:x.bU.size≤maxLen
 h2:x.bC.length≤140737488355328∧∀a∈x.bC,AQ a
theorem aeD{xs:akb D}(h:eJ Tryz.prog 60 xs):∃x:aI,xs=eO x∧JH x:=by
 obtain⟨parts,rfl,hl,hx⟩:=h.yv Tryz.underlying60
 match parts,hl with
 |[a0,a1,a2],_=>
 obtain⟨p9,rfl,nw⟩:=OE (hx 0 _ _ rfl rfl);obtain⟨qU,rfl,nP⟩:=(hx 1 _ _ rfl rfl).Nd Tryz.underlying9;obtain⟨Dy,rfl,Fl⟩:=aix (hx 2 _ _ rfl rfl);exact⟨⟨p9,qU,Dy⟩,rfl,⟨nw,nP,Fl⟩⟩
theorem ah9{xs:akb D}(h:eJ Tryz.prog 29 xs):∃l:akb aI,xs=[.sl (cl l)]∧(l.length≤140737488355328∧∀a∈l,JH a):=by
 obtain⟨l,rfl,hl,hs⟩:=h.FI Tryz.underlying29;obtain⟨r,rfl,hr⟩:=Ea (f:=eO) (Q:=fun a=>JH a) l (fun x hx=>aeD (hs x hx));exact⟨r,by rw[qD],by simpa using hl,hr⟩
inductive wZ:an→Prop
 |mk (x:an) (h0:u7 .i64 x.ar) (h1:x.aV.size≤maxLen) (h2:T9 x.ba) (h3:NJ x.aC) (h4:AQ x.aK) (h5:x.xIdx.length≤140737488355328∧∀a∈x.xIdx,JH a) (h6:x.ax.length≤140737488355328) (g6:∀a∈x.ax,wZ a):wZ x
theorem WB:∀(n:Nat)(xs:akb D),SizeOf.sizeOf xs<n→eJ Tryz.prog 32 xs→∃x:an,xs=cF x∧wZ x
 |0,_,h,_=>absurd h (ajP _)
 |n+1,xs,hn,h=>by
  obtain⟨parts,rfl,hl,hx⟩:=h.yv Tryz.underlying32
  match parts,hl with
  |[a0,a1,a2,a3,a4,a5,a6],_=>
  obtain⟨p9,rfl,nw⟩:=(hx 0 _ _ rfl rfl).oP Tryz.underlying3;obtain⟨qU,rfl,nP⟩:=(hx 1 _ _ rfl rfl).Nd Tryz.underlying9;obtain⟨Dy,rfl,Fl⟩:=ab2 (hx 2 _ _ rfl rfl);obtain⟨LN,rfl,Ng⟩:=WK (hx 3 _ _ rfl rfl);obtain⟨L3,rfl,Nf⟩:=OE (hx 4 _ _ rfl rfl);obtain⟨Yb,rfl,agy⟩:=ah9 (hx 5 _ _ rfl rfl);obtain⟨l_,rfl,aiq,hs_⟩:=(hx 6 _ _ rfl rfl).FI Tryz.underlying30;obtain⟨r_,rfl,Xb⟩:=Ea (f:=cF) (Q:=wZ) l_ (fun x hx=>WB n x (by have h1:=List.sizeOf_lt_of_mem hx;have h2:SizeOf.sizeOf [D.sl l_]<n+1:=Nat.lt_of_le_of_lt (Wh (by simp)) hn;simp only[List.cons.sizeOf_spec,D.sl.sizeOf_spec,List.nil.sizeOf_spec]at h2;omega) (hs_ x hx));refine⟨⟨p9,qU,Dy,LN,L3,Yb,r_⟩,?_, .mk _ nw nP Fl Ng Nf agy (by simpa using aiq) Xb⟩;show _=cF _;unfold cF;rw[eR];rfl
theorem XD{xs:akb D}(h:eJ Tryz.prog 32 xs):∃x:an,xs=cF x∧wZ x:=WB _ xs (aj9 _) h
def adu:akb TypeId:=[2,3,4,9,23,25,26,28,29,30,32,47,48,49,50,52,58,60,96,98,100,102,104,114]
theorem PF:Kp Tryz.prog adu=true:=by kernel_rfl
theorem ab4{e:an}(h:wZ e):lr xM e:=by
 induction h with
 |mk x h0 h1 h2 h3 h4 h5 h6 g6 ih=>
  intro y hy;rcases ajR.1 hy with rfl|hy
  ·exact⟨h4.h1.1,h5.1,fun z hz=>⟨(h5.2 z hz).h0.h1.1,(h5.2 z hz).h2.1,fun l hl=>((h5.2 z hz).h2.2 l hl).h1.1⟩,h6⟩
  ·obtain⟨a,ha,hy⟩:=Bg hy;exact ih a ha y hy
theorem W7(t:aD)(e:an)(_:NJ t)(h:wZ e):aG Tryz.prog 3 [b4 t,aA e] (·= .d (.v (.bool true))):=
 aat (9223372036854775900+8*SizeOf.sizeOf e+3*FO t e) t e true (agV _ t e (by omega) (ab4 h) (by omega) (by omega))
end Go.Proofs.YtpgmcallngdceaaGreatDoor
