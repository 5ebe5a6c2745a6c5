/-
  Part 21 of the proof: SmVF, SmK, SmL, SmM, SmN, SmO, SmP, SmQ, SmX, OpenT, SmExprAbs.
-/
import Derived.Test.YtpgmcallngdceaaGreatDoorSe20
namespace Go.Proofs.YtpgmcallngdceaaGreatDoor
open Go.RowKit
set_option maxRecDepth 100000
set_option linter.unusedSimpArgs false
set_option linter.unusedVariables false
theorem afN{n d:Int}: -(n.natAbs:Int)≤n.tdiv d*d∧n.tdiv d*d≤(n.natAbs:Int):=by
 have h:(n.tdiv d*d).natAbs≤n.natAbs:=by rw[Int.natAbs_mul,Int.natAbs_tdiv];exact Nat.div_mul_le_self _ _
 omega
theorem Jt(N:Nat)(n d:Int64)(hd:0<d.toInt)(b1: -4611686025000000000≤n.toInt)(b2:n.toInt≤4611686025000000000):
 tN N n d=some (Int64.ofInt (n.toInt / d.toInt)):=by
 have t1:=PA (a:=n.toInt) (b:=d.toInt);have t2:=afN (n:=n.toInt) (d:=d.toInt);have q1:(Int64.ofInt (n.toInt.tdiv d.toInt)).toInt=n.toInt.tdiv d.toInt:=gM (by omega) (by omega);have q2:((Int64.ofInt (n.toInt.tdiv d.toInt))*d).toInt=n.toInt.tdiv d.toInt*d.toInt:=by
  rw[pG]<;>rw[q1]<;>omega
 have q3:((Int64.ofInt (n.toInt.tdiv d.toInt))-(1:Int64)).toInt=n.toInt.tdiv d.toInt-1:=by
  rw[nh]<;>rw[q1,show(1:Int64).toInt=1 from rfl]<;>omega
 have key:=PV (n:=n.toInt) hd;unfold tN;rw[bne_iff_ne.2 (show d.toInt≠0 by omega),q2];simp only[cond_true];cases hz:decide (n.toInt.tdiv d.toInt*d.toInt>n.toInt)with
 |true=>
  rw[hz]at key;simp only[cond_true]at key ⊢
  congr 1
  exact oT (q3.trans key)
 |false=>
  rw[hz]at key;simp only[cond_false]at key ⊢;rw[←key]
theorem M3{n d B:Int}(hd:0<d)(hB:0≤B)(h1: -B≤n)(h2:n≤B): -B≤n / d∧n / d≤B∧n-d<n / d*d∧n / d*d≤n:=by
 have e:=Int.mul_ediv_add_emod n d;have e1:=Int.emod_nonneg n (show d≠0 by omega);have e2:=Int.emod_lt_of_pos n hd;rw[Int.mul_comm]at e;refine⟨?_,?_,by omega,by omega⟩
 ·refine Int.le_ediv_of_mul_le hd ?_;have:B*1≤B*d:=Int.mul_le_mul_of_nonneg_left (by omega) hB;rw[Int.neg_mul];omega
 ·by_cases h:0≤n
  ·exact Int.le_trans (Int.ediv_le_self _ h) h2
  ·exact Int.le_trans (Int.le_of_lt (Int.ediv_neg_of_neg_of_pos (by omega) hd)) hB
theorem LI(N:Nat)(n d:Int64)(how:Int)(hd:0<d.toInt)(l8:d.toInt≤4294967296)(b1: -4611686018427387904≤n.toInt)(b2:n.toInt≤4611686018427387904):
 vu N n d how=some (Int64.ofInt (gB n.toInt d.toInt how)):=by
 obtain⟨k1,k2,k3,k4⟩:=M3 hd (B:=4611686018427387904) (by decide) b1 b2;have q0:(Int64.ofInt (n.toInt / d.toInt)).toInt=n.toInt / d.toInt:=gM (by omega) (by omega);have q1:(Int64.ofInt (n.toInt / d.toInt)*d).toInt=n.toInt / d.toInt*d.toInt:=by rw[pG]<;>rw[q0]<;>omega
 have q2:(n-Int64.ofInt (n.toInt / d.toInt)*d).toInt=n.toInt-n.toInt / d.toInt*d.toInt:=by rw[nh]<;>rw[q1]<;>omega
 have q3:(d-(n-Int64.ofInt (n.toInt / d.toInt)*d)).toInt=d.toInt-(n.toInt-n.toInt / d.toInt*d.toInt):=by rw[nh]<;>rw[q2]<;>omega
 have q4:Int64.ofInt (n.toInt / d.toInt)+(1:Int64)=Int64.ofInt (n.toInt / d.toInt+1):=oT (by rw[s8]<;>rw[q0,show(1:Int64).toInt=1 from rfl]<;>omega);have q5:(Int64.ofInt ((n.toInt / d.toInt).tmod 2)).toInt=(n.toInt / d.toInt).tmod 2:=by
  have:=KX (a:=n.toInt / d.toInt) (b:=2) (by decide);exact gM (by omega) (by omega)
 rw[←Zx how (n:=n.toInt) (d:=d.toInt) (q:=n.toInt / d.toInt) (rest:=n.toInt-n.toInt / d.toInt*d.toInt) rfl rfl];unfold vu;rw[Jt N n d hd (by omega) (by omega),ake,q2,q3,q0,q5,q4,iF,ake];generalize n.toInt-n.toInt / d.toInt*d.toInt=rest;generalize n.toInt / d.toInt=q;cases (rest==0||how==1)with
 |true=>rfl
 |false=>
  simp only[cond_false];cases how==2 with
  |true=>rfl
  |false=>
   simp only[cond_false];cases how==3 with
   |true=>simp only[cond_true];cases decide (n.toInt<0)<;>rfl
   |false=>
    simp only[cond_false];rw[dq,iF,ake];cases (decide (rest>d.toInt-rest)||(rest==d.toInt-rest&&q.tmod 2 !=0))<;>rfl
theorem agL(a b:Int64):(nH a b).toInt=max a.toInt b.toInt:=by unfold nH;split<;>omega
theorem afn(a b:Int64):(tb a b).toInt=min a.toInt b.toInt:=by unfold tb;split<;>omega
theorem Bi(N:Nat){t:aC}(F:ra t)(n:Int64)(b1: -4611686018427387905≤n.toInt)(b2:n.toInt≤4611686018427387905):pR N t n=some (jG t n.toInt):=by
 obtain⟨f1,f2,f3,f4,f5,f6⟩:=JC F.b1 F.b2;obtain⟨h1,h2⟩:=H4 F;have mW:(-(Int64.ofInt ((1:Int)*2^(min ((IntKind.u64.wrap (aQ (t.bz-(1:Int))))).toNat (IntKind.bits .i64)))))=Int64.ofInt (-b8 t):=oT f3;have yz:((Int64.ofInt ((1:Int)*2^(min ((IntKind.u64.wrap (aQ (t.bz-(1:Int))))).toNat (IntKind.bits .i64))))-(1:Int64))=Int64.ofInt (b8 t-1):=oT f4;have hf0:(Int64.ofInt ((1:Int)*2^(min ((IntKind.u64.wrap (aQ (t.bz-(1:Int))))).toNat (IntKind.bits .i64))))=Int64.ofInt (b8 t):=by
  have a1:=congrArg Int64.toInt yz;have a2:=f4;have e:∀x:Int64,(x-1).toInt=b8 t-1→x=Int64.ofInt (b8 t):=fun x hx=>by
   refine oT ?_;rw[I2,show(1:Int64).toInt=1 from rfl,IntKind.wrap_i64]at hx;have:=iU x;omega
  exact e _ f4
 have e0:(Int64.ofInt (b8 t)).toInt=b8 t:=gM (by omega) (by omega);have e1:(Int64.ofInt (-b8 t)).toInt= -b8 t:=gM (by omega) (by omega);have e2:(Int64.ofInt (b8 t-1)).toInt=b8 t-1:=gM (by omega) (by omega);have J:∀z:Int64,z.toInt=n.toInt∧(t.bM==2)=false∨(z.toInt=mv true (b8 t) n.toInt∧(t.bM==2)=true)→Be N t z=some (jG t n.toInt):=fun z hz=>by
  unfold Be;rw[mW,yz];unfold jG
  congr 1
  refine y9 ?_ rfl;show(nH (Int64.ofInt (-b8 t)) (tb (Int64.ofInt (b8 t-1)) z)).toInt=(Int64.ofInt (mv (t.bM==2) (b8 t) n.toInt)).toInt;have hb:=Zt (w:=t.bM==2) (h:=b8 t) (n:=n.toInt) (by omega);rw[agL,afn,e1,e2,gM (by omega) (by omega)];rcases hz with⟨hz,ho⟩|⟨hz,ho⟩
  ·rw[hz,ho];rfl
  ·rw[ho]at hb ⊢;rw[hz];omega
 unfold pR;rw[f1];simp only[cond_true];cases ho:t.bM==2 with
 |false=>exact J n (.inl ⟨rfl,ho⟩)
 |true=>
  simp only[cond_true];rw[hf0];have a1:(n+Int64.ofInt (b8 t)).toInt=n.toInt+b8 t:=by rw[s8]<;>rw[e0]<;>omega
  have a2:((2:Int64)*Int64.ofInt (b8 t)).toInt=2*b8 t:=by rw[pG]<;>rw[e0,show(2:Int64).toInt=2 from rfl]<;>omega
  rw[Jt N _ _ (by rw[a2];omega) (by rw[a1];omega) (by rw[a1];omega),ake,a1,a2];obtain⟨k1,k2,k3,k4⟩:=M3 (n:=n.toInt+b8 t) (d:=2*b8 t) (B:=4611686025000000000) (by omega) (by decide) (by omega) (by omega);have a3:(Int64.ofInt ((n.toInt+b8 t)/(2*b8 t))).toInt=(n.toInt+b8 t)/(2*b8 t):=gM (by omega) (by omega);have hq:(n.toInt+b8 t)/(2*b8 t)*(2*b8 t)=(n.toInt+b8 t)/(2*b8 t)*2*b8 t:=by rw[Int.mul_assoc]
  have hm:(n.toInt+b8 t)%(2*b8 t)=n.toInt+b8 t-(n.toInt+b8 t)/(2*b8 t)*(2*b8 t):=by
   rw[Int.emod_def,Int.mul_comm]
  have pc:2≤b8 t→-4611686025000000000≤(n.toInt+b8 t)/(2*b8 t)*2∧(n.toInt+b8 t)/(2*b8 t)*2≤4611686025000000000:=fun hh=>by
   have z1:(n.toInt+b8 t)/(2*b8 t)*2≤(n.toInt+b8 t).natAbs:=by
    by_cases hp:0≤(n.toInt+b8 t)/(2*b8 t)
    ·have:(n.toInt+b8 t)/(2*b8 t)*2≤(n.toInt+b8 t)/(2*b8 t)*(2*b8 t):=Int.mul_le_mul_of_nonneg_left (by omega) hp;omega
    ·omega
   have z2: -((n.toInt+b8 t).natAbs:Int)-4*b8 t≤(n.toInt+b8 t)/(2*b8 t)*2:=by
    by_cases hp:0≤(n.toInt+b8 t)/(2*b8 t)
    ·omega
    ·have:(n.toInt+b8 t)/(2*b8 t)*(2*b8 t)≤(n.toInt+b8 t)/(2*b8 t)*2:=Int.mul_le_mul_of_nonpos_left (by omega) (by omega);omega
   omega
  obtain⟨z1,z2⟩:=pc h1;have a4:(Int64.ofInt ((n.toInt+b8 t)/(2*b8 t))*(2:Int64)).toInt=(n.toInt+b8 t)/(2*b8 t)*2:=by rw[pG]<;>rw[a3,show(2:Int64).toInt=2 from rfl]<;>omega
  have a5:(Int64.ofInt ((n.toInt+b8 t)/(2*b8 t))*(2:Int64)*Int64.ofInt (b8 t)).toInt=(n.toInt+b8 t)/(2*b8 t)*(2*b8 t):=by
   rw[pG]<;>rw[a4,e0,←hq]<;>omega
  refine J _ (.inr ⟨?_,ho⟩);rw[nh]<;>rw[a5]
  ·unfold mv;simp only[cond_true];rw[hm];omega
  ·omega
  ·omega
theorem Em(N:Nat){t:aC}(F:ra t):q9 N t=some (Int64.ofInt (dX t)):=by
 obtain⟨s1,s2,s3⟩:=An F.f1 F.f2;have s4:(Int64.ofInt ((1:Int)*2^(min (t.xFrac).toNat (IntKind.bits .i64))))=Int64.ofInt (dX t):=oT s2;unfold q9;rw[s1,akW F.f1,s4];rfl
theorem MO{t:aC}(F:ra t):(Int64.ofInt (dX t)).toInt=dX t:=by
 have:=E1 F;exact gM (by omega) (by omega)
theorem aaH(N:Nat){op:Int}{t:aC}{a b:ay}(F:ra t)(A:HI t a)(B:op≠8→HI t b):EB N op t a.xN b.xN=some (DZ op t a.xN.toInt b.xN.toInt):=by
 have a1:=n5 F A;have S:=E1 F;have s:=MO F;unfold EB DZ;by_cases h8:op=8
 ·subst h8;have e:(-a.xN).toInt= -a.xN.toInt:=pj (by omega);rw[show((8:Int)==4)=false from rfl,show((8:Int)==5)=false from rfl,show((8:Int)==6)=false from rfl,show((8:Int)==8)=true from rfl];simp only[cond_false,cond_true];rw[Bi N F _ (by rw[e];omega) (by rw[e];omega),e];rfl
 have b1:=n5 F (B h8);rw[beq_false_of_ne h8];cases op==4 with
 |true=>
  have e:=s8 (a:=a.xN) (b:=b.xN) (by omega) (by omega);simp only[cond_true];rw[Bi N F _ (by rw[e];omega) (by rw[e];omega),e];rfl
 |false=>
  simp only[cond_false];cases op==5 with
  |true=>
   have e:=nh (a:=a.xN) (b:=b.xN) (by omega) (by omega);simp only[cond_true];rw[Bi N F _ (by rw[e];omega) (by rw[e];omega),e];rfl
  |false=>
   simp only[cond_false];cases op==6 with
   |true=>
    have M:=uY a1.1 a1.2 b1.1 b1.2;have e:=pG (a:=a.xN) (b:=b.xN) (by omega) (by omega);simp only[cond_true];rw[Em N F,ake,LI N _ _ _ (by rw[s];omega) (by rw[s];omega) (by rw[e];omega) (by rw[e];omega),ake,e,s];have r:=Ii (n:=a.xN.toInt*b.xN.toInt) (d:=dX t) (how:=t.bK) (B:=4611686018427387904) (by omega) (by decide) (by omega) (by omega);have r2:=xe (n:=a.xN.toInt*b.xN.toInt) (d:=dX t) (how:=t.bK) (by omega) (by omega) (by omega);rw[Bi N F _ (by rw[r2];omega) (by rw[r2];omega),r2];rfl
   |false=>
    simp only[cond_false];by_cases hb:b.xN.toInt=0
    ·rw[hb];rfl
    ·rw[beq_false_of_ne hb];simp only[cond_false];have M:=uY a1.1 a1.2 (show-1073741824≤dX t by omega) S.2;have J:∀x y:Int64,0<y.toInt→y.toInt≤1073741824→-1073741824≤x.toInt→x.toInt≤1073741824→yY N t x y=some (jG t (gB (x.toInt*dX t) y.toInt t.bK),0):=fun x y y0 y1 x0 x1=>by
       have M:=uY x0 x1 (show-1073741824≤dX t by omega) S.2;have e:(x*Int64.ofInt (dX t)).toInt=x.toInt*dX t:=by rw[pG]<;>rw[s]<;>omega
       unfold yY;rw[Em N F,ake,LI N _ _ _ (by omega) (by omega) (by rw[e];omega) (by rw[e];omega),ake,e];have r:=Ii (n:=x.toInt*dX t) (d:=y.toInt) (how:=t.bK) (B:=4611686018427387904) (by omega) (by decide) (by omega) (by omega);have r2:=xe (n:=x.toInt*dX t) (d:=y.toInt) (how:=t.bK) (by omega) (by omega) (by omega);rw[Bi N F _ (by rw[r2];omega) (by rw[r2];omega),r2];rfl
     unfold oa;by_cases rN:b.xN.toInt<0
     ·have ea:(-a.xN).toInt= -a.xN.toInt:=pj (by omega);have eb:(-b.xN).toInt= -b.xN.toInt:=pj (by omega);rw[akW rN];simp only[cond_true];rw[J _ _ (by rw[eb];omega) (by rw[eb];omega) (by rw[ea];omega) (by rw[ea];omega),ea,eb,Int.neg_mul]
     ·rw[akX rN];simp only[cond_false];rw[J _ _ (by omega) (by omega) (by omega) (by omega)]
theorem agh(N:Nat){op:Int}{a b:Int64}(h1: -2147483647≤a.toInt)(h2:a.toInt≤2147483647)(hb:op≠8→-2147483647≤b.toInt∧b.toInt≤2147483647)(ho:4≤op∧op≤8):
 CD N op a b=some (td op a.toInt b.toInt):=by
 have fin:∀(z:Int64)(n:Int),z.toInt=n→(Option.bind (bif (decide (z.toInt>(2147483647:Int)))then some true else some (decide (z.toInt<(-2147483647:Int)))) fun v=>bif v then some (bg,(3:Int))else some ((⟨z,(1:Int64)⟩:ay),(0:Int)))=some (bif decide (-2147483647≤n)&&decide (n≤2147483647)then(⟨Int64.ofInt n,1⟩,0)else(bg,3)):=fun z n hz=>by
  subst hz;rw[iF,ake,Kd];by_cases c1:z.toInt>2147483647
  ·rw[akW c1,akX (show ¬z.toInt≤2147483647 by omega),Bool.and_false];rfl
  ·rw[akX c1,akW (show z.toInt≤2147483647 by omega),Bool.and_true];by_cases c2:z.toInt< -2147483647
   ·rw[akW c2,akX (show ¬-2147483647≤z.toInt by omega)];rfl
   ·rw[akX c2,akW (show-2147483647≤z.toInt by omega)];rfl
 unfold CD td;rcases (by omega:op=4∨op=5∨op=6∨op=7∨op=8)with rfl|rfl|rfl|rfl|rfl
 ·obtain⟨h3,h4⟩:=hb (by decide);exact fin _ _ (s8 (a:=a) (b:=b) (by omega) (by omega))
 ·obtain⟨h3,h4⟩:=hb (by decide);exact fin _ _ (nh (a:=a) (b:=b) (by omega) (by omega))
 ·obtain⟨h3,h4⟩:=hb (by decide);exact fin _ _ (gJ h1 h2 h3 h4)
 ·obtain⟨h3,h4⟩:=hb (by decide);show(bif b.toInt==0 then some (bg,(4:Int))else _)=some (bif true&&b.toInt==0 then(bg,4)else bif decide (-2147483647≤k8 a.toInt b.toInt)&&decide (k8 a.toInt b.toInt≤2147483647)then(⟨Int64.ofInt (k8 a.toInt b.toInt),1⟩,0)else(bg,3));by_cases mU:b.toInt=0
  ·rw[mU];rfl
  ·rw[beq_false_of_ne mU];simp only[cond_false,Bool.and_false];have J:∀x y:Int64,0<y.toInt→-2147483647≤x.toInt→x.toInt≤2147483647→k8 a.toInt b.toInt=x.toInt / y.toInt→zn N x y=some (bif decide (-2147483647≤k8 a.toInt b.toInt)&&decide (k8 a.toInt b.toInt≤2147483647)then(⟨Int64.ofInt (k8 a.toInt b.toInt),1⟩,0)else(bg,3)):=fun x y y0 x0 x1 hf=>by
     unfold zn;obtain⟨k1,k2,k3,k4⟩:=M3 (n:=x.toInt) (d:=y.toInt) (B:=2147483647) y0 (by decide) (by omega) (by omega);rw[Jt N x y y0 (by omega) (by omega),ake,hf];exact fin _ _ (gM (by omega) (by omega))
   by_cases rN:b.toInt<0
   ·have ea:(-a).toInt= -a.toInt:=pj (by omega);have eb:(-b).toInt= -b.toInt:=pj (by omega);rw[akW rN];exact J _ _ (by rw[eb];omega) (by rw[ea];omega) (by rw[ea];omega) (by unfold k8;rw[akW rN,ea,eb];rfl)
   ·rw[akX rN];exact J _ _ (by omega) (by omega) (by omega) (by unfold k8;rw[akX rN];rfl)
 ·exact fin _ _ (pj (by omega))
theorem nW(N:Nat)(hN:2147483648<N)(v:ay):kH N v=some (cZ sZ v):=by
 unfold kH;have h:=rU N hN sZ v Mm;have h':mA N ⟨1,0,0,0,0⟩ v=some (cZ sZ v):=h;rw[h'];rfl
theorem Tw(N:Nat)(v:Int64):yj N v=some ((v.toInt.natAbs:Nat):Int):=by
 unfold yj;have hb:=iU v;by_cases h:v.toInt<0
 ·have e1:(v+(1:Int64)).toInt=v.toInt+1:=by rw[s8]<;>rw[show(1:Int64).toInt=1 from rfl]<;>omega
  have e2:(-(v+(1:Int64))).toInt= -(v.toInt+1):=by rw[pj]<;>rw[e1];omega
  rw[akW h,e2];simp only[cond_true,jK]
  congr 1
  omega
 ·rw[akX h];simp only[cond_false,jK]
  congr 1
  omega
theorem XB(N:Nat):∀(k a b:Nat),b<k→yB N k (a:Int) (b:Int)=some ((Nat.gcd a b:Nat):Int)
 |0,a,b,h=>absurd h (akH _)
 |k+1,a,b,h=>by
  rw[yB];by_cases h0:b=0
  ·subst h0;simp
  ·rw[show(((b:Nat):Int) !=(0:Int))=true by rw[bne_iff_ne];omega];simp only[cond_true];rw[←Int.ofNat_tmod,XB N k b (a%b) (by have:=Nat.mod_lt a (Nat.pos_of_ne_zero h0);omega)];rw[Nat.gcd_comm a b,Nat.gcd_rec b a,Nat.gcd_comm]
theorem D8(N:Nat)(hN:9223372036854775808<N)(n d:Int64):rV N n d=some (gS n.toInt d.toInt):=by
 have h:=Aa N hN n d;unfold o7 xh at h;rw[CO,CO]at h;unfold rV Kc GR;rw[Tw,Tw];have hdd:=iU d;by_cases hd:d.toInt=0
 ·rw[hd]at h ⊢;exact h
 ·rw[beq_false_of_ne hd]at h ⊢;simp only[cond_false,ake]at h ⊢;rw[JM N N _ _ (by omega)]at h;rw[XB N N _ _ (by omega)];simp only[ake]at h ⊢;have hg:0<Nat.gcd n.toInt.natAbs d.toInt.natAbs:=Nat.gcd_pos_of_pos_right _ (by omega);rw[show(((Nat.gcd n.toInt.natAbs d.toInt.natAbs:Nat):Int) !=0)=true by rw[bne_iff_ne];omega]at h ⊢;simp only[cond_true]at h ⊢;rw[iF,ake]at h ⊢;cases hc:(decide (IntKind.u64.wrap (((n.toInt.natAbs:Nat):Int).tdiv ((Nat.gcd n.toInt.natAbs d.toInt.natAbs:Nat):Int))>2147483647)||decide (IntKind.u64.wrap (((d.toInt.natAbs:Nat):Int).tdiv ((Nat.gcd n.toInt.natAbs d.toInt.natAbs:Nat):Int))>2147483647))with
  |true=>rw[hc]at h;exact h
  |false=>
   rw[hc]at h;simp only[cond_false]at h ⊢;cases hs:(decide (n.toInt<0)==decide (d.toInt<0))with
   |true=>rw[hs]at h;exact h
   |false=>rw[hs]at h;exact h
theorem aba{N:Nat}(hN:9223372036854775808<N){a b:ay}(A:eX a)(B:eX b):FK N a b=some (gS (a.xN.toInt*b.xD.toInt+b.xN.toInt*a.xD.toInt) (a.xD.toInt*b.xD.toInt)):=by
 unfold FK;rw[nW N (by omega),nW N (by omega),A.ok,B.ok,D8 N hN,Qn A B,gJ A.d0 A.d2 B.d0 B.d2];rfl
theorem ajP{N:Nat}(hN:9223372036854775808<N){a b:ay}(A:eX a)(B:eX b):Eg N a b=some (gS (a.xN.toInt*b.xD.toInt-b.xN.toInt*a.xD.toInt) (a.xD.toInt*b.xD.toInt)):=by
 unfold Eg;rw[nW N (by omega),nW N (by omega),A.ok,B.ok,D8 N hN,S4 A B,gJ A.d0 A.d2 B.d0 B.d2];rfl
theorem aaf{N:Nat}(hN:9223372036854775808<N){a b:ay}(A:eX a)(B:eX b):D5 N a b=some (gS (a.xN.toInt*b.xN.toInt) (a.xD.toInt*b.xD.toInt)):=by
 unfold D5;rw[nW N (by omega),nW N (by omega),A.ok,B.ok,D8 N hN,gJ A.n1 A.n2 B.n1 B.n2,gJ A.d0 A.d2 B.d0 B.d2];rfl
theorem ajz{N:Nat}(hN:9223372036854775808<N){a b:ay}(A:eX a)(B:eX b):Dx N a b=some (gS (a.xN.toInt*b.xD.toInt) (a.xD.toInt*b.xN.toInt)):=by
 unfold Dx;rw[nW N (by omega),nW N (by omega),A.ok,B.ok,D8 N hN,gJ A.n1 A.n2 B.d0 B.d2,gJ A.d0 A.d2 B.n1 B.n2];rfl
theorem ahR{N:Nat}(hN:2147483648<N){a:ay}(A:eX a):Ft N a=some ⟨-a.xN,a.xD⟩:=by
 unfold Ft;rw[nW N hN,A.ok];rfl
theorem ZF(N:Nat)(a b:Int64):vW N a b=some (l5 a.toInt b.toInt):=by
 unfold vW l5;cases decide (a.toInt<b.toInt)
 ·cases decide (a.toInt>b.toInt)<;>rfl
 ·rfl
theorem uA{t:aC}{v:ay}(ht:cS t=true)(hv:cZ t v=true):eX v:=by
 by_cases hk:t.a8=2
 ·have F:=ie ht hk;have A:=jP hv hk;have B:=n5 F A;have d:=A.d;exact⟨by omega,by omega,by omega,by omega,by rw[d];exact Nat.gcd_one_right _⟩
 ·exact mJ hv hk
theorem Li(N:Nat)(hN:2147483648<N)(t:aC)(a b:ay):yV N t a b=some (ke t a b):=by
 unfold yV Ek ke;rw[sW];cases ht:cS t with
 |false=>rfl
 |true=>
  simp only[ake,cond_true];rw[rU N hN t a ht,rU N hN t b ht];cases ha:cZ t a with
  |false=>rfl
  |true=>
   cases hb:cZ t b with
   |false=>rfl
   |true=>
    have A:=uA ht ha;have B:=uA ht hb;simp only[ake,cond_true,Bool.not_true,cond_false,Bool.and_self];unfold Il;rw[nW N hN,nW N hN,A.ok,B.ok];simp only[ake,cond_true];rw[ZF,gJ A.n1 A.n2 B.d0 B.d2,gJ B.n1 B.n2 A.d0 A.d2];cases hk:t.a8==1 with
    |true=>rfl
    |false=>
     have da:a.xD.toInt=1:=by
      rcases kinds ht with h|h|h
      ·rw[h]at hk;cases hk
      ·exact(jP ha h).d
      ·exact B3 ha h
     have db:b.xD.toInt=1:=by
      rcases kinds ht with h|h|h
      ·rw[h]at hk;cases hk
      ·exact(jP hb h).d
      ·exact B3 hb h
     rw[da,db,Int.mul_one,Int.mul_one];rfl
theorem SQ(N:Nat)(hN:9223372036854775808<N)(op:Int)(t:aC)(a b:ay):sy N op t a b=some (rp op t a b):=by
 have kr:2147483648<N:=Nat.lt_trans (by decide) hN;unfold sy rp;rw[iF,ake,sW,ake];by_cases h4:op<4
 ·rw[akW h4];rfl
 by_cases az:op≤10
 ·rw[akX h4,akX (show ¬op>10 by omega)];simp only[Bool.or_self,cond_false];cases ht:cS t with
  |false=>rfl
  |true=>
   simp only[cond_true,Bool.not_true,cond_false];rw[rU N kr t a ht,rU N kr t b ht];cases ha:cZ t a with
   |false=>rfl
   |true=>
    have A:=uA ht ha;simp only[ake,cond_true,Bool.not_true,Bool.false_or];rw[fE,dq,ake];have jX:(!(op==8)&& !cZ t b)=false→op≠8→cZ t b=true:=fun h h8=>by
     rw[beq_false_of_ne h8]at h
     simpa using h
    cases hc:(!(op==8)&& !cZ t b)with
    |true=>rfl
    |false=>
     have hb:=jX hc;simp only[cond_false];rw[iF,ake];by_cases h9:op=9
     ·subst h9;rw[Li N kr t a b];simp only[akY,Bool.true_or,cond_true,ake];cases decide (ke t a b>0)<;>rfl
     ·by_cases h1:op=10
      ·subst h1;have hb:=hb (by decide);rw[Li N kr t a b];rw[show((10:Int)==9)=false from rfl,show((10:Int)==10)=true from rfl];simp only[Bool.or_true,cond_true,ake,cond_false];by_cases c0:ke t a b>0
       ·rw[akW c0,akX (show ¬ke t a b<0 by omega)];rfl
       ·by_cases c1:ke t a b<0
        ·rw[akX c0,akW c1];rfl
        ·have e:=aiz ht ha hb (by omega);subst e;rw[akX c0,akX c1];rfl
      ·rw[beq_false_of_ne h9,beq_false_of_ne h1];simp only[Bool.or_self,cond_false];rcases kinds ht with hk|hk|hk
       ·rw[hk,show((1:Int)==2)=false from rfl,show((1:Int)==3)=false from rfl];simp only[cond_false];unfold vG;rcases (by omega:op=4∨op=5∨op=6∨op=7∨op=8)with rfl|rfl|rfl|rfl|rfl
        ·have B:=uA ht (hb (by decide));rw[aba hN A B];rfl
        ·have B:=uA ht (hb (by decide));rw[ajP hN A B];rfl
        ·have B:=uA ht (hb (by decide));rw[aaf hN A B];rfl
        ·have B:=uA ht (hb (by decide));rw[ajz hN A B];rfl
        ·rw[ahR kr A];rfl
       ·rw[hk,show((2:Int)==2)=true from rfl];simp only[cond_true];rw[aaH N (ie ht hk) (jP ha hk) fun h8=>jP (hb h8) hk];rfl
       ·rw[hk,show((3:Int)==2)=false from rfl,show((3:Int)==3)=true from rfl];simp only[cond_true,cond_false];rw[agh N A.n1 A.n2 (fun h8=>by have B:=uA ht (hb h8);exact⟨B.n1,B.n2⟩) (by omega)];rfl
 ·rw[akW (show op>10 by omega),Bool.or_true];rfl
theorem ag7(N:Nat)(hN:9223372036854775808<N){t:aC}{v:ay}(ht:cS t=true):CX N t v=some (kL t v):=by
 unfold CX Bz kL;cases hk:t.a8==2 with
 |false=>rfl
 |true=>
  have F:=ie ht (by simpa using hk);simp only[cond_true];rw[Em N F,ake,D8 N hN,MO F];rfl
theorem aiV(N:Nat)(hN:9223372036854775808<N)(t u:aC)(v:ay):A8 N t u v=some (vY t u v):=by
 have kr:2147483648<N:=Nat.lt_trans (by decide) hN;unfold A8 vY;rw[sW,sW];cases ht:cS t with
 |false=>rfl
 |true=>
  cases hu:cS u with
  |false=>rfl
  |true=>
   simp only[ake,cond_true,cond_false,Bool.not_true,Bool.or_self];rw[rU N kr t v ht];cases hv:cZ t v with
   |false=>rfl
   |true=>
    simp only[ake,cond_true,Bool.not_true,cond_false];have V:=Qk ht hv;have n1:=V.n1;have n2:=V.n2;have d1:=V.d1;have d2:=V.d2;rw[ag7 N hN ht,ake];rcases kinds hu with hk|hk|hk
    ·rw[hk];rfl
    ·have F:=ie hu hk;have S:=E1 F;have s:=MO F;have M:=uY n1 n2 (show-1073741824≤dX u by omega) S.2;have e:((kL t v).xN*Int64.ofInt (dX u)).toInt=(kL t v).xN.toInt*dX u:=by rw[pG]<;>rw[s]<;>omega
     rw[hk,show((2:Int)==3)=false from rfl,show((2:Int)==2)=true from rfl];simp only[cond_true,cond_false];rw[Em N F,ake,LI N _ _ _ (by omega) (by omega) (by rw[e];omega) (by rw[e];omega),ake,e];have r:=Ii (n:=(kL t v).xN.toInt*dX u) (d:=(kL t v).xD.toInt) (how:=u.bK) (B:=4611686018427387904) (by omega) (by decide) (by omega) (by omega);have r2:=xe (n:=(kL t v).xN.toInt*dX u) (d:=(kL t v).xD.toInt) (how:=u.bK) (by omega) (by omega) (by omega);rw[Bi N F _ (by rw[r2];omega) (by rw[r2];omega),r2];rfl
    ·rw[hk,show((3:Int)==3)=true from rfl];simp only[cond_true];rw[Jt N _ _ (by omega) (by omega) (by omega)];rfl
theorem W0(N:Nat)(t:aC):wV N t=some (pZ t):=by
 unfold wV pZ;rw[sW];cases cS t<;>rfl
theorem Qo(N:Nat)(hN:2147483648<N)(t:aC):vb N t=some (ig t):=by
 unfold vb ig EF;rw[sW];cases ht:cS t with
 |false=>rfl
 |true=>
  simp only[ake,cond_true,cond_false,Bool.not_true];cases hk:t.a8==2 with
  |false=>
   simp only[cond_false];rw[rU N hN t _ ht,show Int64.ofInt 1=(1:Int64)from rfl];cases cZ t ⟨1,1⟩<;>rfl
  |true=>
   have F:=ie ht (by simpa using hk);simp only[cond_true];rw[Em N F,ake,rU N hN t _ ht];cases cZ t ⟨Int64.ofInt (dX t),1⟩<;>rfl
structure En(N:Nat)(e:an):Prop where
 hN:9223372036854775808<N
 sz:8*SizeOf.sizeOf e+16≤N
 v:vE e
 t:W wT e≤800000
theorem En.arg{N:Nat}{e x:an}(h:En N e)(hx:x∈e.ax):En N x:=
 ⟨h.hN,by have:=h.sz;have:=fw hx;omega,h.v.arg hx,by have:=h.t;rw[cD]at this;have:=jz (w:=wT) hx;omega⟩
theorem En.Ay{N:Nat}{e:an}(h:En N e):2147483648<N:=Nat.lt_trans (by decide) h.hN
theorem En.node{N:Nat}{e:an}(h:En N e):u7 e:=HC (h.v e (rG e))
inductive Sh:an→Prop
 |leaf {op:Int} {n v t l i}:op=1∨op=2∨op=3→Sh ⟨op,n,v,t,l,i,[]⟩
 |one {op:Int} {n v t l i a}:op=8∨op=12∨op=18→Sh ⟨op,n,v,t,l,i,[a]⟩
 |two {op:Int} {n v t l i a b}:op=4∨op=5∨op=6∨op=7∨op=9∨op=10∨op=13∨op=14∨op=15∨op=16∨op=17→Sh ⟨op,n,v,t,l,i,[a,b]⟩
 |three {op:Int} {n v t l i c a b}:op=11→Sh ⟨op,n,v,t,l,i,[c,a,b]⟩
theorem Fb{n:Nat}{l:ak3 an}(h:l.length=n):(n=0→l=[])∧(n=1→∃a,l=[a])∧(n=2→∃a b,l=[a,b])∧(n=3→∃a b c,l=[a,b,c]):=by
 subst h
 match l with
 |[]=>simp
 |[a]=>simp
 |[a,b]=>simp
 |[a,b,c]=>simp
 |_::_::_::_::_=>simp
theorem ft{e:an}(h:u7 e):Sh e:=by
 have hp:=h.plain;have hr:=h.R7;unfold mF at hp;unfold mS at hr;simp only[akh,decide_eq_true_eq,beq_iff_eq]at hp hr;obtain⟨o1,o2,_⟩:=hp;obtain⟨r,_⟩:=hr;obtain⟨op,n,v,t,l,i,al⟩:=e;simp only at o1 o2 r;have key:∀k:Nat,kf op=(k:Int)→al.length=k:=fun k hk=>by rw[hk]at r;omega
 rcases (by omega:(op=1∨op=2∨op=3)∨(op=8∨op=12∨op=18)∨(op=4∨op=5∨op=6∨op=7∨op=9∨op=10∨op=13∨op=14∨op=15∨op=16∨op=17)∨op=11)with h1|h1|h1|h1
 ·have:=(Fb (key 0 (by rcases h1 with rfl|rfl|rfl<;>rfl))).1 rfl;subst this;exact .leaf h1
 ·obtain⟨a,rfl⟩:=(Fb (key 1 (by rcases h1 with rfl|rfl|rfl<;>rfl))).2.1 rfl;exact .one h1
 ·obtain⟨a,b,rfl⟩:=(Fb (key 2 (by rcases h1 with rfl|rfl|rfl|rfl|rfl|rfl|rfl|rfl|rfl|rfl|rfl<;>rfl))).2.2.1 rfl;exact .two h1
 ·obtain⟨c,a,b,rfl⟩:=(Fb (key 3 (by subst h1;rfl))).2.2.2 rfl;exact .three h1
theorem GZ{N:Nat}{a:an}(b:an)(h:3*SizeOf.sizeOf a+3≤N):nf N a b=some (ij a b):=by
 obtain⟨c,e1,e2⟩:=Wl N (SizeOf.sizeOf a+1) a b N (ak1 _) (by omega);unfold nf NJ;rw[e1,ake,e2];rfl
theorem EY{N:Nat}{a:an}(b:an)(h:3*SizeOf.sizeOf a+3≤N):jk N a b=some (ij a b):=U8 N (SizeOf.sizeOf a+1) a b N (ak1 _) (by omega)
def kn(t:Kn):eC:=⟨t.yT,t.dn⟩
theorem RF(a b:aC):((a.a8==b.a8)&&((a.bz==b.bz)&&((a.xFrac==b.xFrac)&&((a.bK==b.bK)&&((a.bM==b.bM)&&true)))))=ew a b:=rfl
theorem T3(N:Nat):∀(n:Nat)(e:an),SizeOf.sizeOf e<n→vE e→∀d,SizeOf.sizeOf e<d→j7 N d e=some (cP e)
 |0,_,h,_,_,_=>absurd h (akH _)
 |n+1,e,hn,hv,d,hd=>by
  obtain⟨d,rfl⟩:∃k,d=k+1:=⟨d-1,by omega⟩;have ih:∀x∈e.ax,j7 N d x=some (cP x):=fun x hx=>T3 N n x (by have:=fw hx;omega) (hv.arg hx) d (by have:=fw hx;omega);have sh:=ft (HC (hv e (rG e)));rw[j7,V0];clear hn hd hv;cases sh with
  |leaf h=>rcases h with rfl|rfl|rfl<;>rfl
  |one h=>
   rename_i a
   have i1:=ih a (by simp);rcases h with rfl|rfl|rfl
   ·show Option.bind (j7 N d a) _=some (cP a);rw[i1];rfl
   ·rfl
   ·rfl
  |two h=>
   rename_i a b
   have i1:=ih a (by simp);have i2:=ih b (by simp);have J:Option.bind (j7 N d a) (fun v12=>Option.bind (some b) fun aX=>Option.bind (j7 N d aX) fun bu=>Option.bind (sm N v12 bu) fun bN=>some bN)=some (bif (cP a).dn then cP a else cP b):=by
    rw[i1,ake,ake,i2,ake];unfold sm;cases (cP a).dn<;>rfl
   rcases h with rfl|rfl|rfl|rfl|rfl|rfl|rfl|rfl|rfl|rfl|rfl
   ·exact J
   ·exact J
   ·exact J
   ·exact J
   ·exact J
   ·exact J
   all_goals rfl
  |three h=>
   rename_i c a b
   have i1:=ih a (by simp);have i2:=ih b (by simp);subst h;show Option.bind (j7 N d a) (fun v6=>Option.bind (bif v6.dn then Option.bind (j7 N d b) _ else some false) _)=some (bif true&&((cP a).dn&&((cP b).dn&&ew (cP a).yT (cP b).yT))then cP a else j6);rw[i1,ake,i2];generalize cP a=A;generalize cP b=B;obtain⟨At,Ak⟩:=A;obtain⟨Bt,Bk⟩:=B;dsimp only;cases Ak with
   |false=>rfl
   |true=>
    simp only[cond_true,ake,RF];cases Bk<;>cases ew At Bt<;>rfl
theorem Kb(N:Nat):∀(n:Nat)(e:an),SizeOf.sizeOf e<n→vE e→∀d,2*SizeOf.sizeOf e<d→kI N d e=some (kn (cP e))
 |0,_,h,_,_,_=>absurd h (akH _)
 |n+1,e,hn,hv,d,hd=>by
  have hp:0<SizeOf.sizeOf e:=by cases e;simp only[an.mk.sizeOf_spec];omega
  obtain⟨d,rfl⟩:∃k,d=k+2:=⟨d-2,by omega⟩;have ih:∀x∈e.ax,∀k,k=d∨k=d+1→kI N k x=some (kn (cP x)):=fun x hx k hk=>Kb N n x (by have:=fw hx;omega) (hv.arg hx) k (by have:=fw hx;omega);have sh:=ft (HC (hv e (rG e)));rw[kI,V0];clear hn hd hv hp;cases sh with
  |leaf h=>rcases h with rfl|rfl|rfl<;>rfl
  |one h=>
   rename_i a
   have i1:=ih a (by simp) _ (.inr rfl);rcases h with rfl|rfl|rfl
   ·show Option.bind (kI N (d+1) a) _=some (kn (cP a));rw[i1];rfl
   ·rfl
   ·rfl
  |two h=>
   rename_i a b
   have i1:=ih a (by simp) _ (.inl rfl);have i2:=ih b (by simp) _ (.inl rfl);have J:Option.bind (rL N (d+1) a b) (fun v8=>some v8)=some (kn (bif (cP a).dn then cP a else cP b)):=by
    rw[rL,i1,ake,i2,ake];generalize cP a=A;obtain⟨At,Ak⟩:=A;cases Ak<;>rfl
   rcases h with rfl|rfl|rfl|rfl|rfl|rfl|rfl|rfl|rfl|rfl|rfl
   ·exact J
   ·exact J
   ·exact J
   ·exact J
   ·exact J
   ·exact J
   all_goals rfl
  |three h=>
   rename_i c a b
   have i1:=ih a (by simp) _ (.inr rfl);have i2:=ih b (by simp) _ (.inr rfl);subst h;show Option.bind (kI N (d+1) a) (fun v10=>Option.bind (kI N (d+1) b) _)=some (kn (bif true&&((cP a).dn&&((cP b).dn&&ew (cP a).yT (cP b).yT))then cP a else j6));rw[i1,ake,i2];generalize cP a=A;generalize cP b=B;obtain⟨At,Ak⟩:=A;obtain⟨Bt,Bk⟩:=B;unfold kn;dsimp only;simp only[ake,RF];cases Ak<;>cases Bk<;>cases ew At Bt<;>rfl
theorem H5{N:Nat}{e:an}(h:En N e):pA N e=some (cP e):=T3 N _ e (ak1 _) h.v N (by have:=h.sz;omega)
theorem UD{N:Nat}{e:an}(h:En N e):g_brocaderef21_derived N e=some (kn (cP e)):=Kb N _ e (ak1 _) h.v N (by have:=h.sz;omega)
theorem ac0{N:Nat}{a b:an}(h:En N a)(h2:En N b):Fj N a b=some (kn (w5 a b)):=by
 obtain⟨M,hM⟩:∃M,N=M+1:=⟨N-1,by have:=h.sz;omega⟩;unfold Fj;have e1:=Kb N _ a (ak1 _) h.v M (by have:=h.sz;omega);have e2:=Kb N _ b (ak1 _) h2.v M (by have:=h2.sz;omega);have:rL N (M+1) a b=some (kn (w5 a b)):=by
  rw[rL,e1,ake,e2,ake];unfold w5;generalize cP a=A;obtain⟨At,Ak⟩:=A;cases Ak<;>rfl
 rw[←hM]at this;exact this
theorem aa9{N:Nat}{a b:an}(h:En N a)(h2:En N b):(Option.bind (pA N a) fun v7=>Option.bind (some b) fun v8=>Option.bind (pA N v8) fun v9=>Option.bind (sm N v7 v9) fun v10=>some v10)=some (w5 a b):=by
 rw[H5 h,ake,ake,H5 h2,ake];unfold sm w5;cases (cP a).dn<;>rfl
theorem PT(i:Nat):decide ((i:Int)>0)= !(i==0):=by
 by_cases h:i=0
 ·subst h;rfl
 ·rw[akW (by omega),beq_false_of_ne h];rfl
theorem agu{N:Nat}{e:an}(h:En N e)(k:Kn)(i:Nat):HE N e k (i:Int)=some (qm e k i):=by
 have A:∀x∈e.ax,En N x:=fun x hx=>h.arg hx;have sh:=ft h.node;clear h;unfold qm;cases sh with
 |leaf h=>rcases h with rfl|rfl|rfl<;>rfl
 |one h=>
  rename_i a
  have i1:=H5 (A a (by simp));rcases h with rfl|rfl|rfl
  ·rfl
  ·show Option.bind (pA N a) _=some (cP a);rw[i1];rfl
  ·rfl
 |two h=>
  rename_i a b
  have i1:=aa9 (A a (by simp)) (A b (by simp));rcases h with rfl|rfl|rfl|rfl|rfl|rfl|rfl|rfl|rfl|rfl|rfl
  ·rfl
  ·rfl
  ·rfl
  ·rfl
  ·rfl
  ·rfl
  ·exact i1
  ·exact i1
  ·exact i1
  ·rfl
  ·rfl
 |three h=>
  subst h;show(bif decide ((i:Int)>0)then some k else some EC)=some (bif (false||(false||(true&& !(i==0))))then k else j6);rw[PT];cases i==0<;>rfl
theorem ac8{N:Nat}{e:an}(h:En N e)(k:Kn)(i:Nat):G8 N e (i:Int) (kn k)=some (kn (qm e k i)):=by
 have A:∀x∈e.ax,En N x:=fun x hx=>h.arg hx;have sh:=ft h.node;clear h;unfold qm;cases sh with
 |leaf h=>rcases h with rfl|rfl|rfl<;>rfl
 |one h=>
  rename_i a
  have i1:=UD (A a (by simp));rcases h with rfl|rfl|rfl
  ·rfl
  ·show Option.bind (g_brocaderef21_derived N a) _=some (kn (cP a));rw[i1];rfl
  ·rfl
 |two h=>
  rename_i a b
  have i1:Option.bind (Fj N a b) (fun v8=>some v8)=some (kn (w5 a b)):=by rw[ac0 (A a (by simp)) (A b (by simp))];rfl
  rcases h with rfl|rfl|rfl|rfl|rfl|rfl|rfl|rfl|rfl|rfl|rfl
  ·rfl
  ·rfl
  ·rfl
  ·rfl
  ·rfl
  ·rfl
  ·exact i1
  ·exact i1
  ·exact i1
  ·rfl
  ·rfl
 |three h=>
  subst h;show Option.bind (some (decide ((i:Int)>0))) (fun v4=>bif v4 then some (kn k)else some F5)=some (kn (bif (false||(false||(true&& !(i==0))))then k else j6));rw[PT];cases i==0<;>rfl
def cr(e:an):aF×Bool:=match jq e with|some l=>(l,true)|none=>(bV,false)
theorem H3(N:Nat)(e:an):oh N e=some (cr e):=by
 unfold oh cr jq HN;rw[dq,ake];cases e.ar==2 with
 |true=>rfl
 |false=>
  simp only[cond_false];cases (e.ar==1&&e.aD.a8==3)<;>rfl
theorem N4(N:Nat)(e:an):kQ N e=some (gG e):=by
 unfold kQ gG;rw[dq];rfl
theorem Kj(N:Nat)(e:an):∃l,oH N e=some (l,(cr e).2)∧((cr e).2=true→l=(cr e).1):=by
 unfold oH;rw[N4,ake];unfold cr jq;have hw:gG e=(e.ar==1&&e.aD.a8==3):=rfl;cases h2:e.ar==2 with
 |true=>
  have:(e.ar==1)=false:=by
   have:e.ar=2:=by simpa using h2
   rw[this];rfl
  rw[hw,this];exact⟨e.aM,rfl,fun _=>rfl⟩
 |false=>
  rw[hw];cases (e.ar==1&&e.aD.a8==3)with
  |true=>exact⟨_,rfl,fun _=>rfl⟩
  |false=>exact⟨e.aM,rfl,fun h=>by cases h⟩
theorem QJ(e:an):(cr e).1.xL.length≤wT e:=by
 unfold cr;cases h:jq e with
 |some l=>exact Mh h
 |none=>exact Nat.zero_le _
theorem CG(e:an):wT e≤W wT e:=by rw[cD];exact akU _ _
def gD(f g:aF):aF×Bool:=match lg f g with| .ok d=>(d,true)| .error _=>(bV,false)
theorem K3(e:Er):(e.code==0)=false:=by cases e<;>rfl
theorem QL(N:Nat)(hN:1000000<N){f g:aF}(h:f.xL.length+g.xL.length≤800000):uU N f g=some (gD f g):=by
 unfold uU gD lg;rw[Pd N (by omega) g (-1) (show g.xL.length≤1000000000 by omega),ake];cases hs:jj g (-1)with
 |error e=>show(bif e.code !=0 then _ else _)=_;rw[Er.ne e];rfl
 |ok q=>
  have hl:=Ar hs;show(bif (0:Int) !=0 then _ else Option.bind (tY N f q) _)=_;rw[SZ N (by omega) f q (by omega) (by omega)]
  change _=some (match jW f q with| .ok d=>(d,true)| .error _=>(bV,false))
  cases jW f q with
  |error e=>show some (bV,e.code==0)=_;rw[K3]
  |ok d=>rfl
theorem Qz(N:Nat)(hN:1000000<N){f g:aF}(h:f.xL.length+g.xL.length≤800000):sr N f g=some (gD f g):=by
 unfold sr gD lg;rw[NA N (by omega) g (-1) (show g.xL.length≤1000000000 by omega),ake];cases hs:jj g (-1)with
 |error e=>show(bif e.code !=0 then _ else _)=_;rw[Er.ne e];rfl
 |ok q=>
  have hl:=Ar hs;show(bif (0:Int) !=0 then _ else Option.bind (qo N f q) _)=_;rw[Sz N hN f q (by omega)]
  change _=some (match jW f q with| .ok d=>(d,true)| .error _=>(bV,false))
  cases jW f q with
  |error e=>show some (bV,e.code==0)=_;rw[K3]
  |ok d=>rfl
theorem JO(a b c:Bool):(bif a then(bif b then some c else some false)else some false)=some (a&&(b&&c)):=by cases a<;>cases b<;>rfl
theorem P9(a b:an):Lh a b=bif (cr a).2&&(cr b).2 then(bif (gD (cr a).1 (cr b).1).2&&(gD (cr a).1 (cr b).1).1.xL.length==0 then some (gD (cr a).1 (cr b).1).1.xK else none)else none:=by
 unfold Lh cr;cases jq a with
 |none=>rfl
 |some f=>
  cases jq b with
  |none=>rfl
  |some g=>
   show(match lg f g with| .ok d=>bif d.xL.length==0 then some d.xK else none| .error _=>none)=bif (gD f g).2&&(gD f g).1.xL.length==0 then some (gD f g).1.xK else none;unfold gD;cases lg f g with
   |error e=>rfl
   |ok d=>cases h:d.xL.length==0<;>simp [h]
theorem Sf(N:Nat)(op s:Int):sb N op s=some (sH op s):=by
 unfold sb sH;cases op==13<;>cases op==14<;>rfl
theorem UT(N:Nat){op:Int}(s:Int)(h:op=13∨op=14∨op=15):yl N op s=some (sH op s):=by
 unfold yl sH;rcases h with rfl|rfl|rfl
 ·rfl
 ·cases h:decide (s≤0)<;>simp [h]
 ·cases h:s==0<;>simp [h]
theorem ahJ(k:Int)(f:Int→ak5 (Bool×Bool)):(bif decide (k<0)then f (-1)else bif decide (k>0)then f 1 else f 0)=f (l5 k 0):=by
 unfold l5;cases decide (k<0)with
 |true=>rfl
 |false=>cases decide (k>0)<;>rfl
structure ri(N:Nat)(a b:an):Prop where
 l:En N a
 r:En N b
 t:W wT a+W wT b≤800000
theorem En.two{N:Nat}{op:Int}{n v t l i a b}(h:En N ⟨op,n,v,t,l,i,[a,b]⟩):ri N a b:=
 ⟨h.arg (by simp),h.arg (by simp),by have:=h.t;rw[cD]at this;have e:WL wT [a,b]=W wT a+W wT b:=fj wT a b;change _+WL wT [a,b]≤_ at this;omega⟩
theorem ri.len{N:Nat}{a b:an}(h:ri N a b):(cr a).1.xL.length+(cr b).1.xL.length≤800000:=by
 have:=QJ a;have:=QJ b;have:=CG a;have:=CG b;have:=h.t;omega
theorem En.rE{N:Nat}{e:an}(h:En N e):1000000<N:=Nat.lt_trans (by decide) h.hN
theorem En.eq{N:Nat}{e:an}(h:En N e):3*SizeOf.sizeOf e+3≤N:=by have:=h.sz;omega
theorem Kt{N:Nat}{op:Int}{n v t l i a b}(h:ri N a b)(hv:cS a.aD=true∨a.ar≠1):tq N ⟨op,n,v,t,l,i,[a,b]⟩=some (mj op a b):=by
 have J:Ah N a b ⟨op,n,v,t,l,i,[a,b]⟩=some (bif ij a b then(!(op==13),true)else(false,false)):=by
  unfold Ah;rw[GZ b h.l.eq,ake];cases ij a b<;>rfl
 unfold tq mj;show Option.bind (bif (a.ar==1)then(bif (b.ar==1)then some (ew a.aD b.aD)else some false)else some false) _=_;rw[JO,ake,P9];cases hc:(a.ar==1&&(b.ar==1&&ew a.aD b.aD))with
 |true=>
  have ha:a.ar=1:=by simp only[akh,beq_iff_eq]at hc;exact hc.1
  have ht:cS a.aD=true:=by
   rcases hv with hv|hv
   ·exact hv
   ·exact absurd ha hv
  simp only[cond_true];rw[TJ N h.l.Ay _ _ _ ht,ake,Sf];rfl
 |false=>
  simp only[cond_false];rw[H3,ake,H3,ake,dq,ake];cases (cr a).2&&(cr b).2 with
  |false=>exact J
  |true=>
   simp only[cond_true];rw[QL N h.l.rE h.len,ake,tB,dq,ake];cases (gD (cr a).1 (cr b).1).2&&(gD (cr a).1 (cr b).1).1.xL.length==0 with
   |false=>exact J
   |true=>
    simp only[cond_true,Sf,ake];exact ahJ _ fun s=>some (sH op s,true)
theorem Ok{N:Nat}{op:Int}{n v t l i a b}(h:ri N a b)(ho:op=13∨op=14∨op=15):ui N ⟨op,n,v,t,l,i,[a,b]⟩=some (mj op a b):=by
 have J:zi N a b ⟨op,n,v,t,l,i,[a,b]⟩=some (bif ij a b then(!(op==13),true)else(false,false)):=by
  unfold zi;rw[EY b h.l.eq,ake];cases ij a b<;>rfl
 have J3:∀s,yu N ⟨op,n,v,t,l,i,[a,b]⟩ s=some (sH op s,true):=fun s=>by
  unfold yu;rw[UT N s ho];rfl
 unfold ui mj;show Option.bind (bif (a.ar==1)then(bif (b.ar==1)then some (ew a.aD b.aD)else some false)else some false) _=_;rw[JO,ake,P9];cases hc:(a.ar==1&&(b.ar==1&&ew a.aD b.aD))with
 |true=>
  simp only[cond_true];rw[Li N h.l.Ay,ake,UT N _ ho];rfl
 |false=>
  simp only[cond_false];obtain⟨l1,e1,f1⟩:=Kj N a;obtain⟨l2,e2,f2⟩:=Kj N b;rw[e1,ake,e2,ake,dq,ake];dsimp only;cases hb:(cr a).2&&(cr b).2 with
  |false=>exact J
  |true=>
   rw[akh]at hb;rw[f1 hb.1,f2 hb.2];simp only[cond_true];rw[Qz N h.l.rE h.len,ake,tB,dq,ake];cases (gD (cr a).1 (cr b).1).2&&(gD (cr a).1 (cr b).1).1.xL.length==0 with
   |false=>exact J
   |true=>
    simp only[cond_true];unfold DW;simp only[J3];generalize (gD (cr a).1 (cr b).1).1.xK.toInt=k;unfold l5;by_cases h1:k<0
    ·rw[akW h1,akX (show ¬k>0 by omega)];rfl
    ·rw[akX h1];cases decide (k>0)<;>rfl
theorem ajE{e:an}(h:u7 e):cS e.aD=true∨e.ar≠1:=by
 have ht:=h.typed;unfold lx at ht;by_cases h1:e.ar=1
 ·rw[h1]at ht;simp at ht;exact .inl ht.1
 ·exact .inr h1
theorem acN{op:Int}{l:ak3 an}:∀{k i:Nat}{x:an},uy op k l=true→l[i]?=some x→eB x=kA op (k+i):=by
 induction l with
 |nil=>intro k i x _ h;cases h
 |cons a l ih=>
  intro k i x h hx;rw[uy,akh,beq_iff_eq]at h;cases i with
  |zero=>cases hx;exact h.1
  |succ i=>
   rw[akQ]at hx;have:=ih h.2 hx
   rwa [show k+1+i=k+(i+1) by omega]at this
theorem u7.arg{e x:an}{i:Nat}(h:u7 e)(hx:e.ax[i]?=some x):eB x=kA e.ar i:=by
 have ht:=h.typed;unfold lx at ht;rw[akh]at ht;have:=acN ht.2 hx
 rwa [akz]at this
theorem Rs{e:an}(h:eB e=true):13≤e.ar:=by
 unfold eB at h;simp only[akh,decide_eq_true_eq]at h;exact h.1
theorem GD(x:Bool)(q r:Bool×Bool):(Option.bind (bif q.2 then(bif (q.1==x)then some true else(bif r.2 then some (r.1==x)else some false))else(bif r.2 then some (r.1==x)else some false)) fun v12=>
 bif v12 then some (x,true)else Option.bind (bif x then(bif q.2 then some (false,r.2)else some (false,false))else(bif q.2 then some (r.2,r.2)else some (false,false))) fun aX=>some (aX.1,aX.2))
 =some (bif (q.2&&q.1==x)||(r.2&&r.1==x)then(x,true)else(!x&&(q.2&&r.2),q.2&&r.2)):=by
 obtain⟨q1,q2⟩:=q;obtain⟨r1,r2⟩:=r;cases x<;>cases q1<;>cases q2<;>cases r1<;>cases r2<;>rfl
theorem Uh(q:Bool×Bool):(Option.bind (bif q.2 then some (!q.1)else some false) fun v6=>some (v6,q.2))=some (q.2&& !q.1,q.2):=by
 obtain⟨q1,q2⟩:=q;cases q1<;>cases q2<;>rfl
theorem WD(N:Nat):∀(n:Nat)(e:an),SizeOf.sizeOf e<n→En N e→eB e=true→∀d,SizeOf.sizeOf e<d→jw N d e=some (et e)
 |0,_,h,_,_,_,_=>absurd h (akH _)
 |n+1,e,hn,hE,hc,d,hd=>by
  obtain⟨d,rfl⟩:∃k,d=k+1:=⟨d-1,by omega⟩;have ih:∀x∈e.ax,eB x=true→jw N d x=some (et x):=fun x hx mn=>WD N n x (by have:=fw hx;omega) (hE.arg hx) mn d (by have:=fw hx;omega);have hA:∀(i:Nat)(x:an),e.ax[i]?=some x→eB x=kA e.ar i:=fun i x hx=>hE.node.arg hx;have hT:∀x∈e.ax,cS x.aD=true∨x.ar≠1:=fun x hx=>ajE (hE.arg hx).node;have sh:=ft hE.node;have ho:=Rs hc;rw[jw,QF];clear hn hd;cases sh with
  |leaf h=>exfalso;dsimp only at ho;omega
  |one h=>
   rename_i a
   have fk:=ho;dsimp only at fk;rcases h with rfl|rfl|rfl
   ·exact absurd fk (by decide)
   ·exact absurd fk (by decide)
   ·have i1:=ih a (by simp) ((hA 0 a rfl).trans rfl);show(Option.bind (jw N d a) fun v5=>Option.bind (bif v5.2 then some (!v5.1)else some false) fun v6=>some (v6,v5.2))=some ((et a).2&& !(et a).1,(et a).2);rw[i1,ake];exact Uh _
  |two h=>
   rename_i a b
   have fk:=ho;dsimp only at fk;have t1:=hT a (by simp);rcases h with rfl|rfl|rfl|rfl|rfl|rfl|rfl|rfl|rfl|rfl|rfl
   ·exact absurd fk (by decide)
   ·exact absurd fk (by decide)
   ·exact absurd fk (by decide)
   ·exact absurd fk (by decide)
   ·exact absurd fk (by decide)
   ·exact absurd fk (by decide)
   ·show Option.bind (tq N _) _=some (mj 13 a b);rw[Kt hE.two t1];rfl
   ·show Option.bind (tq N _) _=some (mj 14 a b);rw[Kt hE.two t1];rfl
   ·show Option.bind (tq N _) _=some (mj 15 a b);rw[Kt hE.two t1];rfl
   ·have i1:=ih a (by simp) ((hA 0 a rfl).trans rfl);have i2:=ih b (by simp) ((hA 1 b rfl).trans rfl);show Option.bind (jw N d a) (fun v9=>Option.bind (jw N d b) _)=_;rw[i1,ake,i2,ake];exact GD false _ _
   ·have i1:=ih a (by simp) ((hA 0 a rfl).trans rfl);have i2:=ih b (by simp) ((hA 1 b rfl).trans rfl);show Option.bind (jw N d a) (fun v9=>Option.bind (jw N d b) _)=_;rw[i1,ake,i2,ake];exact GD true _ _
  |three h=>exfalso;dsimp only at ho;omega
theorem Rr(N:Nat):∀(n:Nat)(e:an),SizeOf.sizeOf e<n→En N e→eB e=true→∀d,SizeOf.sizeOf e<d→kD N d e=some (et e)
 |0,_,h,_,_,_,_=>absurd h (akH _)
 |n+1,e,hn,hE,hc,d,hd=>by
  obtain⟨d,rfl⟩:∃k,d=k+1:=⟨d-1,by omega⟩;have ih:∀x∈e.ax,eB x=true→kD N d x=some (et x):=fun x hx mn=>Rr N n x (by have:=fw hx;omega) (hE.arg hx) mn d (by have:=fw hx;omega);have hA:∀(i:Nat)(x:an),e.ax[i]?=some x→eB x=kA e.ar i:=fun i x hx=>hE.node.arg hx;have sh:=ft hE.node;have ho:=Rs hc;rw[kD,QF];clear hn hd;cases sh with
  |leaf h=>exfalso;dsimp only at ho;omega
  |one h=>
   rename_i a
   have fk:=ho;dsimp only at fk;rcases h with rfl|rfl|rfl
   ·exact absurd fk (by decide)
   ·exact absurd fk (by decide)
   ·have i1:=ih a (by simp) ((hA 0 a rfl).trans rfl);show(Option.bind (kD N d a) fun v5=>Option.bind (bif v5.2 then some (!v5.1)else some false) fun v6=>some (v6,v5.2))=some ((et a).2&& !(et a).1,(et a).2);rw[i1,ake];exact Uh _
  |two h=>
   rename_i a b
   have fk:=ho;dsimp only at fk;rcases h with rfl|rfl|rfl|rfl|rfl|rfl|rfl|rfl|rfl|rfl|rfl
   ·exact absurd fk (by decide)
   ·exact absurd fk (by decide)
   ·exact absurd fk (by decide)
   ·exact absurd fk (by decide)
   ·exact absurd fk (by decide)
   ·exact absurd fk (by decide)
   ·show Option.bind (ui N _) _=some (mj 13 a b);rw[Ok hE.two (by omega)];rfl
   ·show Option.bind (ui N _) _=some (mj 14 a b);rw[Ok hE.two (by omega)];rfl
   ·show Option.bind (ui N _) _=some (mj 15 a b);rw[Ok hE.two (by omega)];rfl
   ·have i1:=ih a (by simp) ((hA 0 a rfl).trans rfl);have i2:=ih b (by simp) ((hA 1 b rfl).trans rfl);show Option.bind (kD N d a) (fun v9=>Option.bind (kD N d b) _)=_;rw[i1,ake,i2,ake];exact GD false _ _
   ·have i1:=ih a (by simp) ((hA 0 a rfl).trans rfl);have i2:=ih b (by simp) ((hA 1 b rfl).trans rfl);show Option.bind (kD N d a) (fun v9=>Option.bind (kD N d b) _)=_;rw[i1,ake,i2,ake];exact GD true _ _
  |three h=>exfalso;dsimp only at ho;omega
theorem DR{N:Nat}{e:an}(h:En N e)(hc:eB e=true):xw N e=some (et e):=WD N _ e (ak1 _) h hc N (by have:=h.sz;omega)
theorem E2{N:Nat}{e:an}(h:En N e)(hc:eB e=true):vT N e=some (et e):=Rr N _ e (ak1 _) h hc N (by have:=h.sz;omega)
def cb(r:ak5 (an×Bool))(o:ak5 an):Prop:=∃x,r=some (x,o.isSome)∧∀y,o=some y→x=y
theorem cb.no{r:ak5 (an×Bool)}{x:an}(h:r=some (x,false)):cb r none:=⟨x,h,fun _ h=>by cases h⟩
theorem cb.yes{r:ak5 (an×Bool)}{x:an}(h:r=some (x,true)):cb r (some x):=⟨x,h,fun _ h=>by cases h;rfl⟩
theorem cb.ite{r:ak5 (an×Bool)}{x:an}{b:Bool}(h:r=some (x,b)):cb r (bif b then some x else none):=by
 cases b
 ·exact .no h
 ·exact .yes h
theorem cb.eta{r:ak5 (an×Bool)}{o:ak5 an}(h:cb r o):cb (Option.bind r fun v=>some (v.1,v.2)) o:=by
 obtain⟨x,rfl,h2⟩:=h;exact⟨x,rfl,h2⟩
theorem cb.gh{l:aF}{o:X aF}(r:ak5 (an×Bool))(h:r=some (mb (qk bV o).1,(qk bV o).2==0)):cb r (iW o):=by
 cases o with
 |ok l=>exact .yes h
 |error e=>exact .no (h.trans (by show some (_,e.code==0)=_;rw[K3]))
theorem cb.gD{f g:aF}{r:ak5 (an×Bool)}(h:r=some (mb (gD f g).1,(gD f g).2)):cb r (iW (lg f g)):=by
 unfold Go.Proofs.YtpgmcallngdceaaGreatDoor.gD at h;cases hm:lg f g with
 |ok l=>rw[hm]at h;exact .yes h
 |error e=>rw[hm]at h;exact .no h
theorem cb.zy{o:X aF}{r:ak5 (an×Bool)}(h:r=some (mb (qk bV o).1,(qk bV o).2==0)):cb r (iW o):=cb.gh (l:=bV) r h
theorem cb.val{t:aC}{o:ay×Int}{r:ak5 (an×Bool)}(h:r=some (fS t o.1,o.2==0)):cb r (pg t o):=cb.ite h
abbrev nd(e:an)(k:Kn):cB:=⟨e,k⟩
theorem aeq(t:aC):ew t t=true:=MS.2 rfl
theorem KD(a b c:Bool):(bif a then some true else(bif b then some true else some c))=some (a||(b||c)):=by cases a<;>cases b<;>rfl
theorem vQ(N:Nat)(hN:9223372036854775808<N)(op:Int)(a b:an):cb (Option.bind (bif (a.ar !=1)then some true else(bif (b.ar !=1)then some true else some (!ew a.aD b.aD))) fun v6=>bif v6 then some (eo,false)else Option.bind (yy N op a.aD a.ba b.ba) fun v7=>Option.bind (oK N a.aD v7.1) fun v8=>some (v8,(v7.2==(0:Int))))
 (bif a.ar==1&&(b.ar==1&&ew a.aD b.aD)then pg a.aD (rp op a.aD a.ba b.ba)else none):=by
 rw[KD,ake,afH N hN,ake];unfold oK;rw[ake,fE,fE];cases a.ar==1 with
 |false=>exact .no rfl
 |true=>
  cases b.ar==1 with
  |false=>exact .no rfl
  |true=>
   cases ew a.aD b.aD with
   |false=>exact .no rfl
   |true=>exact .val rfl
theorem Uf:aQ ((1:Nat)-(1:Int))=0:=by decide
theorem Tz:aQ ((2:Nat)-(1:Int))=1:=by decide
theorem ady{N:Nat}{e:an}(h:En N e)(k:Kn):cb (yo N (nd e k)) (tV e):=by
 have hN:=h.hN;have sh:=ft h.node;clear h;unfold yo tV;cases sh with
 |leaf h=>rcases h with rfl|rfl|rfl<;>exact .no rfl
 |one h=>
  rename_i a
  rcases h with rfl|rfl|rfl
  ·have c:=vQ N hN 8 a a;have e1:aQ ((([a]:ak3 an).length:Int)-1)=0:=Uf;dsimp only at e1 ⊢;rw[e1];have c2:(a.ar==1&&(a.ar==1&&ew a.aD a.aD))=(true&&a.ar==1):=by rw[aeq];cases a.ar==1<;>rfl
   rw[c2]at c;exact c
  ·exact .no rfl
  ·exact .no rfl
 |two h=>
  rename_i a b
  have e1:aQ ((([a,b]:ak3 an).length:Int)-1)=1:=Tz;dsimp only at e1 ⊢;rw[e1];rcases h with rfl|rfl|rfl|rfl|rfl|rfl|rfl|rfl|rfl|rfl|rfl
  ·exact vQ N hN 4 a b
  ·exact vQ N hN 5 a b
  ·exact vQ N hN 6 a b
  ·exact vQ N hN 7 a b
  ·exact vQ N hN 9 a b
  ·exact vQ N hN 10 a b
  all_goals exact .no rfl
 |three h=>subst h;exact .no rfl
theorem zB(N:Nat)(hN:9223372036854775808<N)(op:Int)(a b q:an):cb (Option.bind (bif (a.ar !=1)then some true else(Option.bind (some b) fun v9=>(bif (v9.ar !=1)then some true else some (!ew a.aD v9.aD)))) fun v6=>bif v6 then some (q,false)else Option.bind (sy N op a.aD a.ba b.ba) fun v7=>Option.bind (nA N a.aD v7.1) fun v8=>some (v8,(v7.2==(0:Int))))
 (bif a.ar==1&&(b.ar==1&&ew a.aD b.aD)then pg a.aD (rp op a.aD a.ba b.ba)else none):=by
 rw[ake,KD,ake,SQ N hN,ake];unfold nA;rw[ake,fE,fE];cases a.ar==1 with
 |false=>exact .no rfl
 |true=>
  cases b.ar==1 with
  |false=>exact .no rfl
  |true=>
   cases ew a.aD b.aD with
   |false=>exact .no rfl
   |true=>exact .val rfl
theorem afO{N:Nat}{e:an}(h:En N e):cb (BM N e) (tV e):=by
 have hN:=h.hN;have sh:=ft h.node;clear h;unfold BM tV;cases sh with
 |leaf h=>rcases h with rfl|rfl|rfl<;>exact .no rfl
 |one h=>
  rename_i a
  rcases h with rfl|rfl|rfl
  ·show cb (Option.bind (some (a.ar==1)) _) (bif true&&a.ar==1 then _ else none);rw[ake];cases a.ar==1 with
   |false=>exact .no rfl
   |true=>
    show cb (Option.bind (sy N 8 a.aD a.ba a.ba) _) (pg a.aD (rp 8 a.aD a.ba a.ba));rw[SQ N hN];exact .val rfl
  ·exact .no rfl
  ·exact .no rfl
 |two h=>
  rename_i a b
  rcases h with rfl|rfl|rfl|rfl|rfl|rfl|rfl|rfl|rfl|rfl|rfl
  ·exact zB N hN 4 a b _
  ·exact zB N hN 5 a b _
  ·exact zB N hN 6 a b _
  ·exact zB N hN 7 a b _
  ·exact zB N hN 9 a b _
  ·exact zB N hN 10 a b _
  all_goals exact .no rfl
 |three h=>subst h;exact .no rfl
theorem ac2{N:Nat}{e:an}(h:En N e)(k:Kn):cb (BU N (nd e k)) (uw e):=by
 have hN:=h.hN;have A:∀x∈e.ax,En N x:=fun x hx=>h.arg hx;have sh:=ft h.node;clear h;unfold BU uw;cases sh with
 |leaf h=>rcases h with rfl|rfl|rfl<;>exact .no rfl
 |one h=>
  rename_i nm v t l i a
  rcases h with rfl|rfl|rfl
  ·exact .no rfl
  ·show cb (bif a.ar==1 then Option.bind (Bb N a.aD t a.ba) _ else Option.bind (pA N a) _) (bif a.ar==1 then pg t (vY a.aD t a.ba)else bif (cP a).dn&&ew (cP a).yT t then some a else none);rw[aii N hN,H5 (A a (by simp)),ake,ake];cases a.ar==1 with
   |true=>exact .val rfl
   |false=>
    show cb (Option.bind (bif (cP a).dn then some (ew (cP a).yT t)else some false) fun v6=>some (a,v6)) _;rw[dq];exact .ite rfl
  ·exact .no rfl
 |two h=>rcases h with rfl|rfl|rfl|rfl|rfl|rfl|rfl|rfl|rfl|rfl|rfl<;>exact .no rfl
 |three h=>subst h;exact .no rfl
theorem aaM{N:Nat}{e:an}(h:En N e):cb (Ck N e) (uw e):=by
 have hN:=h.hN;have A:∀x∈e.ax,En N x:=fun x hx=>h.arg hx;have sh:=ft h.node;clear h;unfold Ck uw;cases sh with
 |leaf h=>rcases h with rfl|rfl|rfl<;>exact .no rfl
 |one h=>
  rename_i nm v t l i a
  rcases h with rfl|rfl|rfl
  ·exact .no rfl
  ·show cb (bif a.ar==1 then Option.bind (A8 N a.aD t a.ba) _ else Option.bind (g_brocaderef21_derived N a) _) (bif a.ar==1 then pg t (vY a.aD t a.ba)else bif (cP a).dn&&ew (cP a).yT t then some a else none);rw[aiV N hN,UD (A a (by simp)),ake,ake];cases a.ar==1 with
   |true=>exact .val rfl
   |false=>
    show cb (Option.bind (bif (cP a).dn then some (ew (cP a).yT t)else some false) fun v6=>some (a,v6)) _;rw[dq];exact .ite rfl
  ·exact .no rfl
 |two h=>rcases h with rfl|rfl|rfl|rfl|rfl|rfl|rfl|rfl|rfl|rfl|rfl<;>exact .no rfl
 |three h=>subst h;exact .no rfl
theorem adf(e:an):(cr e).2=(e.ar==2||gG e):=by
 unfold cr jq gG;cases e.ar==2 with
 |true=>rfl
 |false=>cases (e.ar==1&&e.aD.a8==3)<;>rfl
theorem Vd(op:Int)(a b:an):zF op a b=bif (cr a).2&&((cr b).2&&(a.ar==2||b.ar==2))then iW (bif op==5 then lg (cr a).1 (cr b).1 else jW (cr a).1 (cr b).1)else none:=by
 unfold zF cr;cases jq a with
 |none=>rfl
 |some f=>cases jq b<;>rfl
theorem QY{N:Nat}{op:Int}{n v t l i a b}(h:ri N a b)(ho:op=4∨op=5):cb (DV N ⟨op,n,v,t,l,i,[a,b]⟩) (zF op a b):=by
 rw[Vd];unfold DV;show cb (Option.bind (oh N a) fun v3=>Option.bind (oh N b) _) _;rw[H3,ake,H3,ake];have e1:(bif (cr a).2 then(bif (cr b).2 then(bif (a.ar !=(2:Int))then some (b.ar !=(2:Int))else some false)else some true)else some true)=some (!((cr a).2&&((cr b).2&&(a.ar==2||b.ar==2)))):=by
   rw[fE,fE];cases (cr a).2<;>cases (cr b).2<;>cases a.ar==2<;>cases b.ar==2<;>rfl
 rw[e1,ake];cases (cr a).2&&((cr b).2&&(a.ar==2||b.ar==2))with
 |false=>exact .no rfl
 |true=>
  simp only[Bool.not_true,cond_false,cond_true];have hl:=h.len;have hn:=h.l.rE;rcases ho with rfl|rfl
  ·show cb (Option.bind (tY N (cr a).1 (cr b).1) _) (iW (jW (cr a).1 (cr b).1));rw[SZ N (by omega) _ _ (by omega) (by omega)];exact .zy rfl
  ·show cb (Option.bind (uU N (cr a).1 (cr b).1) _) (iW (lg (cr a).1 (cr b).1));rw[QL N hn hl];exact .gD rfl
theorem aaE{N:Nat}{a b:an}(h:ri N a b):cb (Fo N a b) (pQ a b):=by
 have J:∀x y:an,W wT x≤800000→cb (AF N x y) (bif x.ar==2&&gG y then iW (jj x.aM y.ba.xN)else none):=fun x y hx=>by
  unfold AF gG;rw[KD,ake,fE,fE,fE];cases x.ar==2 with
  |false=>exact .no rfl
  |true=>
   cases y.ar==1 with
   |false=>exact .no rfl
   |true=>
    cases y.aD.a8==3 with
    |false=>exact .no rfl
    |true=>
     show cb (Option.bind (rD N x.aM y.ba.xN) _) (iW (jj x.aM y.ba.xN));rw[Pd N (by have:=h.l.rE;omega) _ _ (akx (CG x) (akx hx (by decide)))];exact .zy rfl
 have ht:=h.t;have j1:=J a b (by omega);have j2:=J b a (by omega);unfold Fo pQ;cases h1:a.ar==1 with
 |true=>
  have ha:a.ar=1:=by simpa using h1
  have ha2:(a.ar==2)=false:=by rw[ha];rfl
  rw[ha2];simp only[cond_true,Bool.false_and,cond_false];rw[Bool.and_comm];exact j2
 |false=>
  have hw:gG a=false:=by unfold gG;rw[h1];rfl
  rw[hw];simp only[cond_false,Bool.false_and];exact j1
theorem acU{N:Nat}{e:an}(h:En N e)(k:Kn):cb (FC N (nd e k)) (uv e):=by
 have A:∀x∈e.ax,En N x:=fun x hx=>h.arg hx;have rE:=h.rE;have B:∀a b,e.ax=[a,b]→ri N a b:=fun a b OZ=>by
  obtain⟨op,n,v,t,l,i,al⟩:=e;cases OZ
  exact h.two
 have sh:=ft h.node;clear h;unfold FC uv;cases sh with
 |leaf h=>
  rcases h with rfl|rfl|rfl
  ·exact .no rfl
  ·rename_i n v t l i
   show cb (Option.bind (oK N xJ ⟨l.xK,1⟩) fun v2=>Option.bind (bif ((l.xL.length:Int)==0)then(bif decide (-2147483647≤l.xK.toInt)then some (decide (l.xK.toInt≤2147483647))else some false)else some false) fun v3=>some (v2,v3)) (bif l.xL.length==0&&(decide (-2147483647≤l.xK.toInt)&&decide (l.xK.toInt≤2147483647))then some (fS xJ ⟨l.xK,1⟩)else none);rw[JO,tB];exact .ite rfl
  ·exact .no rfl
 |one h=>
  rename_i n v t l i a
  rcases h with rfl|rfl|rfl
  ·show cb (bif a.ar==2 then Option.bind (rD N a.aM (-1)) _ else some (eo,false)) (bif true&&a.ar==2 then iW (jj a.aM (-1))else none);rw[Pd N (by omega) _ _ (akx (CG a) (akx (A a (by simp)).t (by decide)))];cases a.ar==2 with
   |false=>exact .no rfl
   |true=>exact .zy rfl
  ·exact .no rfl
  ·exact .no rfl
 |two h=>
  rename_i n v t l i a b
  have E:=B a b rfl;rcases h with rfl|rfl|rfl|rfl|rfl|rfl|rfl|rfl|rfl|rfl|rfl
  ·exact(QY E (.inl rfl)).eta
  ·exact(QY E (.inr rfl)).eta
  ·exact(aaE E).eta
  all_goals exact .no rfl
 |three h=>subst h;exact .no rfl
theorem ab4(xa xb wa wb:Bool)(ha:wa=true→xa=false)(hb:wb=true→xb=false):(bif xa||wa then(bif xb||wb then(bif wa then some wb else some false)else some true)else some true)=some (!((xa||wa)&&((xb||wb)&&(xa||xb)))):=by
 revert ha hb;cases xa<;>cases xb<;>cases wa<;>cases wb<;>simp
theorem aan{xa xb wa wb:Bool}(h:((xa||wa)&&((xb||wb)&&(xa||xb)))=false):(xa&&wb)=false∧(wa&&xb)=false:=by
 revert h;cases xa<;>cases xb<;>cases wa<;>cases wb<;>simp
theorem aap{N:Nat}{e:an}(h:En N e):cb (FG N e) (uv e):=by
 have A:∀x∈e.ax,En N x:=fun x hx=>h.arg hx;have rE:=h.rE;have B:∀a b,e.ax=[a,b]→ri N a b:=fun a b OZ=>by
  obtain⟨op,n,v,t,l,i,al⟩:=e;cases OZ
  exact h.two
 have sh:=ft h.node;clear h;unfold FG uv;cases sh with
 |leaf h=>
  rcases h with rfl|rfl|rfl
  ·exact .no rfl
  ·rename_i n v t l i
   show cb (Option.bind (nA N xJ ⟨l.xK,1⟩) fun v2=>Option.bind (bif ((l.xL.length:Int)==0)then(bif decide (l.xK.toInt≤2147483647)then some (decide (-2147483647≤l.xK.toInt))else some false)else some false) fun v3=>some (v2,v3)) (bif l.xL.length==0&&(decide (-2147483647≤l.xK.toInt)&&decide (l.xK.toInt≤2147483647))then some (fS xJ ⟨l.xK,1⟩)else none);rw[JO,tB,Bool.and_comm (decide (l.xK.toInt≤2147483647))];exact .ite rfl
  ·exact .no rfl
 |one h=>
  rename_i n v t l i a
  rcases h with rfl|rfl|rfl
  ·show cb (Option.bind (rF N a.aM (-1)) fun v5=>Option.bind (bif a.ar==2 then some (v5.2==0)else some false) fun v6=>some (mb v5.1,v6)) (bif true&&a.ar==2 then iW (jj a.aM (-1))else none);rw[NA N (by omega) _ _ (akx (CG a) (akx (A a (by simp)).t (by decide))),ake];cases a.ar==2 with
   |false=>exact .no rfl
   |true=>exact .zy rfl
  ·exact .no rfl
  ·exact .no rfl
 |two h=>
  rename_i n v t l i a b
  have E:=B a b rfl;have hl:=E.len;have core:∀op:Int,op=4∨op=5∨op=6→cb (
   Option.bind (oH N a) fun v10=>
   Option.bind (oH N b) fun v11=>
   Option.bind (bif v10.2 then(bif v11.2 then Option.bind (kQ N a) fun v12=>(bif v12 then Option.bind (kQ N b) fun aX=>some aX else some false)else some true)else some true) fun bu=>
   bif bu then some ((⟨op,n,v,t,l,i,[a,b]⟩:an),false)
   else bif (op==(4:Int))then Option.bind (qo N v10.1 v11.1) fun bN=>some ((⟨(2:Int),(bs []),bg,ca,bN.1,[],[]⟩:an),(bN.2==(0:Int)))
   else bif (op==(5:Int))then Option.bind (sr N v10.1 v11.1) fun dh=>some ((⟨(2:Int),(bs []),bg,ca,dh.1,[],[]⟩:an),dh.2)
   else Option.bind (kQ N a) fun bX=>Option.bind (bif bX then some false else Option.bind (kQ N b) fun bx=>some (!bx)) fun cC=>
    bif cC then some ((⟨op,n,v,t,l,i,[a,b]⟩:an),false)
    else Option.bind (kQ N a) fun v20=>bif v20 then tM N a v11.1.xK v11.1.xL else tM N b v10.1.xK v10.1.xL)
   (bif op==4||op==5 then zF op a b else bif op==6 then pQ a b else none):=fun op ho=>by
   obtain⟨l1,e1,f1⟩:=Kj N a;obtain⟨l2,e2,f2⟩:=Kj N b;rw[e1,ake,e2,ake,N4,N4,Vd];simp only[ake];have hf:∀x:an,(cr x).2=(x.ar==2||gG x):=adf;have hx:∀x:an,gG x=true→(x.ar==2)=false:=fun x hx=>by
    unfold gG at hx;rw[akh,beq_iff_eq]at hx;rw[hx.1];rfl
   have e3:(bif (cr a).2 then(bif (cr b).2 then(bif gG a then some (gG b)else some false)else some true)else some true)=some (!((cr a).2&&((cr b).2&&(a.ar==2||b.ar==2)))):=by
    rw[hf a,hf b];exact ab4 _ _ _ _ (hx a) (hx b)
   rw[e3,ake];cases hc:(cr a).2&&((cr b).2&&(a.ar==2||b.ar==2))with
   |false=>
    rcases ho with rfl|rfl|rfl
    ·exact .no rfl
    ·exact .no rfl
    ·refine(?_:cb _ (pQ a b));have:pQ a b=none:=by
      unfold pQ;rw[hf a,hf b]at hc;obtain⟨z1,z2⟩:=aan hc;rw[z1,z2];rfl
     rw[this];exact .no rfl
   |true=>
    rw[akh,akh]at hc;obtain⟨c1,c2,c3⟩:=hc;have g1:=f1 c1;have g2:=f2 c2;subst g1;subst g2;simp only[Bool.not_true,cond_false];rcases ho with rfl|rfl|rfl
    ·show cb (Option.bind (qo N (cr a).1 (cr b).1) _) (iW (jW (cr a).1 (cr b).1));rw[Sz N (by omega) _ _ (by omega)];exact .zy rfl
    ·show cb (Option.bind (sr N (cr a).1 (cr b).1) _) (iW (lg (cr a).1 (cr b).1));rw[Qz N rE hl];exact .gD rfl
    ·have sc:∀x y:an,(x.ar==2)=true→(cr x).1.xL.length≤800000→cb (tM N y (cr x).1.xK (cr x).1.xL) (iW (jj x.aM y.ba.xN)):=fun x y mn hlen=>by
      have hfx:(cr x).1=x.aM:=by unfold cr jq;rw[mn];rfl
      rw[hfx]at hlen ⊢;unfold tM;have hsc:=NA N (by omega) x.aM y.ba.xN (akx hlen (by omega));have aag:rF N (⟨x.aM.xK,x.aM.xL⟩:aF) y.ba.xN=some (qk bV (jj x.aM y.ba.xN)):=hsc;rw[aag];exact .zy rfl
     refine(?_:cb (Option.bind (bif gG a then some false else some (!gG b)) _) (pQ a b));unfold pQ;have ha:=hx a;have hb:=hx b;rw[hf a]at c1;rw[hf b]at c2;cases wa:gG a with
     |true=>
      rw[ha wa]at c3 ⊢;simp only[Bool.false_or]at c3;rw[c3];exact sc b a c3 (by omega)
     |false=>
      rw[wa]at c1;simp only[Bool.or_false]at c1;rw[c1];cases wb:gG b with
      |true=>exact sc a b c1 (by omega)
      |false=>exact .no rfl
  rcases h with rfl|rfl|rfl|rfl|rfl|rfl|rfl|rfl|rfl|rfl|rfl
  ·exact core 4 (by omega)
  ·exact core 5 (by omega)
  ·exact core 6 (by omega)
  all_goals exact .no rfl
 |three h=>subst h;exact .no rfl
theorem Qf{r:ak5 (Bool×Bool)}{p:Bool×Bool}{a b:an}(h:r=some p):cb (Option.bind r fun v3=>bif v3.1 then Option.bind (some a) fun v4=>some (v4,v3.2)else Option.bind (some b) fun v5=>some (v5,v3.2)) (bif true&&p.2 then some (bif p.1 then a else b)else none):=by
 subst h;obtain⟨p1,p2⟩:=p;cases p1
 ·exact .ite rfl
 ·exact .ite rfl
theorem X0{N:Nat}{e:an}(h:En N e)(k:Kn):cb (EV N (nd e k)) (su e):=by
 have A:∀x∈e.ax,En N x:=fun x hx=>h.arg hx;have hA:∀(i:Nat)(x:an),e.ax[i]?=some x→eB x=kA e.ar i:=fun i x hx=>h.node.arg hx;have sh:=ft h.node;clear h;unfold EV su;cases sh with
 |leaf h=>rcases h with rfl|rfl|rfl<;>exact .no rfl
 |one h=>rcases h with rfl|rfl|rfl<;>exact .no rfl
 |two h=>rcases h with rfl|rfl|rfl|rfl|rfl|rfl|rfl|rfl|rfl|rfl|rfl<;>exact .no rfl
 |three h=>
  rename_i c a b
  subst h;exact Qf (DR (A c (by simp)) ((hA 0 c rfl).trans rfl))
theorem ajS{N:Nat}{e:an}(h:En N e):cb (Dl N e) (su e):=by
 have A:∀x∈e.ax,En N x:=fun x hx=>h.arg hx;have hA:∀(i:Nat)(x:an),e.ax[i]?=some x→eB x=kA e.ar i:=fun i x hx=>h.node.arg hx;have sh:=ft h.node;clear h;unfold Dl su;cases sh with
 |leaf h=>rcases h with rfl|rfl|rfl<;>exact .no rfl
 |one h=>rcases h with rfl|rfl|rfl<;>exact .no rfl
 |two h=>rcases h with rfl|rfl|rfl|rfl|rfl|rfl|rfl|rfl|rfl|rfl|rfl<;>exact .no rfl
 |three h=>
  rename_i c a b
  subst h;exact Qf (E2 (A c (by simp)) ((hA 0 c rfl).trans rfl))
theorem ov{r:ak5 Bool}{p:Bool}{a:an}(h:r=some p):cb (Option.bind r fun v8=>some (a,v8)) (bif true&&p then some a else none):=by
 subst h;exact .ite rfl
theorem ahc{N:Nat}{e:an}(h:En N e)(k:Kn):cb (Dd N (nd e k)) (sF e):=by
 have A:∀x∈e.ax,3*SizeOf.sizeOf x+3≤N:=fun x hx=>(h.arg hx).eq;have sh:=ft h.node;clear h;unfold Dd sF;cases sh with
 |leaf h=>rcases h with rfl|rfl|rfl<;>exact .no rfl
 |one h=>rcases h with rfl|rfl|rfl<;>exact .no rfl
 |two h=>
  rename_i a b
  have s:=GZ b (A a (by simp));rcases h with rfl|rfl|rfl|rfl|rfl|rfl|rfl|rfl|rfl|rfl|rfl
  ·exact .no rfl
  ·exact .no rfl
  ·exact .no rfl
  ·exact .no rfl
  ·exact ov s
  ·exact ov s
  ·exact .no rfl
  ·exact .no rfl
  ·exact .no rfl
  ·exact ov s
  ·exact ov s
 |three h=>
  rename_i c a b
  subst h;exact ov (GZ b (A a (by simp)))
theorem ah2{N:Nat}{e:an}(h:En N e):cb (Et N e) (sF e):=by
 have A:∀x∈e.ax,3*SizeOf.sizeOf x+3≤N:=fun x hx=>(h.arg hx).eq;have sh:=ft h.node;clear h;unfold Et sF;cases sh with
 |leaf h=>rcases h with rfl|rfl|rfl<;>exact .no rfl
 |one h=>rcases h with rfl|rfl|rfl<;>exact .no rfl
 |two h=>
  rename_i a b
  have s:=EY b (A a (by simp));rcases h with rfl|rfl|rfl|rfl|rfl|rfl|rfl|rfl|rfl|rfl|rfl
  ·exact .no rfl
  ·exact .no rfl
  ·exact .no rfl
  ·exact .no rfl
  ·exact ov s
  ·exact ov s
  ·exact .no rfl
  ·exact .no rfl
  ·exact .no rfl
  ·exact ov s
  ·exact ov s
 |three h=>
  rename_i c a b
  subst h;exact ov (EY b (A a (by simp)))
theorem U3(N:Nat)(e:an):jh N e=some (fc e):=by
 unfold jh fc;rw[SK,ake];show Option.bind (bif e.ar==1 then some (mD e.ba (pZ e.aD))else some false) _=_;rw[dq,ake]
theorem Mg(N:Nat)(e:an):nQ N e=some (fc e):=by
 unfold nQ fc;rw[W0,ake];show Option.bind (bif e.ar==1 then some (mD e.ba (pZ e.aD))else some false) _=_;rw[dq,ake]
theorem aaR{N:Nat}{e:an}(h:En N e)(k:Kn):cb (Cw N (nd e k)) (sB e):=by
 have sh:=ft h.node;clear h;unfold Cw sB;cases sh with
 |leaf h=>rcases h with rfl|rfl|rfl<;>exact .no rfl
 |one h=>rcases h with rfl|rfl|rfl<;>exact .no rfl
 |two h=>
  rename_i a b
  have za:=U3 N a;have zb:=U3 N b;rcases h with rfl|rfl|rfl|rfl|rfl|rfl|rfl|rfl|rfl|rfl|rfl
  ·show cb (Option.bind (jh N b) fun v5=>bif v5 then some (a,true)else Option.bind (jh N a) fun v6=>some (b,v6)) (bif fc b then some a else bif fc a then some b else none);rw[za,zb];cases fc b
   ·exact .ite rfl
   ·exact .yes rfl
  ·show cb (Option.bind (jh N b) fun v5=>bif v5 then some (a,true)else Option.bind (px N 8 [b]) fun v8=>Option.bind (jh N a) fun v6=>some (v8,v6)) (bif fc b then some a else bif fc a then some (cy 8 [b])else none);rw[za,zb];cases fc b
   ·exact .ite rfl
   ·exact .yes rfl
  ·show cb (Option.bind (jh N b) fun v5=>bif v5 then some (b,true)else Option.bind (jh N a) fun v6=>some (a,v6)) (bif fc b then some b else bif fc a then some a else none);rw[za,zb];cases fc b
   ·exact .ite rfl
   ·exact .yes rfl
  ·show cb (Option.bind (jh N a) fun v6=>some (a,v6)) (bif fc a then some a else none);rw[za];exact .ite rfl
  all_goals exact .no rfl
 |three h=>subst h;exact .no rfl
theorem adW(N:Nat)(a e b:an)(v:Bool):wq N a e b v=some (bif v then(a,true)else bif e.ar==4&&fc a then(b,true)else bif e.ar==5&&fc a then(cy 8 [b],true)else bif e.ar==6&&fc b then(b,true)else(a,(e.ar==6&&fc a)||(!(e.ar==6)&&(e.ar==7&&fc a)))):=by
 unfold wq;rw[Mg,Mg,ake,ake];generalize fc a=za;generalize fc b=zb;generalize (e.ar==4)=x4;generalize (e.ar==5)=x5;generalize (e.ar==6)=x6;generalize (e.ar==7)=x7;cases v with
 |true=>rfl
 |false=>cases x4<;>cases x5<;>cases x6<;>cases x7<;>cases za<;>cases zb<;>rfl
theorem acG{N:Nat}{e:an}(h:En N e):cb (Dj N e) (sB e):=by
 have sh:=ft h.node;clear h;unfold Dj sB;cases sh with
 |leaf h=>rcases h with rfl|rfl|rfl<;>exact .no rfl
 |one h=>rcases h with rfl|rfl|rfl<;>exact .no rfl
 |two h=>
  rename_i n v t l i a b
  simp only[List.getElem?_cons_zero,akQ,ake,Mg,adW];generalize hzb:fc b=zb;generalize hza:fc a=za;rcases h with rfl|rfl|rfl|rfl|rfl|rfl|rfl|rfl|rfl|rfl|rfl
  ·cases zb
   ·cases za
    ·exact .no rfl
    ·exact .yes rfl
   ·exact .yes rfl
  ·cases zb
   ·cases za
    ·exact .no rfl
    ·exact .yes rfl
   ·exact .yes rfl
  ·cases zb
   ·cases za
    ·exact .no rfl
    ·exact .yes rfl
   ·exact .yes rfl
  ·cases za
   ·cases zb<;>exact .no rfl
   ·cases zb<;>exact .yes rfl
  all_goals exact .no rfl
 |three h=>subst h;exact .no rfl
theorem Uv(N:Nat)(hN:2147483648<N)(e:an):qH N e=some (jM e):=by
 unfold qH jM;rw[VJ N hN,ake,fE];cases e.ar==1 with
 |false=>rfl
 |true=>
  show Option.bind (bif (ig e.aD).2==0 then some (mD e.ba (ig e.aD).1)else some false) _=_;rw[dq,ake];rfl
theorem Qb(N:Nat)(hN:2147483648<N)(e:an):q6 N e=some (jM e):=by
 unfold q6 jM;rw[Qo N hN,ake,fE];cases e.ar==1 with
 |false=>rfl
 |true=>
  show Option.bind (bif (ig e.aD).2==0 then some (mD e.ba (ig e.aD).1)else some false) _=_;rw[dq,ake];rfl
theorem abV{N:Nat}{e:an}(h:En N e)(k:Kn):cb (FI N (nd e k)) (sw e):=by
 have hN:=h.Ay;have sh:=ft h.node;clear h;unfold FI sw;cases sh with
 |leaf h=>rcases h with rfl|rfl|rfl<;>exact .no rfl
 |one h=>rcases h with rfl|rfl|rfl<;>exact .no rfl
 |two h=>
  rename_i a b
  have za:=Uv N hN a;have zb:=Uv N hN b;rcases h with rfl|rfl|rfl|rfl|rfl|rfl|rfl|rfl|rfl|rfl|rfl
  ·exact .no rfl
  ·exact .no rfl
  ·show cb (Option.bind (qH N b) fun v5=>bif v5 then some (a,true)else Option.bind (Option.bind (qH N a) fun v6=>some v6) fun v7=>some (b,v7)) (bif jM b then some a else bif jM a then some b else none);rw[za,zb];cases jM b
   ·exact .ite rfl
   ·exact .yes rfl
  ·show cb (Option.bind (qH N b) fun v5=>bif v5 then some (a,true)else some (b,false)) (bif jM b then some a else none);rw[zb];cases jM b
   ·exact .no rfl
   ·exact .yes rfl
  all_goals exact .no rfl
 |three h=>subst h;exact .no rfl
theorem adp{N:Nat}{e:an}(h:En N e):cb (Dr N e) (sw e):=by
 have hN:=h.Ay;have sh:=ft h.node;clear h;unfold Dr sw;cases sh with
 |leaf h=>rcases h with rfl|rfl|rfl<;>exact .no rfl
 |one h=>rcases h with rfl|rfl|rfl<;>exact .no rfl
 |two h=>
  rename_i a b
  have za:=Qb N hN a;have zb:=Qb N hN b;rcases h with rfl|rfl|rfl|rfl|rfl|rfl|rfl|rfl|rfl|rfl|rfl
  ·exact .no rfl
  ·exact .no rfl
  ·show cb (Option.bind (q6 N b) fun v5=>bif v5 then some (a,true)else Option.bind (Option.bind (q6 N a) fun v6=>some v6) fun v7=>some (b,v7)) (bif jM b then some a else bif jM a then some b else none);rw[za,zb];cases jM b
   ·exact .ite rfl
   ·exact .yes rfl
  ·show cb (Option.bind (q6 N b) fun v5=>bif v5 then some (a,true)else some (b,false)) (bif jM b then some a else none);rw[zb];cases jM b
   ·exact .no rfl
   ·exact .yes rfl
  all_goals exact .no rfl
 |three h=>subst h;exact .no rfl
theorem afs{N:Nat}{e:an}(h:En N e)(k:Kn):cb (EO N (nd e k)) (tO e k):=by
 have hN:=h.Ay;have A:∀x∈e.ax,3*SizeOf.sizeOf x+3≤N:=fun x hx=>(h.arg hx).eq;have sh:=ft h.node;clear h;unfold EO tO;cases sh with
 |leaf h=>rcases h with rfl|rfl|rfl<;>exact .no rfl
 |one h=>rcases h with rfl|rfl|rfl<;>exact .no rfl
 |two h=>
  rename_i a b
  have s:=GZ b (A a (by simp));rcases h with rfl|rfl|rfl|rfl|rfl|rfl|rfl|rfl|rfl|rfl|rfl
  ·exact .no rfl
  ·show cb (Option.bind (bif k.dn then Option.bind (nf N a b) fun v7=>some (!v7)else some true) fun v8=>bif v8 then some (eo,false)else Option.bind (uV N k.yT) fun v9=>some (fS k.yT v9,true)) (bif true&&(k.dn&&ij a b)then some (fS k.yT (pZ k.yT))else none);rw[s,SK];cases k.dn
   ·exact .no rfl
   ·cases ij a b
    ·exact .no rfl
    ·exact .yes rfl
  ·exact .no rfl
  ·show cb (Option.bind (bif k.dn then Option.bind (nf N a b) fun v7=>some (!v7)else some true) fun v8=>bif v8 then some (eo,false)else Option.bind (wR N k.yT) fun v11=>Option.bind (bif (k.yT.a8 !=2)then some (v11.2==0)else some false) fun aX=>some (fS k.yT v11.1,aX)) (bif true&&(k.dn&&ij a b)then(bif !(k.yT.a8==2)&&(ig k.yT).2==0 then some (fS k.yT (ig k.yT).1)else none)else none);rw[s,VJ N hN];cases k.dn
   ·exact .no rfl
   ·cases ij a b
    ·exact .no rfl
    ·show cb (Option.bind (bif !(k.yT.a8==2)then some ((ig k.yT).2==0)else some false) fun aX=>some (fS k.yT (ig k.yT).1,aX)) _;rw[dq];exact .ite rfl
  all_goals exact .no rfl
 |three h=>subst h;exact .no rfl
theorem ajD{N:Nat}{e:an}(h:En N e)(k:Kn):cb (Bx N e (kn k)) (tO e k):=by
 have hN:=h.Ay;have A:∀x∈e.ax,3*SizeOf.sizeOf x+3≤N:=fun x hx=>(h.arg hx).eq;have sh:=ft h.node;clear h;obtain⟨kt,kk⟩:=k;unfold Bx tO kn;cases kk with
 |false=>
  cases sh with
  |leaf h=>rcases h with rfl|rfl|rfl<;>exact .no rfl
  |one h=>rcases h with rfl|rfl|rfl<;>exact .no rfl
  |two h=>rcases h with rfl|rfl|rfl|rfl|rfl|rfl|rfl|rfl|rfl|rfl|rfl<;>exact .no rfl
  |three h=>subst h;exact .no rfl
 |true=>
  cases sh with
  |leaf h=>rcases h with rfl|rfl|rfl<;>exact .no rfl
  |one h=>rcases h with rfl|rfl|rfl<;>exact .no rfl
  |two h=>
   rename_i a b
   have s:=EY b (A a (by simp));rcases h with rfl|rfl|rfl|rfl|rfl|rfl|rfl|rfl|rfl|rfl|rfl
   ·exact .no rfl
   ·show cb (Option.bind (Option.bind (jk N a b) fun v7=>some (!v7)) fun v8=>bif v8 then some (_,false)else Option.bind (wV N kt) fun v9=>some (fS kt v9,true)) (bif true&&(true&&ij a b)then some (fS kt (pZ kt))else none);rw[s,W0];cases ij a b
    ·exact .no rfl
    ·exact .yes rfl
   ·exact .no rfl
   ·show cb (Option.bind (Option.bind (jk N a b) fun v7=>some (!v7)) fun v8=>bif v8 then some (_,false)else Option.bind (vb N kt) fun v11=>Option.bind (bif (kt.a8 !=2)then some (v11.2==0)else some false) fun aX=>some (fS kt v11.1,aX)) (bif true&&(true&&ij a b)then(bif !(kt.a8==2)&&(ig kt).2==0 then some (fS kt (ig kt).1)else none)else none);rw[s,Qo N hN];cases ij a b
    ·exact .no rfl
    ·show cb (Option.bind (bif !(kt.a8==2)then some ((ig kt).2==0)else some false) fun aX=>some (fS kt (ig kt).1,aX)) _;rw[dq];exact .ite rfl
   all_goals exact .no rfl
  |three h=>subst h;exact .no rfl
theorem Vn{N:Nat}{a:an}(h:En N a):(a.ax.length:Int)=kf a.ar:=h.v.ld a (rG a)
theorem mL{N:Nat}{a:an}(h:En N a)(ho:(a.ar==8)=true∨(a.ar==18)=true):∃x,a.ax=[x]:=by
 refine Pv (Vn h) ?_;rcases ho with ho|ho<;>(rw[beq_iff_eq]at ho;rw[ho];rfl)
theorem IC{N:Nat}{a:an}(h:En N a)(ho:(a.ar==13)=true∨(a.ar==14)=true):∃x y,a.ax=[x,y]:=by
 have hr:=Vn h;have:kf a.ar=2:=by rcases ho with ho|ho<;>(rw[beq_iff_eq]at ho;rw[ho];rfl)
 rw[this]at hr;exact(Fb (show a.ax.length=2 by omega)).2.2.1 rfl
theorem acm(k:Kn)(z:Bool):(bif k.dn then(bif (k.yT.a8==2)then(bif (k.yT.bM !=2)then some true else some z)else some z)else some true)=some (!(k.dn&&(!(k.yT.a8==2)||k.yT.bM==2))||z):=by
 rw[fE];cases k.dn<;>cases k.yT.a8==2<;>cases k.yT.bM==2<;>cases z<;>rfl
theorem ado{N:Nat}{e:an}(h:En N e)(k:Kn):cb (Dq N (nd e k)) (sR e k):=by
 have A:∀x∈e.ax,En N x:=fun x hx=>h.arg hx;have sh:=ft h.node;clear h;unfold Dq sR;rw[acm,ake];dsimp only;cases (k.dn&&(!(k.yT.a8==2)||k.yT.bM==2))with
 |false=>exact .no rfl
 |true=>
  cases sh with
  |leaf h=>rcases h with rfl|rfl|rfl<;>exact .no rfl
  |one h=>
   rename_i a
   have e1:aQ ((([a]:ak3 an).length:Int)-1)=0:=Uf;dsimp only at e1 ⊢;rw[e1];rcases h with rfl|rfl|rfl
   ·show cb (Option.bind (some (a.ar==8)) fun v5=>bif v5 then Option.bind (a.ax[0]?) fun v6=>some (v6,true)else _) (bif true&&a.ar==8 then a.ax[0]? else none);cases ho:a.ar==8 with
    |false=>exact .no rfl
    |true=>
     obtain⟨x,hx⟩:=mL (A a (by simp)) (.inl ho);rw[hx];exact .yes rfl
   ·exact .no rfl
   ·exact .no rfl
  |two h=>
   rename_i a b
   have e1:aQ ((([a,b]:ak3 an).length:Int)-1)=1:=Tz;dsimp only at e1 ⊢;rw[e1];rcases h with rfl|rfl|rfl|rfl|rfl|rfl|rfl|rfl|rfl|rfl|rfl
   ·show cb (Option.bind (some (b.ar==8)) fun v7=>bif v7 then Option.bind (b.ax[0]?) fun v8=>some (cy 5 [a,v8],true)else Option.bind (some (a.ar==8)) fun v10=>bif v10 then Option.bind (a.ax[0]?) fun v11=>some (cy 5 [b,v11],true)else some (eo,false))
     (bif b.ar==8 then(b.ax[0]?).map fun x=>cy 5 [a,x]else bif a.ar==8 then(a.ax[0]?).map fun x=>cy 5 [b,x]else none)
    cases ho:b.ar==8 with
    |true=>
     obtain⟨x,hx⟩:=mL (A b (by simp)) (.inl ho);rw[hx];exact .yes rfl
    |false=>
     cases uq:a.ar==8 with
     |true=>
      obtain⟨x,hx⟩:=mL (A a (by simp)) (.inl uq);rw[hx];exact .yes rfl
     |false=>exact .no rfl
   ·show cb (Option.bind (some (b.ar==8)) fun aX=>bif aX then Option.bind (b.ax[0]?) fun bu=>some (cy 4 [a,bu],true)else some (eo,false))
     (bif true&&b.ar==8 then(b.ax[0]?).map fun x=>cy 4 [a,x]else none)
    cases ho:b.ar==8 with
    |true=>
     obtain⟨x,hx⟩:=mL (A b (by simp)) (.inl ho);rw[hx];exact .yes rfl
    |false=>exact .no rfl
   all_goals exact .no rfl
  |three h=>
   rename_i c a b
   subst h;have e1:aQ ((([c,a,b]:ak3 an).length:Int)-1)=2:=by
    have:aQ ((3:Nat)-(1:Int))=2:=by decide
    exact this
   dsimp only at e1 ⊢;rw[e1];exact .no rfl
theorem acW{N:Nat}{e:an}(h:En N e)(k:Kn):cb (Ct N e (kn k)) (sR e k):=by
 have A:∀x∈e.ax,En N x:=fun x hx=>h.arg hx;have sh:=ft h.node;clear h;unfold Ct sR kn;have e0:(bif k.dn then(bif (k.yT.a8==2)then some (k.yT.bM !=2)else some false)else some true)=some (!(k.dn&&(!(k.yT.a8==2)||k.yT.bM==2))):=by
  rw[fE];cases k.dn<;>cases k.yT.a8==2<;>cases k.yT.bM==2<;>rfl
 dsimp only;rw[e0,ake];cases (k.dn&&(!(k.yT.a8==2)||k.yT.bM==2))with
 |false=>exact .no rfl
 |true=>
  cases sh with
  |leaf h=>rcases h with rfl|rfl|rfl<;>exact .no rfl
  |one h=>
   rename_i a
   rcases h with rfl|rfl|rfl
   ·show cb (Option.bind (some (a.ar==8)) fun v5=>bif v5 then Option.bind (a.ax[0]?) fun v6=>some (v6,true)else _) (bif true&&a.ar==8 then a.ax[0]? else none);cases ho:a.ar==8 with
    |false=>exact .no rfl
    |true=>
     obtain⟨x,hx⟩:=mL (A a (by simp)) (.inl ho);rw[hx];exact .yes rfl
   ·exact .no rfl
   ·exact .no rfl
  |two h=>
   rename_i n v t l i a b
   rcases h with rfl|rfl|rfl|rfl|rfl|rfl|rfl|rfl|rfl|rfl|rfl
   ·show cb (Option.bind (bif b.ar==8 then some true else some false) fun v7=>bif v7 then Option.bind (b.ax[0]?) fun v8=>some (cy 5 [a,v8],true)else Option.bind (bif a.ar==8 then some true else some false) fun v10=>bif v10 then Option.bind (a.ax[0]?) fun v11=>some (cy 5 [b,v11],true)else bif b.ar==8 then Option.bind (b.ax[0]?) fun bX=>some (cy 4 [a,bX],true)else some (⟨4,n,v,t,l,i,[a,b]⟩,false))
     (bif b.ar==8 then(b.ax[0]?).map fun x=>cy 5 [a,x]else bif a.ar==8 then(a.ax[0]?).map fun x=>cy 5 [b,x]else none)
    cases ho:b.ar==8 with
    |true=>
     obtain⟨x,hx⟩:=mL (A b (by simp)) (.inl ho);rw[hx];exact .yes rfl
    |false=>
     cases uq:a.ar==8 with
     |true=>
      obtain⟨x,hx⟩:=mL (A a (by simp)) (.inl uq);rw[hx];exact .yes rfl
     |false=>exact .no rfl
   ·show cb (Option.bind (bif b.ar==8 then some false else some false) fun v7=>bif v7 then _ else Option.bind (bif a.ar==8 then some false else some false) fun v10=>bif v10 then _ else bif b.ar==8 then Option.bind (b.ax[0]?) fun bX=>some (cy 4 [a,bX],true)else some (⟨5,n,v,t,l,i,[a,b]⟩,false))
     (bif true&&b.ar==8 then(b.ax[0]?).map fun x=>cy 4 [a,x]else none)
    cases ho:b.ar==8 with
    |true=>
     obtain⟨x,hx⟩:=mL (A b (by simp)) (.inl ho);rw[hx];cases a.ar==8<;>exact .yes rfl
    |false=>cases a.ar==8<;>exact .no rfl
   all_goals exact .no rfl
  |three h=>subst h;exact .no rfl
theorem YL{N:Nat}{e:an}(h:En N e)(k:Kn):cb (BQ N (nd e k)) (sE e):=by
 have A:∀x∈e.ax,En N x:=fun x hx=>h.arg hx;have sh:=ft h.node;clear h;unfold BQ sE;cases sh with
 |leaf h=>rcases h with rfl|rfl|rfl<;>exact .no rfl
 |one h=>
  rename_i c
  rcases h with rfl|rfl|rfl
  ·exact .no rfl
  ·exact .no rfl
  ·show cb (bif c.ar==18 then Option.bind (c.ax[0]?) fun v8=>some (v8,true)else bif c.ar==13 then Option.bind (c.ax[1]?) fun v9=>Option.bind (c.ax[0]?) fun v10=>some (cy 14 [v9,v10],true)else bif c.ar==14 then Option.bind (c.ax[1]?) fun v12=>Option.bind (c.ax[0]?) fun aX=>some (cy 13 [v12,aX],true)else some (eo,false))
    (bif c.ar==18 then c.ax[0]? else bif c.ar==13 then(match c.ax with|[x,y]=>some (cy 14 [y,x])|_=>none)else bif c.ar==14 then(match c.ax with|[x,y]=>some (cy 13 [y,x])|_=>none)else none)
   have C:=A c (by simp);cases ho:c.ar==18 with
   |true=>
    obtain⟨x,hx⟩:=mL C (.inr ho);rw[hx];exact .yes rfl
   |false=>
    cases uq:c.ar==13 with
    |true=>
     obtain⟨x,y,hx⟩:=IC C (.inl uq);rw[hx];exact .yes rfl
    |false=>
     cases PD:c.ar==14 with
     |true=>
      obtain⟨x,y,hx⟩:=IC C (.inr PD);rw[hx];exact .yes rfl
     |false=>exact .no rfl
 |two h=>rcases h with rfl|rfl|rfl|rfl|rfl|rfl|rfl|rfl|rfl|rfl|rfl<;>exact .no rfl
 |three h=>
  rename_i c a b
  subst h;show cb (bif !(c.ar==18)then some (eo,false)else Option.bind (c.ax[0]?) fun v4=>some (cy 11 [v4,b,a],true)) (bif true&&c.ar==18 then(c.ax[0]?).map fun x=>cy 11 [x,b,a]else none);cases ho:c.ar==18 with
  |true=>
   obtain⟨x,hx⟩:=mL (A c (by simp)) (.inr ho);rw[hx];exact .yes rfl
  |false=>exact .no rfl
theorem YA{N:Nat}{e:an}(h:En N e):cb (BJ N e) (sE e):=by
 have A:∀x∈e.ax,En N x:=fun x hx=>h.arg hx;have sh:=ft h.node;clear h;unfold BJ sE;cases sh with
 |leaf h=>rcases h with rfl|rfl|rfl<;>exact .no rfl
 |one h=>
  rename_i n v t l i c
  rcases h with rfl|rfl|rfl
  ·exact .no rfl
  ·exact .no rfl
  ·show cb (bif c.ar==18 then Option.bind (c.ax[0]?) fun v8=>some (v8,true)else bif c.ar==13 then Option.bind (c.ax[1]?) fun v9=>Option.bind (c.ax[0]?) fun v10=>some (cy 14 [v9,v10],true)else bif c.ar==14 then Option.bind (c.ax[1]?) fun v12=>Option.bind (c.ax[0]?) fun aX=>some (cy 13 [v12,aX],true)else some (⟨18,n,v,t,l,i,[c]⟩,false))
    (bif c.ar==18 then c.ax[0]? else bif c.ar==13 then(match c.ax with|[x,y]=>some (cy 14 [y,x])|_=>none)else bif c.ar==14 then(match c.ax with|[x,y]=>some (cy 13 [y,x])|_=>none)else none)
   have C:=A c (by simp);cases ho:c.ar==18 with
   |true=>
    obtain⟨x,hx⟩:=mL C (.inr ho);rw[hx];exact .yes rfl
   |false=>
    cases uq:c.ar==13 with
    |true=>
     obtain⟨x,y,hx⟩:=IC C (.inl uq);rw[hx];exact .yes rfl
    |false=>
     cases PD:c.ar==14 with
     |true=>
      obtain⟨x,y,hx⟩:=IC C (.inr PD);rw[hx];exact .yes rfl
     |false=>exact .no rfl
 |two h=>rcases h with rfl|rfl|rfl|rfl|rfl|rfl|rfl|rfl|rfl|rfl|rfl<;>exact .no rfl
 |three h=>
  rename_i n v t l i c a b
  subst h;show cb (Option.bind (some (c.ar==18)) fun v3=>bif v3 then Option.bind (c.ax[0]?) fun v4=>some (cy 11 [v4,b,a],true)else some (⟨11,n,v,t,l,i,[c,a,b]⟩,false)) (bif true&&c.ar==18 then(c.ax[0]?).map fun x=>cy 11 [x,b,a]else none);cases ho:c.ar==18 with
  |true=>
   obtain⟨x,hx⟩:=mL (A c (by simp)) (.inr ho);rw[hx];exact .yes rfl
  |false=>exact .no rfl
theorem I4{f:an→ak5 (Bool×Bool)}{a b:an}{p q:Bool×Bool}(z:Bool)(ha:f a=some p)(hb:f b=some q):cb (Option.bind (f a) fun v4=>Option.bind (bif v4.2 then some (v4.1==z)else some false) fun v5=>bif v5 then Option.bind (some b) fun v6=>some (v6,true)else Option.bind (some b) fun v7=>Option.bind (f v7) fun v8=>Option.bind (bif v8.2 then some (v8.1==z)else some false) fun v9=>some (a,v9))
 (bif p.2&&p.1==z then some b else bif q.2&&q.1==z then some a else none):=by
 rw[ha,ake,dq,ake];cases (p.2&&p.1==z)with
 |true=>exact .yes rfl
 |false=>
  simp only[cond_false,ake];rw[hb,ake,dq];exact .ite rfl
theorem afS{N:Nat}{e:an}(h:En N e)(k:Kn):cb (CZ N (nd e k)) (uz e):=by
 have A:∀x∈e.ax,En N x:=fun x hx=>h.arg hx;have hA:∀(i:Nat)(x:an),e.ax[i]?=some x→eB x=kA e.ar i:=fun i x hx=>h.node.arg hx;have sh:=ft h.node;clear h;unfold CZ uz;cases sh with
 |leaf h=>rcases h with rfl|rfl|rfl<;>exact .no rfl
 |one h=>rcases h with rfl|rfl|rfl<;>exact .no rfl
 |two h=>
  rename_i a b
  rcases h with rfl|rfl|rfl|rfl|rfl|rfl|rfl|rfl|rfl|rfl|rfl
  case inr.inr.inr.inr.inr.inr.inr.inr.inr.inl=>exact I4 (f:=xw N) true (DR (A a (by simp)) ((hA 0 a rfl).trans rfl)) (DR (A b (by simp)) ((hA 1 b rfl).trans rfl))
  case inr.inr.inr.inr.inr.inr.inr.inr.inr.inr=>exact I4 (f:=xw N) false (DR (A a (by simp)) ((hA 0 a rfl).trans rfl)) (DR (A b (by simp)) ((hA 1 b rfl).trans rfl))
  all_goals exact .no rfl
 |three h=>subst h;exact .no rfl
theorem acH{N:Nat}{e:an}(h:En N e):cb (FF N e) (uz e):=by
 have A:∀x∈e.ax,En N x:=fun x hx=>h.arg hx;have hA:∀(i:Nat)(x:an),e.ax[i]?=some x→eB x=kA e.ar i:=fun i x hx=>h.node.arg hx;have sh:=ft h.node;clear h;unfold FF uz;cases sh with
 |leaf h=>rcases h with rfl|rfl|rfl<;>exact .no rfl
 |one h=>rcases h with rfl|rfl|rfl<;>exact .no rfl
 |two h=>
  rename_i a b
  rcases h with rfl|rfl|rfl|rfl|rfl|rfl|rfl|rfl|rfl|rfl|rfl
  case inr.inr.inr.inr.inr.inr.inr.inr.inr.inl=>exact I4 (f:=vT N) true (E2 (A a (by simp)) ((hA 0 a rfl).trans rfl)) (E2 (A b (by simp)) ((hA 1 b rfl).trans rfl))
  case inr.inr.inr.inr.inr.inr.inr.inr.inr.inr=>exact I4 (f:=vT N) false (E2 (A a (by simp)) ((hA 0 a rfl).trans rfl)) (E2 (A b (by simp)) ((hA 1 b rfl).trans rfl))
  all_goals exact .no rfl
 |three h=>subst h;exact .no rfl
abbrev Tp:=Bool×ak4×Int×ak4×Int64×Int64×Int×Int×Int×Int×Int×Int64×(ak3 aU)×(ak3 aH)×(ak3 an)
def nr(b:Bool)(s:ak4)(x:an):Tp:=(b,s,x.ar,x.aV,x.ba.xN,x.ba.xD,x.aD.a8,x.aD.bz,x.aD.xFrac,x.aD.bK,x.aD.bM,x.aM.xK,x.aM.xL,x.xIdx,x.ax)
def kJ(v:Tp):an:=⟨v.2.2.1,v.2.2.2.1,⟨v.2.2.2.2.1,v.2.2.2.2.2.1⟩,⟨v.2.2.2.2.2.2.1,v.2.2.2.2.2.2.2.1,v.2.2.2.2.2.2.2.2.1,v.2.2.2.2.2.2.2.2.2.1,v.2.2.2.2.2.2.2.2.2.2.1⟩,⟨v.2.2.2.2.2.2.2.2.2.2.2.1,v.2.2.2.2.2.2.2.2.2.2.2.2.1⟩,v.2.2.2.2.2.2.2.2.2.2.2.2.2.1,v.2.2.2.2.2.2.2.2.2.2.2.2.2.2⟩
theorem zw(b:Bool)(s:ak4)(x:an):kJ (nr b s x)=x:=by cases x;rfl
abbrev Tr:=ak4→an→ak5 Tp
def ch:ak3 Tr→ak4→an→ak5 (Bool×an×ak4)
 |[],s,x=>some (false,x,s)
 |[f],s,x=>Option.bind (f s x) fun v=>some (v.1,kJ v,v.2.1)
 |f::g::l,s,x=>Option.bind (f s x) fun v=>bif v.1 then some (true,kJ v,v.2.1)else ch (g::l) v.2.1 (kJ v)
def Hc(o:ak5 an)(s old:ak4)(x:an):Tp:=match o with|some y=>nr true s y|none=>nr false old x
def Wh(f:Tr)(o:ak5 an)(s:ak4):Prop:=∀old x,f old x=some (Hc o s old x)
theorem nV{r:ak5 (an×Bool)}{o:ak5 an}(s old:ak4)(x:an)(h:cb r o):(Option.bind r fun v=>bif v.2 then some (nr v.2 s v.1)else some (nr v.2 old x))=some (Hc o s old x):=by
 obtain⟨y,rfl,h2⟩:=h;cases o with
 |none=>rfl
 |some z=>obtain rfl:=h2 z rfl;rfl
def DS(r:Rw)(old:ak4)(x:an):Bool×an×ak4:=match r with|some y=>(true,y.1,y.2)|none=>(false,x,old)
def CY(l:ak3 (Tr×ak5 an×ak4)):Rw:=l.foldr (fun t r=>jo t.2.1 t.2.2 r) none
theorem PZ:∀(l:ak3 (Tr×ak5 an×ak4))(old:ak4)(x:an),(∀t∈l,Wh t.1 t.2.1 t.2.2)→
 ch (l.map (·.1)) old x=some (DS (CY l) old x)
 |[],old,x,_=>rfl
 |[t],old,x,h=>by
  show Option.bind (t.1 old x) (fun v=>some (v.1,kJ v,v.2.1))=some (DS (jo t.2.1 t.2.2 none) old x);rw[h t (by simp) old x];cases t.2.1 with
  |some y=>show some (true,kJ (nr true t.2.2 y),t.2.2)=_;rw[zw];rfl
  |none=>show some (false,kJ (nr false old x),old)=_;rw[zw];rfl
 |t::u::l,old,x,h=>by
  show Option.bind (t.1 old x) (fun v=>bif v.1 then some (true,kJ v,v.2.1)else ch ((u::l).map (·.1)) v.2.1 (kJ v))=some (DS (jo t.2.1 t.2.2 (CY (u::l))) old x);have ih:=PZ (u::l) old x fun q hq=>h q (ako _ hq);rw[h t (by simp) old x];cases t.2.1 with
  |some y=>show some (true,kJ (nr true t.2.2 y),t.2.2)=_;rw[zw];rfl
  |none=>show ch ((u::l).map (·.1)) old (kJ (nr false old x))=_;rw[zw];exact ih
noncomputable def B5(N:Nat)(e:an)(k:Kn):ak3 (Tr×ak5 an×ak4):=
 [(fun old _=>B7 N (nd e k) (bs [102,111,108,100]) old 0 (bs []) bg ca 0,tV e,Mi),
  (fun old x=>Gs N (nd e k) (bs [99,97,115,116]) old x,uw e,LX),
  (fun old x=>JE N (nd e k) (bs [105,110,100,101,120]) old x,uv e,OC),
  (fun old x=>Is N (nd e k) (bs [105,102]) old x,su e,L1),
  (fun old x=>Gj N (nd e k) (bs [115,97,109,101]) old x,sF e,Kr),
  (fun old x=>Ka N (nd e k) (bs [122,101,114,111]) old x,sB e,Ou),
  (fun old x=>JQ N (nd e k) (bs [111,110,101]) old x,sw e,Lp),
  (fun old x=>GO N (nd e k) (bs [99,97,110,99,101,108]) old x,tO e k,KR),
  (fun old x=>GK N (nd e k) (bs [110,101,103,97,116,101]) old x,sR e k,Lb),
  (fun old x=>I8 N (nd e k) (bs [110,111,116]) old x,sE e,Mf),
  (fun old x=>IA N (nd e k) (bs [108,111,103,105,99]) old x,uz e,LO)]
theorem ai0(N:Nat)(e:an)(k:Kn):zH N (nd e k)=Option.bind (ch ((B5 N e k).map (·.1)) (bs []) eo) fun aX=>some (aX.2.1,aX.2.2,aX.1):=by
 unfold zH B5;simp only[akE,List.map_nil,ch];rw[Option.bind_assoc];rfl
theorem ah7{N:Nat}{e:an}(k:Kn){o:ak5 an}(s old:ak4)(h:cb (yo N (nd e k)) o):B7 N (nd e k) s old 0 (bs []) bg ca 0=some (Hc o s old eo):=nV s old eo h
def r3(r:Rw)(e:an):an×ak4×Bool:=match r with|some y=>(y.1,y.2,true)|none=>(e,bs [],false)
theorem ZY(t u:Tr×ak5 an×ak4)(l:ak3 (Tr×ak5 an×ak4))(old:ak4)(x:an)(h0:t.1 old x=some (Hc t.2.1 t.2.2 old x))(h:∀q∈u::l,Wh q.1 q.2.1 q.2.2):
 ch ((t::u::l).map (·.1)) old x=some (DS (CY (t::u::l)) old x):=by
 show Option.bind (t.1 old x) (fun v=>bif v.1 then some (true,kJ v,v.2.1)else ch ((u::l).map (·.1)) v.2.1 (kJ v))=some (DS (jo t.2.1 t.2.2 (CY (u::l))) old x);have ih:=PZ (u::l) old x h;rw[h0];cases t.2.1 with
 |some y=>show some (true,kJ (nr true t.2.2 y),t.2.2)=_;rw[zw];rfl
 |none=>show ch ((u::l).map (·.1)) old (kJ (nr false old x))=_;rw[zw];exact ih
theorem agI{N:Nat}{e:an}(h:En N e)(k:Kn):zH N (nd e k)=some (r3 (m3 e k) eo):=by
 rw[ai0];unfold B5;rw[ZY]
 ·show some _=_;have:CY (B5 N e k)=m3 e k:=rfl;unfold B5 at this;rw[this];cases m3 e k<;>rfl
 ·exact ah7 k Mi _ (ady h k)
 ·intro t ht;simp only[akJ,akV,or_false]at ht;rcases ht with rfl|rfl|rfl|rfl|rfl|rfl|rfl|rfl|rfl|rfl
  ·exact fun old x=>nV LX old x (ac2 h k)
  ·exact fun old x=>nV OC old x (acU h k)
  ·exact fun old x=>nV L1 old x (X0 h k)
  ·exact fun old x=>nV Kr old x (ahc h k)
  ·exact fun old x=>nV Ou old x (aaR h k)
  ·exact fun old x=>nV Lp old x (abV h k)
  ·exact fun old x=>nV KR old x (afs h k)
  ·exact fun old x=>nV Lb old x (ado h k)
  ·exact fun old x=>nV Mf old x (YL h k)
  ·exact fun old x=>nV LO old x (afS h k)
theorem nq{r:ak5 (an×Bool)}{o:ak5 an}{s:ak4}{R:ak5 (an×ak4×Bool)}{S:Rw}{e:an}(h:cb r o)(hR:R=some (r3 S e)):(Option.bind r fun v3=>bif v3.2 then some (v3.1,s,true)else R)=some (r3 (jo o s S) e):=by
 obtain⟨x,rfl,h2⟩:=h;subst hR;cases o with
 |none=>rfl
 |some y=>obtain rfl:=h2 y rfl;rfl
theorem ajp{N:Nat}{e:an}(h:En N e)(k:Kn):Gz N e (kn k)=some (r3 (m3 e k) e):=
 nq (afO h) (nq (aaM h) (nq (aap h) (nq (ajS h) (nq (ah2 h) (nq (acG h) (nq (adp h) (nq (ajD h k) (nq (acW h k) (nq (YA h) (nq (acH h) rfl))))))))))
theorem Qe{e:an}(h:u7 e):e.ax.length≤3:=by
 have sh:=ft h;clear h;cases sh<;>simp
theorem Wi{N:Nat}{e:an}(h:En N e)(k:Kn)(rec:an→Kn→ak5 (an×ak4×Bool))(hr:∀x∈e.ax,∀q,rec x q=some (r3 (iM x q) x)):
 ∀(l:ak3 an)(i:Nat),e.ax.drop i=l→vp N e k rec l i=some (r3 (jv iM e k i l) e)
 |[],i,_=>rfl
 |x::l,i,hd=>by
  have hx:x∈e.ax:=aks (cd hd);have hl:=Qe h.node;rw[vp,agu h,ake,hr x hx,ake,jv];cases hf:iM x (qm e k i)with
  |none=>exact Wi h k rec hr l (i+1) (iZ hd)
  |some y=>
   show(bif Nat.ble (e.ax.length*160) 140737488355328 then Option.bind (e.ax[i]?) fun v10=>bif Nat.beq (e.ax.set i y.1).length e.ax.length then some ((⟨e.ar,e.aV,e.ba,e.aD,e.aM,e.xIdx,e.ax.set i y.1⟩:an),y.2,true)else none else none)=_;rw[n4 (by omega),cd hd,List.length_set,q7];rfl
theorem WU{N:Nat}{e:an}(h:En N e)(k:Kn)(rec:an→eC→ak5 (an×ak4×Bool))(hr:∀x∈e.ax,∀q,rec x (kn q)=some (r3 (iM x q) x)):
 ∀(l:ak3 an)(i:Nat),e.ax.drop i=l→wE N e (kn k) rec l i=some (r3 (jv iM e k i l) e)
 |[],i,_=>rfl
 |x::l,i,hd=>by
  have hx:x∈e.ax:=aks (cd hd);have hl:=Qe h.node;rw[wE,ac8 h,ake,hr x hx,ake,jv];cases hf:iM x (qm e k i)with
  |none=>exact WU h k rec hr l (i+1) (iZ hd)
  |some y=>
   show(bif Nat.ble (e.ax.length*160) 140737488355328 then Option.bind (e.ax[i]?) fun v10=>bif Nat.beq (e.ax.set i y.1).length e.ax.length then some ((⟨e.ar,e.aV,e.ba,e.aD,e.aM,e.xIdx,e.ax.set i y.1⟩:an),y.2,true)else none else none)=_;rw[n4 (by omega),cd hd,List.length_set,q7];rfl
theorem Xh(N:Nat):∀(d:Nat)(e:an)(k:Kn),SizeOf.sizeOf e<d→En N e→ur N d e k=some (r3 (iM e k) e)
 |0,_,_,h,_=>absurd h (akH _)
 |d+1,e,k,hd,h=>by
  have hw:=agI h k;rw[ur,hw,ake,To];cases m3 e k with
  |some y=>rfl
  |none=>exact Wi h k _ (fun x hx q=>Xh N d x q (by have:=fw hx;omega) (h.arg hx)) e.ax 0 rfl
theorem SA(N:Nat):∀(d:Nat)(e:an)(k:Kn),SizeOf.sizeOf e<d→En N e→p9 N d e (kn k)=some (r3 (iM e k) e)
 |0,_,_,h,_=>absurd h (akH _)
 |d+1,e,k,hd,h=>by
  rw[p9,ajp h,ake,To];cases m3 e k with
  |some y=>rfl
  |none=>exact WU h k _ (fun x hx q=>SA N d x q (by have:=fw hx;omega) (h.arg hx)) e.ax 0 rfl
structure YQ(e:an):Prop where
 idx:e.xIdx.length≤1000000
 each:∀x∈e.xIdx,OD x
 args:e.ax.length≤1000000
structure Iv(e:an):Prop where
 nb:∀y∈cz e,YQ y
 gh:∀y∈cz e,y.aM.xL.length≤1000000
 t:iQ e=0→W wT e≤600000
theorem Iv.bd{e:an}(h:Iv e):tg e:=fun y hy=>⟨h.gh y hy,(h.nb y hy).idx,(h.nb y hy).each,(h.nb y hy).args⟩
theorem SC{w:an→Nat}:∀{l:ak3 an}{y:an},y∈l→w y≤(l.map w).sum
 |x::l,y,h=>by
  rw[akE,List.sum_cons];rcases akJ.1 h with rfl|h
  ·omega
  ·have:=SC (w:=w) h;omega
theorem SO{w:an→Nat}{B:Nat}:∀{l:ak3 an},(∀y∈l,w y≤B)→(l.map w).sum≤l.length*B
 |[],_=>Nat.zero_le _
 |x::l,h=>by
  rw[akE,List.sum_cons,aki];have:=SO (w:=w) fun y hy=>h y (ako x hy);have:=h x akl;rw[Nat.succ_mul];omega
theorem ME{w:an→Nat}{B:Nat}{e:an}(h:∀y∈cz e,w y≤B)(hv:iQ e=0):W w e≤2000*B:=by
 have h1:=SO h;have h2:=(AS hv).2.2;have h3:(cz e).length*B≤2000*B:=Nat.mul_le_mul_right _ h2;exact akx h1 h3
theorem Iv.step{t:aC}{e x:an}{s:ak4}(h:Iv e)(hs:eO t e=some (x,s)):Iv x:=by
 have hv:=(tv hs).2.1;have ht:W wT x≤W wT e:=LJ aeE ai6 hs;have h6:=h.t hv;refine⟨Ty (fun t v=>⟨Nat.zero_le _,fun x hx=>(by cases hx),Nat.zero_le _⟩) (fun l=>⟨Nat.zero_le _,fun x hx=>(by cases hx),Nat.zero_le _⟩) (fun op l _ hl=>⟨Nat.zero_le _,fun x hx=>(by cases hx),akx hl (by decide)⟩) (fun e i x hb=>⟨hb.idx,hb.each,by show(e.ax.set i x).length≤_;rw[List.length_set];exact hb.args⟩) hs h.nb,fun y hy=> ?_,fun _=>by omega⟩;have:wT y≤W wT x:=SC hy;exact akx this (by omega)
theorem Iv.en{N:Nat}{e:an}(h:Iv e)(hv:iQ e=0)(hN:9223372036854775808<N)(hs:8*SizeOf.sizeOf e+16≤N):En N e:=
 ⟨hN,hs,(AS hv).1,akx (h.t hv) (by decide)⟩
theorem Yb{N:Nat}{t:aC}{e:an}(h:Iv e)(hN:9223372036854775808<N)(hs:8*SizeOf.sizeOf e+16≤N)(hx:∀x s,eO t e=some (x,s)→SizeOf.sizeOf x<N):rh N t e=some (r3 (eO t e) e):=by
 have hb:=h.bd;unfold rh;rw[o8,agM N (Nat.lt_trans (by decide) hN) e hb.ok,QM,K8 N e (by omega) hb];have gj:eO t e=bif cS t&&iQ e==0 then iM e ⟨t,!eB e⟩else none:=rfl;cases ht:cS t with
 |false=>rw[gj,ht];rfl
 |true=>
  cases hv:iQ e==0 with
  |false=>
   rw[gj,ht,hv];simp only[ake,cond_true,bne_self_eq_false,cond_false,fE,hv];rfl
  |true=>
   have mX:iQ e=0:=by simpa using hv
   have E:=h.en mX hN hs;simp only[ake,cond_true,bne_self_eq_false,cond_false,fE,hv,Bool.not_true];have hf:=Xh N N e ⟨t,!eB e⟩ (by omega) E;have Gi:eO t e=iM e ⟨t,!eB e⟩:=by rw[gj,ht,hv];rfl
   unfold Pm;rw[hf,ake,Gi];cases hr:iM e ⟨t,!eB e⟩with
   |none=>
    show Option.bind (tH N e) _=_;rw[K8 N e (by omega) hb];rfl
   |some y=>
    have ck:eO t e=some (y.1,y.2):=by rw[Gi,hr]
    show Option.bind (tH N y.1) _=_;rw[K8 N y.1 (hx y.1 y.2 ck) (h.step ck).bd];rfl
theorem aad{N:Nat}{t:aC}{e:an}(h:Iv e)(hN:9223372036854775808<N)(hs:8*SizeOf.sizeOf e+16≤N):sK N t e=some (r3 (eO t e) e):=by
 have hb:=h.bd;unfold sK Jo;rw[sW,ae0 N (Nat.lt_trans (by decide) hN) e (by omega) hb.ok,T9];have gj:eO t e=bif cS t&&iQ e==0 then iM e ⟨t,!eB e⟩else none:=rfl;cases ht:cS t with
 |false=>rw[gj,ht];rfl
 |true=>
  cases hv:iQ e==0 with
  |false=>
   rw[gj,ht,hv];simp only[ake,cond_true,fE,hv]<;>rfl
  |true=>
   have mX:iQ e=0:=by simpa using hv
   have E:=h.en mX hN hs;simp only[ake,cond_true,cond_false,fE,hv,Bool.not_true];have hf:=SA N N e ⟨t,!eB e⟩ (by omega) E;have hf':p9 N N e ⟨t,!eB e⟩=some (r3 (iM e ⟨t,!eB e⟩) e):=hf;have Gi:eO t e=iM e ⟨t,!eB e⟩:=by rw[gj,ht,hv];rfl
   unfold NC;rw[hf',ake,Gi]
theorem abe(n:Nat):yg (n+3000)=some true:=by kernel_rfl
theorem kj.iv{e:an}(h:kj 300 e):Iv e:=by
 refine⟨fun y hy=> ?_,fun y hy=>akx (h y hy).gh (by decide),fun hv=>ME (w:=wT) (B:=300) (fun y hy=>(h y hy).gh) hv⟩;have H:=h y hy;exact⟨akx H.idx (by decide),fun x hx=>⟨akx (H.each x hx).gh (by decide),akx (H.each x hx).at_ (by decide),fun l hl=>akx ((H.each x hx).zl l hl) (by decide)⟩,akx H.args (by decide)⟩
noncomputable def mC:Nat→aC→an→Nat→an×Nat
 |0,_,e,n=>(e,n)
 |f+1,t,e,n=>match eO t e with|some y=>mC f t y.1 (n+1)|none=>(e,n)
noncomputable def s9:Nat→aC→an→Nat
 |0,_,e=>SizeOf.sizeOf e
 |f+1,t,e=>SizeOf.sizeOf e+match eO t e with|some y=>s9 f t y.1|none=>0
theorem FT(f:Nat)(t:aC)(e:an):SizeOf.sizeOf e≤s9 f t e:=by
 cases f with
 |zero=>exact akq _
 |succ f=>exact akU _ _
theorem W7{f:Nat}{t:aC}{e:an}{y:an×ak4}(h:eO t e=some y):s9 (f+1) t e=SizeOf.sizeOf e+s9 f t y.1:=by rw[s9,h]
theorem K5{f:Nat}{t:aC}{e:an}{n:Nat}{y:an×ak4}(h:eO t e=some y):mC (f+1) t e n=mC f t y.1 (n+1):=by rw[mC,h]
theorem Ku{f:Nat}{t:aC}{e:an}{n:Nat}(h:eO t e=none):mC (f+1) t e n=(e,n):=by rw[mC,h]
structure Rn(N f:Nat)(t:aC)(e:an)(n:Nat):Prop where
 m:W wM e<f
 hN:9223372036854775808<N
 sz:8*s9 f t e+16≤N
 iv:Iv e
 n:iQ e=0→n+W wM e≤100000
theorem Rn.next{N f:Nat}{t:aC}{e:an}{n:Nat}(h:Rn N (f+1) t e n){y:an×ak4}(hs:eO t e=some y):Rn N f t y.1 (n+1):=by
 have ck:eO t e=some (y.1,y.2):=hs;have hm:=aeW ck;have:=h.m;have h1:=h.sz;rw[W7 hs]at h1;have h2:=h.n (tv ck).2.1;exact⟨by omega,h.hN,by omega,h.iv.step ck,fun _=>by omega⟩
theorem Rn.step{N f:Nat}{t:aC}{e:an}{n:Nat}(h:Rn N f t e n):rh N t e=some (r3 (eO t e) e)∧sK N t e=some (r3 (eO t e) e):=by
 obtain⟨f,rfl⟩:∃k,f=k+1:=⟨f-1,by have:=h.m;omega⟩;have h1:=h.sz;have h2:=FT (f+1) t e;refine⟨Yb h.iv h.hN (by omega) fun x s hs=> ?_,aad h.iv h.hN (by omega)⟩;rw[W7 hs]at h1;have h3:=FT f t x;dsimp only at h1;omega
theorem XM(N:Nat)(t:aC):∀(f:Nat)(e:an)(n F:Nat),Rn N f t e n→f≤F→tR N t F (n:Int) e=some ((mC f t e n).1,((mC f t e n).2:Int))
 |0,e,n,F,h,_=>absurd h.m (akH _)
 |f+1,e,n,F,h,hF=>by
  obtain⟨F,rfl⟩:∃k,F=k+1:=⟨F-1,by omega⟩;rw[tR,h.step.1,ake];cases hs:eO t e with
  |none=>rw[Ku hs];rfl
  |some y=>
   have hn:=h.n (tv (x:=y.1) (s:=y.2) hs).2.1;rw[K5 hs];show tR N t F (aQ ((n:Int)+1)) y.1=_;rw[xt (by omega)];exact XM N t f y.1 (n+1) F (h.next hs) (by omega)
theorem PQ(N:Nat)(t:aC):∀(f:Nat)(e:an)(n F:Nat),Rn N f t e n→f≤F→sC N t F (n:Int) (r3 (eO t e) e).2.2 e (r3 (eO t e) e).1=some ((mC f t e n).1,((mC f t e n).2:Int))
 |0,e,n,F,h,_=>absurd h.m (akH _)
 |f+1,e,n,F,h,hF=>by
  obtain⟨F,rfl⟩:∃k,F=k+1:=⟨F-1,by omega⟩;rw[sC];cases hs:eO t e with
  |none=>rw[Ku hs];rfl
  |some y=>
   have hn:=h.n (tv (x:=y.1) (s:=y.2) hs).2.1;have hy:=h.next hs;rw[K5 hs];show Option.bind (sK N t y.1) _=_;rw[hy.step.2,ake];show sC N t F (aQ ((n:Int)+1)) (r3 (eO t y.1) y.1).2.2 y.1 (r3 (eO t y.1) y.1).1=_;rw[xt (by omega)];exact PQ N t f y.1 (n+1) F hy (by omega)
noncomputable def jF(t:aC)(e:an):an×Nat:=mC (W wM e+1) t e 0
noncomputable def RC(t:aC)(e:an):Nat:=s9 (W wM e+1) t e
theorem adl{N:Nat}{t:aC}{e:an}(h:Rn N (W wM e+1) t e 0)(hN:W wM e<N):JT N t e=some ((jF t e).1,((jF t e).2:Int)):=XM N t _ e 0 N h (by omega)
theorem adH{N:Nat}{t:aC}{e:an}(h:Rn N (W wM e+1) t e 0)(hN:W wM e<N):Ds N t e=some ((jF t e).1,((jF t e).2:Int)):=by
 unfold Ds;rw[h.step.2,ake];exact PQ N t _ e 0 N h (by omega)
structure QN(N:Nat)(t:aC)(e x:an):Prop where
 none:eO t x=none
 step:rh N t x=some (r3 (eO t x) x)
 sz:8*SizeOf.sizeOf x+16≤N
 nn:W wN x≤W wN e
 cost:W wC x≤W wC e
 same:x=e∨iQ e=0
 iv:Iv x
 VL:(∀y∈cz e,y.ar=1∨y.ar=2∨y.ar=3→y.ax=[])→∀y∈cz x,y.ar=1∨y.ar=2∨y.ar=3→y.ax=[]
theorem Qj(N:Nat)(t:aC):∀(f:Nat)(e:an)(n:Nat),Rn N f t e n→QN N t e (mC f t e n).1
 |0,e,n,h=>absurd h.m (akH _)
 |f+1,e,n,h=>by
  cases hs:eO t e with
  |none=>
   rw[Ku hs];exact⟨hs,h.step.1,by have:=h.sz;have:=FT (f+1) t e;show 8*SizeOf.sizeOf e+16≤N;omega,akq _,akq _, .inl rfl,h.iv,fun h=>h⟩
  |some y=>
   have ck:eO t e=some (y.1,y.2):=hs;rw[K5 hs];have r:=Qj N t f y.1 (n+1) (h.next hs);refine⟨r.none,r.step,r.sz,akx r.nn (LJ ae3 ag2 ck),akx r.cost (LJ ad0 adG ck), .inr (tv ck).2.1,r.iv,fun hl=>r.VL ?_⟩;refine Ty (P:=fun y=>y.ar=1∨y.ar=2∨y.ar=3→y.ax=[]) (fun _ _ _=>rfl) (fun _ _=>rfl) (fun op l h4 _ h=> ?_) (fun e i x hp h=> ?_) ck hl
   ·have h':op=1∨op=2∨op=3:=h;omega
   ·have h':e.ar=1∨e.ar=2∨e.ar=3:=h;show e.ax.set i x=[];rw[hp h'];rfl
theorem ahT(x:aH)(l:ak3 aH):nk (x::l)=(bif bL x.xFrom==[]then 0 else 1)+nk l:=by
 unfold nk;rw[List.filter_cons];cases bL x.xFrom==[]<;>simp<;>omega
theorem Ld(N:Nat):∀(l:ak3 aH)(k v:Nat),v+l.length≤4000000000000000000→m5 N l k (v:Int)=some (aQ (1+((v+nk l:Nat):Int)))
 |[],_,v,_=>rfl
 |x::l,k,v,h=>by
  rw[aki]at h;rw[m5,ahT,uh];cases bL x.xFrom==[]with
  |true=>
   simp only[cond_true];rw[Ld N l (k+1) v (by omega),akz]
  |false=>
   simp only[cond_false];rw[xt (by omega),Ld N l (k+1) (v+1) (by omega),show v+1+nk l=v+(1+nk l) by omega]
theorem U6(N:Nat)(rec:an→ak5 Int):∀(l:ak3 an)(k v:Nat),(∀x∈l,rec x=some ((W wC x:Nat):Int))→v+WL wC l≤4000000000000000000→m6 N rec l k (v:Int)=some (aQ (1+((v+WL wC l:Nat):Int)))
 |[],_,v,_,_=>rfl
 |x::l,k,v,hr,h=>by
  rw[lW]at h;rw[m6,hr x akl,ake,lW];have e1:aQ ((v:Int)+((W wC x:Nat):Int))=((v+W wC x:Nat):Int):=sa (by omega);rw[e1];show m6 N rec l (k+1) ((v+W wC x:Nat):Int)=_;rw[U6 N rec l (k+1) (v+W wC x) (fun y hy=>hr y (ako _ hy)) (by omega),Nat.add_assoc]
theorem QX{n:Nat}(h:n≤4000000000000000001):aQ (1+(n:Int))=((1+n:Nat):Int):=by
 have:=sa (a:=1) (b:=n) (by omega);exact this
theorem Lv(N:Nat):∀(d:Nat)(e:an),SizeOf.sizeOf e<d→(∀y∈cz e,y.ar=1∨y.ar=2∨y.ar=3→y.ax=[])→(∀y∈cz e,y.xIdx.length≤1000000)→W wC e≤1000000000000→jI N d e=some ((W wC e:Nat):Int)
 |0,_,h,_,_,_=>absurd h (akH _)
 |d+1,e,hd,hl,hi,hw=>by
  have ih:∀x∈e.ax,jI N d x=some ((W wC x:Nat):Int):=fun x hx=>Lv N d x (by have:=fw hx;omega) (fun y hy=>hl y (j8 hx hy)) (fun y hy=>hi y (j8 hx hy)) (by
   have:=jz (w:=wC) hx;rw[cD]at hw;omega)
  have hle:=hl e (rG e);have hie:=hi e (rG e);rw[cD]at hw ⊢;rw[jI];have h2:=Ld N e.xIdx 0 0 (by omega);have h3:=U6 N (jI N d) e.ax 0 0 ih (by omega);unfold AZ;by_cases h1:e.ar=1
  ·have ha:=hle (.inl h1);rw[ha];unfold wC;rw[h1];rfl
  ·by_cases GM:e.ar=2
   ·have ha:=hle (.inr (.inl GM));rw[ha];unfold wC;rw[GM];rfl
   ·by_cases Fy:e.ar=3
    ·have ha:=hle (.inr (.inr Fy));have hg:nk e.xIdx≤e.xIdx.length:=List.length_filter_le _ _;rw[ha];have N6:wC e=1+nk e.xIdx:=by unfold wC;rw[Fy];rfl
     rw[N6,Fy];have Dg:m5 N e.xIdx 0 0=some (aQ (1+((0+nk e.xIdx:Nat):Int))):=h2;show m5 N e.xIdx 0 0=_;rw[Dg,akz,QX (by omega)];rfl
    ·have N6:wC e=1:=by
      unfold wC;rw[beq_false_of_ne h1,beq_false_of_ne GM,beq_false_of_ne Fy];rfl
     rw[N6,beq_false_of_ne h1,beq_false_of_ne GM,beq_false_of_ne Fy];have GA:m6 N (jI N d) e.ax 0 0=some (aQ (1+((0+WL wC e.ax:Nat):Int))):=h3;show m6 N (jI N d) e.ax 0 0=_;rw[GA,akz,QX (by omega)]
theorem Qh(e:an):W wN e=(cz e).length:=by
 unfold W;have:∀l:ak3 an,(l.map wN).sum=l.length:=fun l=>by
  induction l with
  |nil=>rfl
  |cons x l ih=>rw[akE,List.sum_cons,ih,aki];show 1+_=_;omega
 exact this _
theorem aie{e:an}(h:vE e):∀y∈cz e,y.ar=1∨y.ar=2∨y.ar=3→y.ax=[]:=fun y hy ho=>by
 have hr:=h.ld y hy;have:kf y.ar=0:=by rcases ho with ho|ho|ho<;>(rw[ho];rfl)
 rw[this]at hr;exact List.length_eq_zero_iff.1 (by omega)
theorem P3(N:Nat):∀(d:Nat)(e:an),SizeOf.sizeOf e<d→∃c,jI N d e=some c
 |0,_,h=>absurd h (akH _)
 |d+1,e,hd=>by
  have L2:∀(l:ak3 aH)(k:Nat)(v:Int),∃c,m5 N l k v=some c:=fun l=>by
   induction l with
   |nil=>intro k v;exact⟨_,rfl⟩
   |cons x l ih=>
    intro k v;rw[m5];cases bL x.xFrom==bL (bs [])
    ·exact ih _ _
    ·exact ih _ _
  have L3:∀(l:ak3 an)(k:Nat)(v:Int),(∀x∈l,x∈e.ax)→∃c,m6 N (jI N d) l k v=some c:=fun l=>by
   induction l with
   |nil=>intro k v _;exact⟨_,rfl⟩
   |cons x l ih=>
    intro k v hl;obtain⟨c,hc⟩:=P3 N d x (by have:=fw (hl x akl);omega);rw[m6,hc,ake];exact ih _ _ fun y hy=>hl y (ako _ hy)
  rw[jI];unfold AZ;obtain⟨c2,h2⟩:=L2 e.xIdx 0 0;obtain⟨c3,h3⟩:=L3 e.ax 0 0 fun x hx=>hx;rw[h2,h3];cases e.ar==1<;>cases e.ar==2<;>cases e.ar==3<;>exact⟨_,rfl⟩
theorem kj.idx{B:Nat}{e:an}(h:kj B e):∀y∈cz e,y.xIdx.length≤B:=fun y hy=>(h y hy).idx
theorem ajO{y:an}(h:y.xIdx.length≤300):wC y≤301:=by
 have hg:nk y.xIdx≤y.xIdx.length:=List.length_filter_le _ _;unfold wC;cases y.ar==1||y.ar==2
 ·cases y.ar==3
  ·simp
  ·simp only[cond_false,cond_true];omega
 ·simp
theorem aei(N:Nat)(t:aC)(e:an)(hN:9223372036854775808<N)(hl:kj z6 e)(nM:W wM e+2≤N)(hs:8*RC t e+16≤N):GB N t e=some true:=by
 have ex:yg N=some true:=by
  obtain⟨n,rfl⟩:∃n,N=n+3000:=⟨N-3000,by omega⟩;exact abe n
 have ajY:=FT (W wM e+1) t e;have ck:8*s9 (W wM e+1) t e+16≤N:=hs;obtain⟨w,w1,w2,w3,w4⟩:=R2 N N e 300 (by decide) (by omega) hl;unfold GB OM;have Yh:lT N N e 300=some (w:Int):=w1;rw[Yh,ake,ex];by_cases hw:w≤300
 ·have hI:=(w4 hw).iv;have R:Rn N (W wM e+1) t e 0:=⟨ak1 _,hN,ck,hI,fun hv=>by
   have:=ME (w:=wM) (B:=3) (fun y _=>by unfold wM;cases y.ar==2<;>simp) hv;omega⟩
  have E:QN N t e (jF t e).1:=Qj N t _ e 0 R;rw[akX (show ¬(w:Int)>300 by omega)];unfold uG HH;rw[adl R (by omega),adH R (by omega)];simp only[cond_false,ake];rw[E.step,ake,E.none];have sz:=E.sz;have DO:=EY (N:=N) (a:=(jF t e).1) (jF t e).1 (by omega);show Option.bind (jk N (jF t e).1 (jF t e).1) (fun v8=>Option.bind (bif v8 then Option.bind (jk N (jF t e).1 (jF t e).1) _ else some false) _)=_;rw[DO,Zv.2 rfl];simp only[ake,cond_true];rw[show(bL (r3 none (jF t e).1).2.1==bL (bs []))=true from rfl,show(r3 none (jF t e).1).2.2=false from rfl];simp only[cond_true,cond_false];rw[Pu,Pu,ake,ake];have hn:=E.nn;rw[Qh,Qh]at hn;rw[akW (show((min (cz (jF t e).1).length 2001:Nat):Int)≤((min (cz e).length 2001:Nat):Int) by omega)];simp only[cond_true];have abT:∃c1 c2,zd N (jF t e).1=some c1∧zd N e=some c2∧c1≤c2:=by
   rcases E.same with h|h
   ·obtain⟨c,hc⟩:=P3 N N e (by omega);rw[h];exact⟨c,c,hc,hc,Int.le_refl _⟩
   ·have nJ:=(w4 hw).idx;have hv:=(AS h).1;have hle:=aie hv;have hC:W wC e≤2000*301:=ME (fun y hy=>ajO (nJ y hy)) h;have c2:=Lv N N e (by omega) hle (fun y hy=>akx (nJ y hy) (by decide)) (by omega);have hcc:=E.cost;have hx:∀y∈cz (jF t e).1,y.xIdx.length≤1000000:=fun y hy=>(E.iv.nb y hy).idx;have c1:=Lv N N (jF t e).1 (by omega) (E.VL hle) hx (by omega);exact⟨_,_,c1,c2,by omega⟩
  obtain⟨c1,c2,h1,h2,h3⟩:=abT;rw[h1,h2,ake,ake,akW h3];rfl
 ·rw[akW (show(w:Int)>300 by omega)];rfl
def xG(k:IntKind)(n:Int):Prop:=k.min≤n∧n≤k.max
theorem JI{n:Int}(h:xG .i64 n):∃m:Int64,n=m.toInt:=by
 refine⟨Int64.ofInt n,?_⟩;have h1:aQ n=n:=by
  unfold aQ;rw[IntKind.wrap_i64];have h2: -9223372036854775808≤n:=h.1;have h3:n≤9223372036854775807:=h.2;omega
 rw[Int64.toInt_ofInt,←yN];exact h1.symm
theorem UO{p:ak3 D}:∀{l:ak3 (ak3 D)},p∈l→SizeOf.sizeOf p≤SizeOf.sizeOf l.flatten
 |[],h=>by cases h
 |q::l,h=>by
  have app:∀a b:ak3 D,SizeOf.sizeOf a≤SizeOf.sizeOf (a++b)∧SizeOf.sizeOf b≤SizeOf.sizeOf (a++b):=by
   intro a b
   induction a with
   |nil=>cases b<;>simp only[List.nil_append,List.nil.sizeOf_spec,List.cons.sizeOf_spec]<;>omega
   |cons x a ih=>simp only[List.cons_append,List.cons.sizeOf_spec];omega
  rw[List.flatten_cons];rcases akJ.1 h with rfl|h
  ·exact(app _ _).1
  ·exact akx (UO h) (app _ _).2
structure WQ(x:ay):Prop where
 h0:True
 h1:True
theorem abt{xs:ak3 D}(h:eK Tryz.prog 25 xs):∃x:ay,xs=Jz x∧WQ x:=by
 obtain⟨parts,rfl,hl,hx⟩:=h.Ag Tryz.underlying25
 match parts,hl with
 |[a0,a1],_=>
 obtain⟨rm,rfl,nC⟩:=(hx 0 _ _ rfl rfl).oC Tryz.underlying2;obtain⟨NB,rfl⟩:=JI nC;obtain⟨rj,rfl,n8⟩:=(hx 1 _ _ rfl rfl).oC Tryz.underlying2;obtain⟨Ma,rfl⟩:=JI n8;exact⟨⟨NB,Ma⟩,rfl,⟨trivial,trivial⟩⟩
structure ND(x:aC):Prop where
 h0:xG .i64 x.a8
 h1:xG .i64 x.bz
 h2:xG .i64 x.xFrac
 h3:xG .i64 x.bK
 h4:xG .i64 x.bM
theorem U7{xs:ak3 D}(h:eK Tryz.prog 23 xs):∃x:aC,xs=ahK x∧ND x:=by
 obtain⟨parts,rfl,hl,hx⟩:=h.Ag Tryz.underlying23
 match parts,hl with
 |[a0,a1,a2,a3,a4],_=>
 obtain⟨rm,rfl,nC⟩:=(hx 0 _ _ rfl rfl).oC Tryz.underlying3;obtain⟨rj,rfl,n8⟩:=(hx 1 _ _ rfl rfl).oC Tryz.underlying3;obtain⟨DP,rfl,C8⟩:=(hx 2 _ _ rfl rfl).oC Tryz.underlying3;obtain⟨Nl,rfl,KH⟩:=(hx 3 _ _ rfl rfl).oC Tryz.underlying3;obtain⟨Oh,rfl,MV⟩:=(hx 4 _ _ rfl rfl).oC Tryz.underlying3;exact⟨⟨rm,rj,DP,Nl,Oh⟩,rfl,⟨nC,n8,C8,KH,MV⟩⟩
structure Ih(x:aU):Prop where
 h0:x.aV.size≤maxLen
 h1:True
theorem YU{xs:ak3 D}(h:eK Tryz.prog 114 xs):∃x:aU,xs=uK x∧Ih x:=by
 obtain⟨parts,rfl,hl,hx⟩:=h.Ag Tryz.underlying114
 match parts,hl with
 |[a0,a1],_=>
 obtain⟨rm,rfl,nC⟩:=(hx 0 _ _ rfl rfl).N8 Tryz.underlying9;obtain⟨rj,rfl,n8⟩:=(hx 1 _ _ rfl rfl).oC Tryz.underlying2;obtain⟨Ma,rfl⟩:=JI n8;exact⟨⟨rm,Ma⟩,rfl,⟨nC,trivial⟩⟩
theorem ajH{xs:ak3 D}(h:eK Tryz.prog 26 xs):∃l:ak3 aU,xs=[.sl (b5 l)]∧(l.length≤140737488355328∧∀a∈l,Ih a):=by
 obtain⟨l,rfl,hl,hs⟩:=h.Jk Tryz.underlying26;obtain⟨r,rfl,hr⟩:=Ch (f:=uK) (Q:=fun a=>Ih a) l (fun x hx=>YU (hs x hx));exact⟨r,by rw[ry],by simpa using hl,hr⟩
structure y4(x:aF):Prop where
 h0:True
 h1:x.xL.length≤140737488355328∧∀a∈x.xL,Ih a
theorem O9{xs:ak3 D}(h:eK Tryz.prog 28 xs):∃x:aF,xs=iY x∧y4 x:=by
 obtain⟨parts,rfl,hl,hx⟩:=h.Ag Tryz.underlying28
 match parts,hl with
 |[a0,a1],_=>
 obtain⟨rm,rfl,nC⟩:=(hx 0 _ _ rfl rfl).oC Tryz.underlying2;obtain⟨NB,rfl⟩:=JI nC;obtain⟨rj,rfl,n8⟩:=ajH (hx 1 _ _ rfl rfl);exact⟨⟨NB,rj⟩,rfl,⟨trivial,n8⟩⟩
theorem aje{xs:ak3 D}(h:eK Tryz.prog 58 xs):∃l:ak3 aF,xs=[.sl (du l)]∧(l.length≤140737488355328∧∀a∈l,y4 a):=by
 obtain⟨l,rfl,hl,hs⟩:=h.Jk Tryz.underlying58;obtain⟨r,rfl,hr⟩:=Ch (f:=iY) (Q:=fun a=>y4 a) l (fun x hx=>O9 (hs x hx));exact⟨r,by rw[qp],by simpa using hl,hr⟩
structure JZ(x:aH):Prop where
 h0:y4 x.aM
 h1:x.xFrom.size≤maxLen
 h2:x.bD.length≤140737488355328∧∀a∈x.bD,y4 a
theorem abq{xs:ak3 D}(h:eK Tryz.prog 60 xs):∃x:aH,xs=eY x∧JZ x:=by
 obtain⟨parts,rfl,hl,hx⟩:=h.Ag Tryz.underlying60
 match parts,hl with
 |[a0,a1,a2],_=>
 obtain⟨rm,rfl,nC⟩:=O9 (hx 0 _ _ rfl rfl);obtain⟨rj,rfl,n8⟩:=(hx 1 _ _ rfl rfl).N8 Tryz.underlying9;obtain⟨DP,rfl,C8⟩:=aje (hx 2 _ _ rfl rfl);exact⟨⟨rm,rj,DP⟩,rfl,⟨nC,n8,C8⟩⟩
theorem aal{xs:ak3 D}(h:eK Tryz.prog 29 xs):∃l:ak3 aH,xs=[.sl (cm l)]∧(l.length≤140737488355328∧∀a∈l,JZ a):=by
 obtain⟨l,rfl,hl,hs⟩:=h.Jk Tryz.underlying29;obtain⟨r,rfl,hr⟩:=Ch (f:=eY) (Q:=fun a=>JZ a) l (fun x hx=>abq (hs x hx));exact⟨r,by rw[qD],by simpa using hl,hr⟩
inductive wi:an→Prop
 |mk (x:an) (h0:xG .i64 x.ar) (h1:x.aV.size≤maxLen) (h2:WQ x.ba) (h3:ND x.aD) (h4:y4 x.aM) (h5:x.xIdx.length≤140737488355328∧∀a∈x.xIdx,JZ a) (h6:x.ax.length≤140737488355328) (g6:∀a∈x.ax,wi a):wi x
theorem Rj:∀(n:Nat)(xs:ak3 D),SizeOf.sizeOf xs<n→eK Tryz.prog 32 xs→∃x:an,xs=cJ x∧wi x
 |0,_,h,_=>absurd h (akH _)
 |n+1,xs,hn,h=>by
  obtain⟨parts,rfl,hl,hx⟩:=h.Ag Tryz.underlying32
  match parts,hl with
  |[a0,a1,a2,a3,a4,a5,a6],_=>
  obtain⟨rm,rfl,nC⟩:=(hx 0 _ _ rfl rfl).oC Tryz.underlying3;obtain⟨rj,rfl,n8⟩:=(hx 1 _ _ rfl rfl).N8 Tryz.underlying9;obtain⟨DP,rfl,C8⟩:=abt (hx 2 _ _ rfl rfl);obtain⟨Nl,rfl,KH⟩:=U7 (hx 3 _ _ rfl rfl);obtain⟨Oh,rfl,MV⟩:=O9 (hx 4 _ _ rfl rfl);obtain⟨aat,rfl,ZL⟩:=aal (hx 5 _ _ rfl rfl);obtain⟨l_,rfl,afk,hs_⟩:=(hx 6 _ _ rfl rfl).Jk Tryz.underlying30;obtain⟨r_,rfl,hr_⟩:=Ch (f:=cJ) (Q:=wi) l_ (fun x hx=>Rj n x (by have h1:=List.sizeOf_lt_of_mem hx;have h2:SizeOf.sizeOf [D.sl l_]<n+1:=Nat.lt_of_le_of_lt (UO (by simp)) hn;simp only[List.cons.sizeOf_spec,D.sl.sizeOf_spec,List.nil.sizeOf_spec]at h2;omega) (hs_ x hx));refine⟨⟨rm,rj,DP,Nl,Oh,aat,r_⟩,?_, .mk _ nC n8 C8 KH MV ZL (by simpa using afk) hr_⟩;show _=cJ _;unfold cJ;rw[fa];rfl
theorem Zc{xs:ak3 D}(h:eK Tryz.prog 32 xs):∃x:an,xs=cJ x∧wi x:=Rj _ xs (ak1 _) h
def afm:ak3 TypeId:=[2,3,4,9,23,25,26,28,29,30,32,47,48,49,50,52,58,60,96,98,100,102,104,114]
theorem WK:NH Tryz.prog afm=true:=by kernel_rfl
theorem aaB{e:an}(h:wi e):kj z6 e:=by
 induction h with
 |mk x h0 h1 h2 h3 h4 h5 h6 g6 ih=>
  intro y hy;rcases akJ.1 hy with rfl|hy
  ·exact⟨h4.h1.1,h5.1,fun z hz=>⟨(h5.2 z hz).h0.h1.1,(h5.2 z hz).h2.1,fun l hl=>((h5.2 z hz).h2.2 l hl).h1.1⟩,h6⟩
  ·obtain⟨a,ha,hy⟩:=BE hy;exact ih a ha y hy
theorem ajr(t:aC)(e:an)(_:ND t)(h:wi e):aG Tryz.prog 4 [bY t,aA e] (·= .d (.v (.bool true))):=
 ae2 (9223372036854775900+8*RC t e+W wM e) t e true (aei _ t e (by omega) (aaB h) (by omega) (by omega))
end Go.Proofs.YtpgmcallngdceaaGreatDoor
