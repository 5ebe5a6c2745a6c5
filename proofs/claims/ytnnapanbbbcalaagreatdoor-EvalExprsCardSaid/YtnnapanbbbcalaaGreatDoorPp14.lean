/-
  Part 14 of the proof: SmVF, EvD, InVal3, InVal4, EvE, EvF, EvG, EvH, Wts, EvI, OpenT, EvExprsAbs.
-/
import Derived.Test.YtnnapanbbbcalaaGreatDoorPp13
namespace Go.Proofs.YtnnapanbbbcalaaGreatDoor
open Go.RowKit
set_option maxRecDepth 100000
set_option linter.unusedSimpArgs false
set_option linter.unusedVariables false
theorem adg{n d:Int}: -(n.natAbs:Int)<=n.tdiv d*d/\n.tdiv d*d<=(n.natAbs:Int):=by
 have h:(n.tdiv d*d).natAbs<=n.natAbs:=by rw[Int.natAbs_mul,Int.natAbs_tdiv];exact Nat.div_mul_le_self _ _
 omega
theorem IP(N:Nat)(n d:Int64)(hd:0<d.toInt)(b1: -4611686025000000000<=n.toInt)(b2:n.toInt<=4611686025000000000):
 wq N n d=some (Int64.ofInt (n.toInt / d.toInt)):=by
 have t1:=KL (a:=n.toInt) (b:=d.toInt);have t2:=adg (n:=n.toInt) (d:=d.toInt);have q1:(Int64.ofInt (n.toInt.tdiv d.toInt)).toInt=n.toInt.tdiv d.toInt:=jf (by omega) (by omega);have q2:((Int64.ofInt (n.toInt.tdiv d.toInt))*d).toInt=n.toInt.tdiv d.toInt*d.toInt:=by
  rw[qw]<;>rw[q1]<;>omega
 have q3:((Int64.ofInt (n.toInt.tdiv d.toInt))-(1:Int64)).toInt=n.toInt.tdiv d.toInt-1:=by
  rw[pj]<;>rw[q1,show(1:Int64).toInt=1 from rfl]<;>omega
 have key:=Vo (n:=n.toInt) hd;unfold wq;rw[bne_iff_ne.2 (show d.toInt≠0 by omega),q2];simp only[cond_true];cases hz:decide (n.toInt.tdiv d.toInt*d.toInt>n.toInt)with
 |true=>
  rw[hz]at key;simp only[cond_true]at key ⊢
  congr 1
  exact rj (q3.trans key)
 |false=>
  rw[hz]at key;simp only[cond_false]at key ⊢;rw[<-key]
theorem MC{n d B:Int}(hd:0<d)(hB:0<=B)(h1: -B<=n)(h2:n<=B): -B<=n / d/\n / d<=B/\n-d<n / d*d/\n / d*d<=n:=by
 have e:=Int.mul_ediv_add_emod n d;have e1:=Int.emod_nonneg n (show d≠0 by omega);have e2:=Int.emod_lt_of_pos n hd;rw[Int.mul_comm]at e;refine⟨?_,?_,by omega,by omega⟩
 ·refine Int.le_ediv_of_mul_le hd ?_;have:B*1<=B*d:=Int.mul_le_mul_of_nonneg_left (by omega) hB;rw[Int.neg_mul];omega
 ·by_cases h:0<=n
  ·exact Int.le_trans (Int.ediv_le_self _ h) h2
  ·exact Int.le_trans (Int.le_of_lt (Int.ediv_neg_of_neg_of_pos (by omega) hd)) hB
theorem OD(N:Nat)(n d:Int64)(how:Int)(hd:0<d.toInt)(nv:d.toInt<=4294967296)(b1: -4611686018427387904<=n.toInt)(b2:n.toInt<=4611686018427387904):
 zw N n d how=some (Int64.ofInt (jg n.toInt d.toInt how)):=by
 obtain⟨k1,k2,k3,k4⟩:=MC hd (B:=4611686018427387904) (by decide) b1 b2;have q0:(Int64.ofInt (n.toInt / d.toInt)).toInt=n.toInt / d.toInt:=jf (by omega) (by omega);have q1:(Int64.ofInt (n.toInt / d.toInt)*d).toInt=n.toInt / d.toInt*d.toInt:=by rw[qw]<;>rw[q0]<;>omega
 have q2:(n-Int64.ofInt (n.toInt / d.toInt)*d).toInt=n.toInt-n.toInt / d.toInt*d.toInt:=by rw[pj]<;>rw[q1]<;>omega
 have q3:(d-(n-Int64.ofInt (n.toInt / d.toInt)*d)).toInt=d.toInt-(n.toInt-n.toInt / d.toInt*d.toInt):=by rw[pj]<;>rw[q2]<;>omega
 have q4:Int64.ofInt (n.toInt / d.toInt)+(1:Int64)=Int64.ofInt (n.toInt / d.toInt+1):=rj (by rw[uL]<;>rw[q0,show(1:Int64).toInt=1 from rfl]<;>omega);have q5:(Int64.ofInt ((n.toInt / d.toInt).tmod 2)).toInt=(n.toInt / d.toInt).tmod 2:=by
  have:=N6 (a:=n.toInt / d.toInt) (b:=2) (by decide);exact jf (by omega) (by omega)
 rw[<-abY how (n:=n.toInt) (d:=d.toInt) (q:=n.toInt / d.toInt) (rest:=n.toInt-n.toInt / d.toInt*d.toInt) rfl rfl];unfold zw;rw[IP N n d hd (by omega) (by omega),al4,q2,q3,q0,q5,q4,jM,al4];generalize n.toInt-n.toInt / d.toInt*d.toInt=rest;generalize n.toInt / d.toInt=q;cases (rest==0||how==1)with
 |true=>rfl
 |false=>
  simp only[cond_false];cases how==2 with
  |true=>rfl
  |false=>
   simp only[cond_false];cases how==3 with
   |true=>simp only[cond_true];cases decide (n.toInt<0)<;>rfl
   |false=>
    simp only[cond_false];rw[gw,jM,al4];cases (decide (rest>d.toInt-rest)||(rest==d.toInt-rest&&q.tmod 2 !=0))<;>rfl
theorem ah8(a b:Int64):(qo a b).toInt=max a.toInt b.toInt:=by unfold qo;split<;>omega
theorem akt(a b:Int64):(uY a b).toInt=min a.toInt b.toInt:=by unfold uY;split<;>omega
theorem yZ(N:Nat){t:aP}(F:rT t)(n:Int64)(b1: -4611686018427387905<=n.toInt)(b2:n.toInt<=4611686018427387905):rV N t n=some (lh t n.toInt):=by
 obtain⟨f1,f2,f3,f4,f5,f6⟩:=Ga F.b1 F.b2;obtain⟨h1,h2⟩:=HP F;have m9:(-(Int64.ofInt ((1:Int)*2^(min ((IntKind.u64.wrap (aE (t.bG-(1:Int))))).toNat (IntKind.bits .i64)))))=Int64.ofInt (-cw t):=rj f3;have mf:((Int64.ofInt ((1:Int)*2^(min ((IntKind.u64.wrap (aE (t.bG-(1:Int))))).toNat (IntKind.bits .i64))))-(1:Int64))=Int64.ofInt (cw t-1):=rj f4;have hf0:(Int64.ofInt ((1:Int)*2^(min ((IntKind.u64.wrap (aE (t.bG-(1:Int))))).toNat (IntKind.bits .i64))))=Int64.ofInt (cw t):=by
  have a1:=congrArg Int64.toInt mf;have a2:=f4;have e:∀x:Int64,(x-1).toInt=cw t-1->x=Int64.ofInt (cw t):=λx hx=>by
   refine rj ?_;rw[XT,show(1:Int64).toInt=1 from rfl,IntKind.wrap_i64]at hx;have:=kL x;omega
  exact e _ f4
 have e0:(Int64.ofInt (cw t)).toInt=cw t:=jf (by omega) (by omega);have e1:(Int64.ofInt (-cw t)).toInt= -cw t:=jf (by omega) (by omega);have e2:(Int64.ofInt (cw t-1)).toInt=cw t-1:=jf (by omega) (by omega);have J:∀z:Int64,z.toInt=n.toInt/\(t.cG==2)=false\/(z.toInt=nS true (cw t) n.toInt/\(t.cG==2)=true)->Cb N t z=some (lh t n.toInt):=λz hz=>by
  unfold Cb;rw[m9,mf];unfold lh
  congr 1
  refine Fh ?_ rfl;show(qo (Int64.ofInt (-cw t)) (uY (Int64.ofInt (cw t-1)) z)).toInt=(Int64.ofInt (nS (t.cG==2) (cw t) n.toInt)).toInt;have hb:=aiW (w:=t.cG==2) (h:=cw t) (n:=n.toInt) (by omega);rw[ah8,akt,e1,e2,jf (by omega) (by omega)];rcases hz with⟨hz,ho⟩|⟨hz,ho⟩
  ·rw[hz,ho];rfl
  ·rw[ho]at hb ⊢;rw[hz];omega
 unfold rV;rw[f1];simp only[cond_true];cases ho:t.cG==2 with
 |false=>exact J n (.inl ⟨rfl,ho⟩)
 |true=>
  simp only[cond_true];rw[hf0];have a1:(n+Int64.ofInt (cw t)).toInt=n.toInt+cw t:=by rw[uL]<;>rw[e0]<;>omega
  have a2:((2:Int64)*Int64.ofInt (cw t)).toInt=2*cw t:=by rw[qw]<;>rw[e0,show(2:Int64).toInt=2 from rfl]<;>omega
  rw[IP N _ _ (by rw[a2];omega) (by rw[a1];omega) (by rw[a1];omega),al4,a1,a2];obtain⟨k1,k2,k3,k4⟩:=MC (n:=n.toInt+cw t) (d:=2*cw t) (B:=4611686025000000000) (by omega) (by decide) (by omega) (by omega);have a3:(Int64.ofInt ((n.toInt+cw t)/(2*cw t))).toInt=(n.toInt+cw t)/(2*cw t):=jf (by omega) (by omega);have hq:(n.toInt+cw t)/(2*cw t)*(2*cw t)=(n.toInt+cw t)/(2*cw t)*2*cw t:=by rw[Int.mul_assoc]
  have hm:(n.toInt+cw t)%(2*cw t)=n.toInt+cw t-(n.toInt+cw t)/(2*cw t)*(2*cw t):=by
   rw[Int.emod_def,Int.mul_comm]
  have rF:2<=cw t->-4611686025000000000<=(n.toInt+cw t)/(2*cw t)*2/\(n.toInt+cw t)/(2*cw t)*2<=4611686025000000000:=λhh=>by
   have z1:(n.toInt+cw t)/(2*cw t)*2<=(n.toInt+cw t).natAbs:=by
    by_cases hp:0<=(n.toInt+cw t)/(2*cw t)
    ·have:(n.toInt+cw t)/(2*cw t)*2<=(n.toInt+cw t)/(2*cw t)*(2*cw t):=Int.mul_le_mul_of_nonneg_left (by omega) hp;omega
    ·omega
   have z2: -((n.toInt+cw t).natAbs:Int)-4*cw t<=(n.toInt+cw t)/(2*cw t)*2:=by
    by_cases hp:0<=(n.toInt+cw t)/(2*cw t)
    ·omega
    ·have:(n.toInt+cw t)/(2*cw t)*(2*cw t)<=(n.toInt+cw t)/(2*cw t)*2:=Int.mul_le_mul_of_nonpos_left (by omega) (by omega);omega
   omega
  obtain⟨z1,z2⟩:=rF h1;have a4:(Int64.ofInt ((n.toInt+cw t)/(2*cw t))*(2:Int64)).toInt=(n.toInt+cw t)/(2*cw t)*2:=by rw[qw]<;>rw[a3,show(2:Int64).toInt=2 from rfl]<;>omega
  have a5:(Int64.ofInt ((n.toInt+cw t)/(2*cw t))*(2:Int64)*Int64.ofInt (cw t)).toInt=(n.toInt+cw t)/(2*cw t)*(2*cw t):=by
   rw[qw]<;>rw[a4,e0,<-hq]<;>omega
  refine J _ (.inr ⟨?_,ho⟩);rw[pj]<;>rw[a5]
  ·unfold nS;simp only[cond_true];rw[hm];omega
  ·omega
  ·omega
theorem F6(N:Nat){t:aP}(F:rT t):wF N t=some (Int64.ofInt (gk t)):=by
 obtain⟨s1,s2,s3⟩:=CL F.f1 F.f2;have s4:(Int64.ofInt ((1:Int)*2^(min (t.ck).toNat (IntKind.bits .i64))))=Int64.ofInt (gk t):=rj s2;unfold wF;rw[s1,amM F.f1,s4];rfl
theorem PN{t:aP}(F:rT t):(Int64.ofInt (gk t)).toInt=gk t:=by
 have:=EB F;exact jf (by omega) (by omega)
theorem aio(N:Nat){op:Int}{t:aP}{a b:aB}(F:rT t)(A:Fw t a)(B:op≠8->Fw t b):GU N op t a.xN b.xN=some (Ep op t a.xN.toInt b.xN.toInt):=by
 have a1:=pf F A;have S:=EB F;have s:=PN F;unfold GU Ep;by_cases h8:op=8
 ·subst h8;have e:(-a.xN).toInt= -a.xN.toInt:=qf (by omega);rw[show((8:Int)==4)=false from rfl,show((8:Int)==5)=false from rfl,show((8:Int)==6)=false from rfl,show((8:Int)==8)=true from rfl];simp only[cond_false,cond_true];rw[yZ N F _ (by rw[e];omega) (by rw[e];omega),e];rfl
 have b1:=pf F (B h8);rw[beq_false_of_ne h8];cases op==4 with
 |true=>
  have e:=uL (a:=a.xN) (b:=b.xN) (by omega) (by omega);simp only[cond_true];rw[yZ N F _ (by rw[e];omega) (by rw[e];omega),e];rfl
 |false=>
  simp only[cond_false];cases op==5 with
  |true=>
   have e:=pj (a:=a.xN) (b:=b.xN) (by omega) (by omega);simp only[cond_true];rw[yZ N F _ (by rw[e];omega) (by rw[e];omega),e];rfl
  |false=>
   simp only[cond_false];cases op==6 with
   |true=>
    have M:=xG a1.1 a1.2 b1.1 b1.2;have e:=qw (a:=a.xN) (b:=b.xN) (by omega) (by omega);simp only[cond_true];rw[F6 N F,al4,OD N _ _ _ (by rw[s];omega) (by rw[s];omega) (by rw[e];omega) (by rw[e];omega),al4,e,s];have r:=I0 (n:=a.xN.toInt*b.xN.toInt) (d:=gk t) (how:=t.cx) (B:=4611686018427387904) (by omega) (by decide) (by omega) (by omega);have r2:=xy (n:=a.xN.toInt*b.xN.toInt) (d:=gk t) (how:=t.cx) (by omega) (by omega) (by omega);rw[yZ N F _ (by rw[r2];omega) (by rw[r2];omega),r2];rfl
   |false=>
    simp only[cond_false];by_cases hb:b.xN.toInt=0
    ·rw[hb];rfl
    ·rw[beq_false_of_ne hb];simp only[cond_false];have M:=xG a1.1 a1.2 (show-1073741824<=gk t by omega) S.2;have J:∀x y:Int64,0<y.toInt->y.toInt<=1073741824->-1073741824<=x.toInt->x.toInt<=1073741824->EF N t x y=some (lh t (jg (x.toInt*gk t) y.toInt t.cx),0):=λx y y0 y1 x0 x1=>by
       have M:=xG x0 x1 (show-1073741824<=gk t by omega) S.2;have e:(x*Int64.ofInt (gk t)).toInt=x.toInt*gk t:=by rw[qw]<;>rw[s]<;>omega
       unfold EF;rw[F6 N F,al4,OD N _ _ _ (by omega) (by omega) (by rw[e];omega) (by rw[e];omega),al4,e];have r:=I0 (n:=x.toInt*gk t) (d:=y.toInt) (how:=t.cx) (B:=4611686018427387904) (by omega) (by decide) (by omega) (by omega);have r2:=xy (n:=x.toInt*gk t) (d:=y.toInt) (how:=t.cx) (by omega) (by omega) (by omega);rw[yZ N F _ (by rw[r2];omega) (by rw[r2];omega),r2];rfl
     unfold pG;by_cases rI:b.xN.toInt<0
     ·have ea:(-a.xN).toInt= -a.xN.toInt:=qf (by omega);have eb:(-b.xN).toInt= -b.xN.toInt:=qf (by omega);rw[amM rI];simp only[cond_true];rw[J _ _ (by rw[eb];omega) (by rw[eb];omega) (by rw[ea];omega) (by rw[ea];omega),ea,eb,Int.neg_mul]
     ·rw[amN rI];simp only[cond_false];rw[J _ _ (by omega) (by omega) (by omega) (by omega)]
theorem adL(N:Nat){op:Int}{a b:Int64}(h1: -2147483647<=a.toInt)(h2:a.toInt<=2147483647)(hb:op≠8->-2147483647<=b.toInt/\b.toInt<=2147483647)(ho:4<=op/\op<=8):
 IX N op a b=some (tW op a.toInt b.toInt):=by
 have fin:∀(z:Int64)(n:Int),z.toInt=n->(Option.bind (bif (decide (z.toInt>2147483647))then some true else some (decide (z.toInt<(-2147483647:Int)))) λv=>bif v then some (bK,(3:Int))else some ((⟨z,(1:Int64)⟩:aB),(0:Int)))=some (bif decide (-2147483647<=n)&&decide (n<=2147483647)then(⟨Int64.ofInt n,1⟩,0)else(bK,3)):=λz n hz=>by
  subst hz;rw[jM,al4,F1];by_cases c1:z.toInt>2147483647
  ·rw[amM c1,amN (show ¬z.toInt<=2147483647 by omega),Bool.and_false];rfl
  ·rw[amN c1,amM (show z.toInt<=2147483647 by omega),Bool.and_true];by_cases c2:z.toInt< -2147483647
   ·rw[amM c2,amN (show ¬-2147483647<=z.toInt by omega)];rfl
   ·rw[amN c2,amM (show-2147483647<=z.toInt by omega)];rfl
 unfold IX tW;rcases (by omega:op=4\/op=5\/op=6\/op=7\/op=8)with rfl|rfl|rfl|rfl|rfl
 ·obtain⟨h3,h4⟩:=hb (by decide);exact fin _ _ (uL (a:=a) (b:=b) (by omega) (by omega))
 ·obtain⟨h3,h4⟩:=hb (by decide);exact fin _ _ (pj (a:=a) (b:=b) (by omega) (by omega))
 ·obtain⟨h3,h4⟩:=hb (by decide);exact fin _ _ (ji h1 h2 h3 h4)
 ·obtain⟨h3,h4⟩:=hb (by decide);show(bif b.toInt==0 then some (bK,(4:Int))else _)=some (bif true&&b.toInt==0 then(bK,4)else bif decide (-2147483647<=ml a.toInt b.toInt)&&decide (ml a.toInt b.toInt<=2147483647)then(⟨Int64.ofInt (ml a.toInt b.toInt),1⟩,0)else(bK,3));by_cases nb:b.toInt=0
  ·rw[nb];rfl
  ·rw[beq_false_of_ne nb];simp only[cond_false,Bool.and_false];have J:∀x y:Int64,0<y.toInt->-2147483647<=x.toInt->x.toInt<=2147483647->ml a.toInt b.toInt=x.toInt / y.toInt->EG N x y=some (bif decide (-2147483647<=ml a.toInt b.toInt)&&decide (ml a.toInt b.toInt<=2147483647)then(⟨Int64.ofInt (ml a.toInt b.toInt),1⟩,0)else(bK,3)):=λx y y0 x0 x1 hf=>by
     unfold EG;obtain⟨k1,k2,k3,k4⟩:=MC (n:=x.toInt) (d:=y.toInt) (B:=2147483647) y0 (by decide) (by omega) (by omega);rw[IP N x y y0 (by omega) (by omega),al4,hf];exact fin _ _ (jf (by omega) (by omega))
   by_cases rI:b.toInt<0
   ·have ea:(-a).toInt= -a.toInt:=qf (by omega);have eb:(-b).toInt= -b.toInt:=qf (by omega);rw[amM rI];exact J _ _ (by rw[eb];omega) (by rw[ea];omega) (by rw[ea];omega) (by unfold ml;rw[amM rI,ea,eb];rfl)
   ·rw[amN rI];exact J _ _ (by omega) (by omega) (by omega) (by unfold ml;rw[amN rI];rfl)
 ·exact fin _ _ (qf (by omega))
theorem po(N:Nat)(hN:2147483648<N)(v:aB):mZ N v=some (dx tU v):=by
 unfold mZ;have h:=uz N hN tU v L2;have h':qa N ⟨1,0,0,0,0⟩ v=some (dx tU v):=h;rw[h'];rfl
theorem WC(N:Nat)(v:Int64):Dp N v=some ((v.toInt.natAbs:Nat):Int):=by
 unfold Dp;have hb:=kL v;by_cases h:v.toInt<0
 ·have e1:(v+(1:Int64)).toInt=v.toInt+1:=by rw[uL]<;>rw[show(1:Int64).toInt=1 from rfl]<;>omega
  have e2:(-(v+(1:Int64))).toInt= -(v.toInt+1):=by rw[qf]<;>rw[e1];omega
  rw[amM h,e2];simp only[cond_true,lu]
  congr 1
  omega
 ·rw[amN h];simp only[cond_false,lu]
  congr 1
  omega
theorem TG(N:Nat):∀(k a b:Nat),b<k->Ej N k (a:Int) (b:Int)=some ((Nat.gcd a b:Nat):Int)
 |0,a,b,h=>absurd h (amx _)
 |k+1,a,b,h=>by
  rw[Ej];by_cases h0:b=0
  ·subst h0;simp
  ·rw[show(((b:Nat):Int) !=0)=true by rw[bne_iff_ne];omega];simp only[cond_true];rw[<-Int.ofNat_tmod,TG N k b (a%b) (by have:=Nat.mod_lt a (Nat.pos_of_ne_zero h0);omega)];rw[Nat.gcd_comm a b,Nat.gcd_rec b a,Nat.gcd_comm]
theorem C1(N:Nat)(hN:9223372036854775808<N)(n d:Int64):uu N n d=some (jJ n.toInt d.toInt):=by
 have h:=yx N hN n d;unfold sU zS at h;rw[CR,CR]at h;unfold uu OS KI;rw[WC,WC];have hdd:=kL d;by_cases hd:d.toInt=0
 ·rw[hd]at h ⊢;exact h
 ·rw[beq_false_of_ne hd]at h ⊢;simp only[cond_false,al4]at h ⊢;rw[Io N N _ _ (by omega)]at h;rw[TG N N _ _ (by omega)];simp only[al4]at h ⊢;have hg:0<Nat.gcd n.toInt.natAbs d.toInt.natAbs:=Nat.gcd_pos_of_pos_right _ (by omega);rw[show(((Nat.gcd n.toInt.natAbs d.toInt.natAbs:Nat):Int) !=0)=true by rw[bne_iff_ne];omega]at h ⊢;simp only[cond_true]at h ⊢;rw[jM,al4]at h ⊢;cases hc:(decide (IntKind.u64.wrap (((n.toInt.natAbs:Nat):Int).tdiv ((Nat.gcd n.toInt.natAbs d.toInt.natAbs:Nat):Int))>2147483647)||decide (IntKind.u64.wrap (((d.toInt.natAbs:Nat):Int).tdiv ((Nat.gcd n.toInt.natAbs d.toInt.natAbs:Nat):Int))>2147483647))with
  |true=>rw[hc]at h;exact h
  |false=>
   rw[hc]at h;simp only[cond_false]at h ⊢;cases hs:(decide (n.toInt<0)==decide (d.toInt<0))with
   |true=>rw[hs]at h;exact h
   |false=>rw[hs]at h;exact h
theorem agP{N:Nat}(hN:9223372036854775808<N){a b:aB}(A:gv a)(B:gv b):IC N a b=some (jJ (a.xN.toInt*b.xD.toInt+b.xN.toInt*a.xD.toInt) (a.xD.toInt*b.xD.toInt)):=by
 unfold IC;rw[po N (by omega),po N (by omega),A.ok,B.ok,C1 N hN,TM A B,ji A.d0 A.d2 B.d0 B.d2];rfl
theorem abf{N:Nat}(hN:9223372036854775808<N){a b:aB}(A:gv a)(B:gv b):Gc N a b=some (jJ (a.xN.toInt*b.xD.toInt-b.xN.toInt*a.xD.toInt) (a.xD.toInt*b.xD.toInt)):=by
 unfold Gc;rw[po N (by omega),po N (by omega),A.ok,B.ok,C1 N hN,XE A B,ji A.d0 A.d2 B.d0 B.d2];rfl
theorem aeO{N:Nat}(hN:9223372036854775808<N){a b:aB}(A:gv a)(B:gv b):J0 N a b=some (jJ (a.xN.toInt*b.xN.toInt) (a.xD.toInt*b.xD.toInt)):=by
 unfold J0;rw[po N (by omega),po N (by omega),A.ok,B.ok,C1 N hN,ji A.n1 A.n2 B.n1 B.n2,ji A.d0 A.d2 B.d0 B.d2];rfl
theorem ahV{N:Nat}(hN:9223372036854775808<N){a b:aB}(A:gv a)(B:gv b):HB N a b=some (jJ (a.xN.toInt*b.xD.toInt) (a.xD.toInt*b.xN.toInt)):=by
 unfold HB;rw[po N (by omega),po N (by omega),A.ok,B.ok,C1 N hN,ji A.n1 A.n2 B.d0 B.d2,ji A.d0 A.d2 B.n1 B.n2];rfl
theorem aeB{N:Nat}(hN:2147483648<N){a:aB}(A:gv a):Jv N a=some ⟨-a.xN,a.xD⟩:=by
 unfold Jv;rw[po N hN,A.ok];rfl
theorem alo(N:Nat)(a b:Int64):yG N a b=some (rK a.toInt b.toInt):=by
 unfold yG rK;cases decide (a.toInt<b.toInt)
 ·cases decide (a.toInt>b.toInt)<;>rfl
 ·rfl
theorem tg{t:aP}{v:aB}(ht:dE t=true)(hv:dx t v=true):gv v:=by
 by_cases hk:t.bu=2
 ·have F:=kO ht hk;have A:=lJ hv hk;have B:=pf F A;have d:=A.d;exact⟨by omega,by omega,by omega,by omega,by rw[d];exact Nat.gcd_one_right _⟩
 ·exact oJ hv hk
theorem M8(N:Nat)(hN:2147483648<N)(t:aP)(a b:aB):EI N t a b=some (jT t a b):=by
 unfold EI GK jT;rw[AM];cases ht:dE t with
 |false=>rfl
 |true=>
  simp only[al4,cond_true];rw[uz N hN t a ht,uz N hN t b ht];cases ha:dx t a with
  |false=>rfl
  |true=>
   cases hb:dx t b with
   |false=>rfl
   |true=>
    have A:=tg ht ha;have B:=tg ht hb;simp only[al4,cond_true,Bool.not_true,cond_false,Bool.and_self];unfold Ql;rw[po N hN,po N hN,A.ok,B.ok];simp only[al4,cond_true];rw[alo,ji A.n1 A.n2 B.d0 B.d2,ji B.n1 B.n2 A.d0 A.d2];cases hk:t.bu==1 with
    |true=>rfl
    |false=>
     have da:a.xD.toInt=1:=by
      rcases kinds ht with h|h|h
      ·rw[h]at hk;cases hk
      ·exact(lJ ha h).d
      ·exact EW ha h
     have db:b.xD.toInt=1:=by
      rcases kinds ht with h|h|h
      ·rw[h]at hk;cases hk
      ·exact(lJ hb h).d
      ·exact EW hb h
     rw[da,db,Int.mul_one,Int.mul_one];rfl
theorem QJ(N:Nat)(hN:9223372036854775808<N)(op:Int)(t:aP)(a b:aB):H0 N op t a b=some (qP op t a b):=by
 have kJ:2147483648<N:=Nat.lt_trans (by decide) hN;unfold H0 qP;rw[jM,al4,AM,al4];by_cases h4:op<4
 ·rw[amM h4];rfl
 by_cases aW:op<=10
 ·rw[amN h4,amN (show ¬op>10 by omega)];simp only[Bool.or_self,cond_false];cases ht:dE t with
  |false=>rfl
  |true=>
   simp only[cond_true,Bool.not_true,cond_false];rw[uz N kJ t a ht,uz N kJ t b ht];cases ha:dx t a with
   |false=>rfl
   |true=>
    have A:=tg ht ha;simp only[al4,cond_true,Bool.not_true,Bool.false_or];rw[wM,gw,al4];have lM:(!(op==8)&& !dx t b)=false->op≠8->dx t b=true:=λh h8=>by
     rw[beq_false_of_ne h8]at h
     simpa using h
    cases hc:(!(op==8)&& !dx t b)with
    |true=>rfl
    |false=>
     have hb:=lM hc;simp only[cond_false];rw[jM,al4];by_cases h9:op=9
     ·subst h9;rw[M8 N kJ t a b];simp only[amO,Bool.true_or,cond_true,al4];cases decide (jT t a b>0)<;>rfl
     ·by_cases h1:op=10
      ·subst h1;have hb:=hb (by decide);rw[M8 N kJ t a b];rw[show((10:Int)==9)=false from rfl,show((10:Int)==10)=true from rfl];simp only[Bool.or_true,cond_true,al4,cond_false];by_cases c0:jT t a b>0
       ·rw[amM c0,amN (show ¬jT t a b<0 by omega)];rfl
       ·by_cases c1:jT t a b<0
        ·rw[amN c0,amM c1];rfl
        ·have e:=abr ht ha hb (by omega);subst e;rw[amN c0,amN c1];rfl
      ·rw[beq_false_of_ne h9,beq_false_of_ne h1];simp only[Bool.or_self,cond_false];rcases kinds ht with hk|hk|hk
       ·rw[hk,show((1:Int)==2)=false from rfl,show((1:Int)==3)=false from rfl];simp only[cond_false];unfold xr;rcases (by omega:op=4\/op=5\/op=6\/op=7\/op=8)with rfl|rfl|rfl|rfl|rfl
        ·have B:=tg ht (hb (by decide));rw[agP hN A B];rfl
        ·have B:=tg ht (hb (by decide));rw[abf hN A B];rfl
        ·have B:=tg ht (hb (by decide));rw[aeO hN A B];rfl
        ·have B:=tg ht (hb (by decide));rw[ahV hN A B];rfl
        ·rw[aeB kJ A];rfl
       ·rw[hk,show((2:Int)==2)=true from rfl];simp only[cond_true];rw[aio N (kO ht hk) (lJ ha hk) λh8=>lJ (hb h8) hk];rfl
       ·rw[hk,show((3:Int)==2)=false from rfl,show((3:Int)==3)=true from rfl];simp only[cond_true,cond_false];rw[adL N A.n1 A.n2 (λh8=>by have B:=tg ht (hb h8);exact⟨B.n1,B.n2⟩) (by omega)];rfl
 ·rw[amM (show op>10 by omega),Bool.or_true];rfl
theorem ai5(N:Nat)(hN:9223372036854775808<N){t:aP}{v:aB}(ht:dE t=true):IM N t v=some (mh t v):=by
 unfold IM H3 mh;cases hk:t.bu==2 with
 |false=>rfl
 |true=>
  have F:=kO ht (by simpa using hk);simp only[cond_true];rw[F6 N F,al4,C1 N hN,PN F];rfl
theorem aln(N:Nat)(hN:9223372036854775808<N)(t u:aP)(v:aB):IQ N t u v=some (Ba t u v):=by
 have kJ:2147483648<N:=Nat.lt_trans (by decide) hN;unfold IQ Ba;rw[AM,AM];cases ht:dE t with
 |false=>rfl
 |true=>
  cases hu:dE u with
  |false=>rfl
  |true=>
   simp only[al4,cond_true,cond_false,Bool.not_true,Bool.or_self];rw[uz N kJ t v ht];cases hv:dx t v with
   |false=>rfl
   |true=>
    simp only[al4,cond_true,Bool.not_true,cond_false];have V:=XG ht hv;have n1:=V.n1;have n2:=V.n2;have d1:=V.d1;have d2:=V.d2;rw[ai5 N hN ht,al4];rcases kinds hu with hk|hk|hk
    ·rw[hk];rfl
    ·have F:=kO hu hk;have S:=EB F;have s:=PN F;have M:=xG n1 n2 (show-1073741824<=gk u by omega) S.2;have e:((mh t v).xN*Int64.ofInt (gk u)).toInt=(mh t v).xN.toInt*gk u:=by rw[qw]<;>rw[s]<;>omega
     rw[hk,show((2:Int)==3)=false from rfl,show((2:Int)==2)=true from rfl];simp only[cond_true,cond_false];rw[F6 N F,al4,OD N _ _ _ (by omega) (by omega) (by rw[e];omega) (by rw[e];omega),al4,e];have r:=I0 (n:=(mh t v).xN.toInt*gk u) (d:=(mh t v).xD.toInt) (how:=u.cx) (B:=4611686018427387904) (by omega) (by decide) (by omega) (by omega);have r2:=xy (n:=(mh t v).xN.toInt*gk u) (d:=(mh t v).xD.toInt) (how:=u.cx) (by omega) (by omega) (by omega);rw[yZ N F _ (by rw[r2];omega) (by rw[r2];omega),r2];rfl
    ·rw[hk,show((3:Int)==3)=true from rfl];simp only[cond_true];rw[IP N _ _ (by omega) (by omega) (by omega)];rfl
def rG(d:amT Int):Bool:=decide (d.length<=6)&&(d.all (λn=>decide (1<=n))&&decide (d.foldl (·*·) 1<=4096))
theorem WX{d:amT Int}:d.all (λn=>decide (1<=n))=true↔∀n∈d,1<=n:=by rw[amv];simp
theorem Ii(d:amT Int)(a:Int):d.foldl (·*·) a=a*d.foldl (·*·) 1:=by
 induction d generalizing a with
 |nil=>simp
 |cons x d ih=>rw[List.foldl_cons,List.foldl_cons,ih (a*x),ih (1*x),Int.one_mul,Int.mul_assoc]
theorem ur{d:amT Int}(h:∀n∈d,1<=n):1<=d.foldl (·*·) 1:=by
 induction d with
 |nil=>simp
 |cons x d ih=>
  rw[List.foldl_cons,Int.one_mul,Ii];have h1:=h x amb;have h2:=ih λn hn=>h n (ame _ hn);have:=Int.mul_le_mul h1 h2 (by decide) (by omega);omega
theorem tn{n:Int}(h1: -9223372036854775808<=n)(h2:n<=9223372036854775807):aE n=n:=by unfold aE;rw[IntKind.wrap_i64];omega
theorem aiP{s n:Int}(hs:1<=s)(xJ:s<=4096):decide (n>IntKind.i64.wrap ((4096:Int).tdiv s))=decide (4096<s*n):=by
 have e:(4096:Int).tdiv s=4096 / s:=Int.tdiv_eq_ediv_of_nonneg (by decide);have h1:0<=4096/ s:=Int.ediv_nonneg (by decide) (by omega);have h2:(4096:Int)/ s<=4096:=Int.ediv_le_self s (by decide);rw[e,show IntKind.i64.wrap ((4096:Int)/ s)=4096 / s from tn (by omega) (by omega)];refine decide_eq_decide.2 ?_;rw[gt_iff_lt,Int.ediv_lt_iff_lt_mul (by omega),Int.mul_comm]
theorem Xf(N:Nat):∀(d:amT Int)(k:Nat)(s:Int),1<=s->s<=4096->(∀n∈d,1<=n)->tZ N d k s=some (bif decide (d.foldl (·*·) s<=4096)then 0 else 2)
 |[],k,s,h1,h2,h=>by unfold tZ;rw[List.foldl_nil,amM h2];rfl
 |n::d,k,s,h1,h2,h=>by
  unfold tZ;rw[show(s !=0)=true by rw[bne_iff_ne];omega,cond_true,aiP h1 h2,List.foldl_cons];have hn:=h n amb;have hd:∀m∈d,1<=m:=λm hm=>h m (ame _ hm);have NP:1<=s*n:=by have:=Int.mul_le_mul h1 hn (by decide) (by omega);omega
  by_cases hc:4096<s*n
  ·rw[amM hc,cond_true,amN]
   ·rfl
   ·rw[Ii];have:=Int.mul_le_mul (Int.le_refl (s*n)) (ur hd) (by decide) (by omega);omega
  ·rw[amN hc,cond_false,tn (by omega) (by omega)];exact Xf N d (k+1) (s*n) NP (by omega) hd
theorem VI(N:Nat)(v:amT Int):∀(d:amT Int)(k:Nat),(v=d\/True)->vS N v d k=bif d.all (λn=>decide (1<=n))then tZ N v 0 1 else some 1
 |[],k,_=>rfl
 |n::d,k,_=>by
  unfold vS;rw[amP,VI N v d (k+1) (.inr trivial)];by_cases h:n<1
  ·rw[amM h,amN (show ¬1<=n by omega)];rfl
  ·rw[amN h,amM (show 1<=n by omega)];rfl
theorem Mw(N:Nat)(d:amT Int):∃e,wA N d=some e/\(e !=0)= !rG d:=by
 unfold wA rG;by_cases h:d.length<=6
 ·rw[amN (show ¬(d.length:Int)>6 by omega),cond_false,amM h,Bool.true_and,VI N d d 0 (.inr trivial)];cases ha:d.all (λn=>decide (1<=n))with
  |false=>exact⟨1,rfl,rfl⟩
  |true=>
   rw[cond_true,Xf N d 0 1 (by decide) (by decide) (WX.1 ha),Bool.true_and];refine⟨_,rfl,?_⟩;cases decide (d.foldl (·*·) 1<=4096)<;>rfl
 ·rw[amM (show(d.length:Int)>6 by omega),amN h];exact⟨2,rfl,rfl⟩
theorem Wk(N:Nat):∀(d:amT Int)(k:Nat)(s:Int),Kf N d k s=tZ N d k s
 |[],k,s=>rfl
 |n::d,k,s=>by unfold Kf tZ;simp only[Wk N d (k+1)]
theorem Xc(N:Nat)(v:amT Int):∀(d:amT Int)(k:Nat),B6 N v d k=vS N v d k
 |[],k=>by unfold B6 vS;exact Wk N v 0 1
 |n::d,k=>by unfold B6 vS;rw[Xc N v d (k+1)]
theorem aic(N:Nat)(d:amT Int):JR N d=wA N d:=by
 unfold JR wA;rw[Xc]
theorem NS(N:Nat):∀(d:amT Int)(k:Nat)(s:Int),1<=s->(∀n∈d,1<=n)->d.foldl (·*·) s<=4096->AQ N d k s=some (d.foldl (·*·) s)
 |[],k,s,_,_,_=>rfl
 |n::d,k,s,h1,h,hb=>by
  unfold AQ;rw[List.foldl_cons]at hb ⊢;have hn:=h n amb;have hd:∀m∈d,1<=m:=λm hm=>h m (ame _ hm);have NP:1<=s*n:=by have:=Int.mul_le_mul h1 hn (by decide) (by omega);omega
  have hle:s*n<=4096:=by
   rw[Ii]at hb;have:=Int.mul_le_mul (Int.le_refl (s*n)) (ur hd) (by decide) (by omega);omega
  simp only;rw[tn (by omega) (by omega)];exact NS N d (k+1) (s*n) NP hd hb
theorem V6(N:Nat):∀(d:amT Int)(k:Nat)(s:Int),Jb N d k s=AQ N d k s
 |[],k,s=>rfl
 |n::d,k,s=>by unfold Jb AQ;exact V6 N d (k+1) _
structure RB(d:List Int):Prop where
 len:d.length<=6
 pos:∀n∈d,1<=n
 le:d.foldl (·*·) 1<=4096
theorem Bn{d:amT Int}(h:rG d=true):RB d:=by
 unfold rG at h;simp only[al7,decide_eq_true_eq]at h;exact⟨h.1,WX.1 h.2.1,h.2.2⟩
theorem ain(N:Nat){d:amT Int}(h:rG d=true):J4 N d=some (d.foldl (·*·) 1):=by
 obtain⟨e,h1,h2⟩:=Mw N d;unfold J4;rw[h1,al4,h2,h];exact NS N d 0 1 (by decide) (Bn h).pos (Bn h).le
theorem akl(N:Nat){d:amT Int}(h:rG d=true):IB N d=some (d.foldl (·*·) 1):=by
 unfold IB;rw[V6];exact NS N d 0 1 (by decide) (Bn h).pos (Bn h).le
def mz(t:aU):Bool:=dE t.aK&&(rG t.bS&&(((t.dI.length:Int)==t.bS.foldl (·*·) 1)&&t.dI.all (dx t.aK)))
theorem Yp(N:Nat)(hN:2147483648<N)(t:aU)(ht:dE t.aK=true):∀(l:amT aB)(k:Nat),FM N t l k=some (bif l.all (dx t.aK)then 0 else 1)
 |[],k=>rfl
 |v::l,k=>by
  unfold FM;rw[rO N hN _ _ ht,al4,amP];cases dx t.aK v with
  |true=>rw[cond_true,Yp N hN t ht l (k+1),Bool.true_and]
  |false=>rfl
theorem VW(N:Nat)(hN:2147483648<N)(t:aU)(ht:dE t.aK=true):∀(l:amT aB)(k:Nat),G4 N t l k=some (bif l.all (dx t.aK)then 0 else 1)
 |[],k=>rfl
 |v::l,k=>by
  unfold G4;rw[uz N hN _ _ ht,al4,amP];cases dx t.aK v with
  |true=>rw[cond_true,VW N hN t ht l (k+1),Bool.true_and]
  |false=>rfl
theorem adU(N:Nat)(hN:2147483648<N)(t:aU):∃e,Cw N t=some e/\(e !=0)= !mz t:=by
 unfold Cw mz;rw[uB,al4];cases ht:dE t.aK with
 |false=>exact⟨10,rfl,rfl⟩
 |true=>
  rw[cond_true,show((0:Int) !=0)=false from rfl,cond_false,Bool.true_and];obtain⟨e,h1,h2⟩:=Mw N t.bS;rw[h1,al4,h2];cases hs:rG t.bS with
  |false=>
   refine⟨e,rfl,?_⟩;rw[h2,hs];rfl
  |true=>
   rw[Bool.not_true,cond_false,ain N hs,al4,Bool.true_and];cases hl:((t.dI.length:Int)==t.bS.foldl (·*·) 1)with
   |false=>
    refine⟨1,?_,rfl⟩;rw[show((t.dI.length:Int) !=t.bS.foldl (·*·) 1)=true by unfold bne;rw[hl];rfl];rfl
   |true=>
    rw[show((t.dI.length:Int) !=t.bS.foldl (·*·) 1)=false by unfold bne;rw[hl];rfl,cond_false,Yp N hN t ht];refine⟨_,rfl,?_⟩;rw[Bool.true_and];cases t.dI.all (dx t.aK)<;>rfl
theorem agv(N:Nat)(hN:2147483648<N)(t:aU):∃e,FO N t=some e/\(e !=0)= !mz t:=by
 unfold FO mz;rw[AM,al4];cases ht:dE t.aK with
 |false=>exact⟨10,rfl,rfl⟩
 |true=>
  rw[cond_true,Bool.true_and];obtain⟨e,h1,h2⟩:=Mw N t.bS;rw[aic,h1,al4,h2];cases hs:rG t.bS with
  |false=>
   refine⟨e,rfl,?_⟩;rw[h2,hs];rfl
  |true=>
   rw[Bool.not_true,cond_false,akl N hs,al4,Bool.true_and];cases hl:((t.dI.length:Int)==t.bS.foldl (·*·) 1)with
   |false=>
    refine⟨1,?_,rfl⟩;rw[show((t.dI.length:Int) !=t.bS.foldl (·*·) 1)=true by unfold bne;rw[hl];rfl];rfl
   |true=>
    rw[show((t.dI.length:Int) !=t.bS.foldl (·*·) 1)=false by unfold bne;rw[hl];rfl,cond_false,VW N hN t ht];refine⟨_,rfl,?_⟩;rw[Bool.true_and];cases t.dI.all (dx t.aK)<;>rfl
def jK:amT aO->amU->amV aU
 |[],_=>none
 |x::r,s=>bif bL x.bo==bL s then some x.gM else jK r s
theorem Rl:∀{l:amT aO}{s:amU}{t:aU},jK l s=some t->∃x∈l,x.gM=t/\bL x.bo=bL s
 |[],s,t,h=>by cases h
 |x::r,s,t,h=>by
  unfold jK at h;cases hb:(bL x.bo==bL s)with
  |true=>rw[hb]at h;cases h;exact⟨x,amb,rfl,by simpa using hb⟩
  |false=>
   rw[hb]at h;obtain⟨y,h1,h2⟩:=Rl (l:=r) h;exact⟨y,ame _ h1,h2⟩
theorem RA(N:Nat)(s:amU):∀(l:amT aO)(k:Nat),(jK l s=none->zL N s l k=some (-1))/\(∀t,jK l s=some t->∃i x,zL N s l k=some ((k+i:Nat):Int)/\l[i]?=some x/\x.gM=t)
 |[],k=>⟨λ_=>rfl,λv h=>by cases h⟩
 |b::r,k=>by
  obtain⟨h1,h2⟩:=RA N s r (k+1);unfold jK zL Np;simp only[al4];cases hb:(bL b.bo==bL s)with
  |true=>exact⟨λh=>(by cases h),λv h=>by cases h;exact⟨0,b,rfl,rfl,rfl⟩⟩
  |false=>
   simp only[cond_false];refine⟨h1,λv h=> ?_⟩;obtain⟨i,c,q1,q2,q3⟩:=h2 v h;exact⟨i+1,c,by rw[q1];congr 2;omega,q2,q3⟩
theorem aha(N:Nat)(l:amT aO)(s:amU):vu N l s=some (match jK l s with|none=>(mV,false)|some t=>(t,true)):=by
 obtain⟨h1,h2⟩:=RA N s l 0;unfold vu;rw[show Ma N l s=zL N s l 0 from rfl];cases hf:jK l s with
 |none=>rw[h1 hf];rfl
 |some t=>
  obtain⟨i,x,q1,q2,q3⟩:=h2 t hf;rw[q1,al4,amp,amN (by omega),cond_false,amM (by omega),cond_true,amw,q2,al4,q3]
theorem YX(N:Nat)(s:amU):∀(l:amT aO)(k:Nat),Ft N s l k=some (match jK l s with|none=>(mV,false)|some t=>(t,true))
 |[],k=>rfl
 |x::r,k=>by
  unfold Ft jK;cases hb:(bL x.bo==bL s)with
  |true=>rfl
  |false=>exact YX N s r (k+1)
theorem agr(N:Nat)(l:amT aO)(s:amU):MQ N l s=some (match jK l s with|none=>(mV,false)|some t=>(t,true)):=YX N s l 0
def lN(mem:amT aO)(s:amU):Except Int aU:=match jK mem s with
 |none=> .error 9
 |some t=>bif mz t then .ok t else .error 1
theorem YN(N:Nat)(hN:2147483648<N)(mem:amT aO)(s:amU):B8 N mem s=some (match lN mem s with| .ok t=>(t,0)| .error e=>(mV,e)):=by
 unfold B8 lN;rw[agr,al4];cases jK mem s with
 |none=>rfl
 |some t=>
  simp only[cond_true];obtain⟨e,h1,h2⟩:=agv N hN t;rw[h1,al4,h2];cases mz t<;>rfl
def X8(e:ay):Prop:=∀x∈eO e,pA x=true/\n6 x=true
theorem X8.op{e:ay}(h:X8 e):1<=e.aC/\e.aC<=18:=by
 have:=(h e amb).2;unfold n6 at this;simp only[al7,decide_eq_true_eq]at this;exact⟨this.1,this.2.1⟩
theorem RP:∀l:amT ay,ln l=0->∀x∈l,mS x=0
 |[],_,x,hx=>by cases hx
 |y::l,h,x,hx=>by
  rw[ln]at h;cases e:mS y !=0 with
  |true=>rw[e,cond_true]at h;rw[h]at e;cases e
  |false=>
   rw[e,cond_false]at h;rcases amz.1 hx with rfl|hx
   ·exact acV e
   ·exact RP l h x hx
theorem aaX{e:ay}(h:ma e=0):∀x∈eO e,mS x=0:=λx hx=>by
 unfold ma at h;cases h1:decide (40<jt 40 e)with
 |true=>rw[h1]at h;cases h
 |false=>
  cases h2:decide (2000<(eO e).length)with
  |true=>rw[h1,h2]at h;cases h
  |false=>rw[h1,h2]at h;exact RP (eO e) h x hx
theorem aif{x:ay}(h:mS x=0):n6 x=true/\sX x=true/\pA x=true/\nG x=true/\uI x=true:=by
 unfold mS at h;cases p:n6 x<;>cases q:sX x<;>cases r:pA x<;>cases s:nG x<;>cases t:uI x<;>rw[p,q,r,s,t]at h<;>first|exact⟨rfl,rfl,rfl,rfl,rfl⟩|(exact absurd h (by decide))
section
variable {α:Type}
end
section
variable {N:Nat} {m:amT (amU×Int)} {vars:amT amU} {p p':dh}
end
theorem LU{y:ay}:∀{l:amT ay},y∈lV l->∃x∈l,y∈eO x
 |[],h=>by rw[lV]at h;cases h
 |x::l,h=>by
  rw[DM]at h;rcases amH.1 h with h|h
  ·exact⟨x,amb,h⟩
  ·obtain⟨z,h1,h2⟩:=LU h;exact⟨z,ame _ h1,h2⟩
section
variable {N:Nat} {p:dh}
end
theorem XN:∀{l:amT aO}{s s':amU},bL s=bL s'->jK l s=jK l s'
 |[],_,_,_=>rfl
 |x::r,s,s',h=>by unfold jK;rw[h,XN (l:=r) h]
structure CK(mem:List aO)(kv:List (ByteArray×aU)):Prop where
 ok:∀p∈kv,jK mem p.1=some p.2/\mz p.2=true
 nd:(kv.map λp=>bL p.1).Nodup
theorem CK.nil(mem:amT aO):CK mem []:=⟨λp h=>(by cases h),by simp⟩
theorem Ye{α:Type}:∀{l m:amT α},l.Nodup->(∀x∈l,x∈m)->l.length<=m.length
 |[],m,_,_=>Nat.zero_le _
 |x::l,m,h,hs=>by
  have hx:=hs x amb;obtain⟨a,b,rfl⟩:=List.append_of_mem hx;rw[List.nodup_cons]at h;have:=Ye (l:=l) (m:=a++b) h.2 λy hy=>by
   have h1:=hs y (ame _ hy);rw[amH,amz]at h1;rw[amH];rcases h1 with h1|rfl|h1
   ·exact .inl h1
   ·exact absurd hy h.1
   ·exact .inr h1
  simp only[al6,al8]at this ⊢;omega
theorem CK.len{mem:amT aO}{kv:amT (amU×aU)}(h:CK mem kv):kv.length<=mem.length:=by
 have:=Ye h.nd (m:=mem.map λx=>bL x.bo) λy hy=>by
  obtain⟨p,hp,rfl⟩:=List.mem_map.1 hy;obtain⟨x,hx,_,e⟩:=Rl (h.ok p hp).1;exact List.mem_map.2 ⟨x,hx,e⟩
 simpa using this
theorem Vn{mem:amT aO}{s:amU}{d:aU}:∀{kv:amT (amU×aU)},(∀p∈kv,jK mem p.1=some p.2/\mz p.2=true)->lA kv s=true->jK mem s=some (iU kv s d)/\mz (iU kv s d)=true
 |[],_,h=>by cases h
 |(k,t)::kv,hk,h=>by
  unfold lA at h;unfold iU;cases hb:(bL k==bL s)with
  |true=>
   rw[cond_true];have:=hk (k,t) amb;rw[beq_iff_eq]at hb;rw[<-XN hb];exact this
  |false=>
   rw[hb]at h;simp only[cond_false,Bool.false_or]at h ⊢;exact Vn (λp hp=>hk p (ame _ hp)) h
theorem Y6{s:amU}:∀{kv:amT (amU×aU)},lA kv s=false->bL s ∉ kv.map λp=>bL p.1
 |[],_,h=>by cases h
 |(k,t)::kv,hn,h=>by
  unfold lA at hn;rw[amu,amz]at h;cases hb:(bL k==bL s)with
  |true=>rw[hb]at hn;simp at hn
  |false=>
   rw[hb]at hn;simp only[cond_false,Bool.false_or]at hn;rcases h with h|h
   ·rw[h]at hb;simp at hb
   ·exact Y6 hn h
def mj{α β:Type}(r:Except Int α)(er:Int)(b:β)(f:α->β->Prop):Prop:=match r with
 | .ok x=>er=0/\f x b
 | .error z=>er=z/\z≠0
theorem LO{mem:amT aO}{s:amU}{z:Int}(h:lN mem s= .error z):z≠0:=by
 unfold lN at h;split at h
 ·cases h;decide
 ·next t e=>
  cases hb:mz t<;>rw[hb]at h<;>cases h
  decide
theorem Cz{mem:amT aO}{s:amU}{t:aU}(h:lN mem s= .ok t):jK mem s=some t/\mz t=true:=by
 unfold lN at h;split at h
 ·cases h
 ·next t' e=>
  cases hb:mz t'<;>rw[hb]at h<;>cases h
  exact⟨e,hb⟩
theorem S0(N:Nat)(hN:2147483648<N)(mem:amT aO)(hm:mem.length<=4611686018427387904)(s:amU)(kv:amT (amU×aU))(hk:CK mem kv):
 ∃t er e8,DP N s mem kv=some (t,er,e8)/\CK mem e8/\mj (lN mem s) er t (λx y=>y=x):=by
 unfold DP;cases hh:lA kv s with
 |true=>
  obtain⟨h1,h2⟩:=Vn (d:=(⟨(⟨0,0,0,0,0⟩:aP),[],[]⟩:aU)) hk.ok hh;refine⟨_,_,_,rfl,hk,?_⟩;unfold lN;rw[h1];simp only[h2,cond_true];exact⟨rfl,rfl⟩
 |false=>
  rw[cond_false,aha,al4];unfold lN;cases hf:jK mem s with
  |none=>exact⟨_,_,_,rfl,hk,rfl,by decide⟩
  |some t=>
   simp only[cond_true];obtain⟨e,h1,h2⟩:=adU N hN t;rw[h1,al4,h2];cases ht:mz t with
   |false=>exact⟨_,_,_,rfl,hk,rfl,by decide⟩
   |true=>
    have hl:=hk.len;rw[Bool.not_true,cond_false,show Nat.blt kv.length 9223372036854775807=true by rw[Nat.blt_eq];omega,cond_true];refine⟨_,_,_,rfl,⟨λp hp=> ?_,?_⟩,rfl,rfl⟩
    ·rcases amz.1 hp with rfl|hp
     ·exact⟨hf,ht⟩
     ·exact hk.ok p hp
    ·rw[amu,List.nodup_cons];exact⟨Y6 hh,hk.nd⟩
def mQ(env:amT aV):amT cn->amT Int->Int->Except Int Int
 |[],_,a=> .ok a
 |_::_,[],a=> .ok a
 |l::ls,d::ds,a=>bif (dX l env).2 !=0 then .error (dX l env).2 else bif decide ((dX l env).1.toInt<0)||decide ((dX l env).1.toInt>=d)then .error 12 else mQ env ls ds (a*d+(dX l env).1.toInt)
theorem Bl(d:Int)(ds:amT Int):(d::ds).foldl (·*·) 1=d*ds.foldl (·*·) 1:=by rw[List.foldl_cons,Int.one_mul,Ii]
theorem yC{a n d p q:Int}(GO:0<=a)(ha:a<p)(mA:0<=n)(hn:n<d)(hq:1<=q)(hp:p*(d*q)<=4096):0<=a*d+n/\a*d+n<p*d/\(p*d)*q<=4096/\aE (aE (a*d)+n)=a*d+n:=by
 have h1:0<=a*d:=Int.mul_nonneg GO (by omega);have h2:(a+1)*d<=p*d:=Int.mul_le_mul_of_nonneg_right (by omega) (by omega);rw[Int.add_mul,Int.one_mul]at h2;have h3:(p*d)*q<=4096:=by rw[Int.mul_assoc];exact hp
 have h4:(p*d)*1<=(p*d)*q:=Int.mul_le_mul_of_nonneg_left hq (by omega);refine⟨by omega,by omega,h3,?_⟩;rw[tn (n:=a*d) (by omega) (by omega),tn (by omega) (by omega)]
theorem Wf(N:Nat)(a:Int)(n:Int64)(d:Int):ES N a n d=some (bif decide (n.toInt<0)||decide (n.toInt>=d)then(0,12)else(aE (aE (a*d)+n.toInt),0)):=by
 unfold ES;cases decide (n.toInt<0)with
 |true=>rfl
 |false=>
  rw[cond_false,al4,Bool.false_or];cases decide (n.toInt>=d)<;>rfl
def Sj(r:Except Int Int)(p:Int):Prop:=∀a,r= .ok a->0<=a/\a<p
theorem Kq(env:amT aV):∀(ls:amT cn)(ds:amT Int)(a p:Int),0<=a->a<p->(∀n∈ds,1<=n)->ls.length=ds.length->p*ds.foldl (·*·) 1<=4096->Sj (mQ env ls ds a) (p*ds.foldl (·*·) 1)
 |[],[],a,p,h0,h1,_,_,_=>λb hb=>by cases hb;rw[List.foldl_nil,Int.mul_one];exact⟨h0,h1⟩
 |[],_::_,a,p,_,_,_,hl,_=>by simp at hl
 |_::_,[],a,p,_,_,_,hl,_=>by simp at hl
 |l::ls,d::ds,a,p,h0,h1,hd,hl,hp=>by
  intro b hb;unfold mQ at hb;cases he:((dX l env).2 !=0)with
  |true=>rw[he]at hb;cases hb
  |false=>
   rw[he,cond_false]at hb;cases hc:(decide ((dX l env).1.toInt<0)||decide ((dX l env).1.toInt>=d))with
   |true=>rw[hc]at hb;cases hb
   |false=>
    rw[hc,cond_false]at hb;rw[amS,decide_eq_false_iff_not,decide_eq_false_iff_not]at hc;rw[Bl]at hp ⊢;have hq:=ur λn hn=>hd n (ame _ hn);obtain⟨k1,k2,k3,_⟩:=yC (n:=(dX l env).1.toInt) h0 h1 (by omega) (by omega) hq hp;have:=Kq env ls ds _ _ k1 k2 (λn hn=>hd n (ame _ hn)) (by simpa using hl) k3 b hb;rw[Int.mul_assoc]at this;exact this
def o6(n ext:Int):Int:=max 0 (min n (ext-1))
def gS(mem:amT aO)(env:amT aV)(x:cY)(ext:Int):Except Int Int64:=match lN mem x.dA with
 | .error z=> .error z
 | .ok t=>bif t.aK.bu !=3 then .error 10 else bif (x.cO.length:Int) !=(t.bS.length:Int)then .error 11 else match mQ env x.cO t.bS 0 with
   | .error z=> .error z
   | .ok a=>match t.dI[a.toNat]? with
     |some v=> .ok (Int64.ofInt (o6 v.xN.toInt ext))
     |none=> .error 1
theorem agf{n ext:Int}(h1:1<=ext)(h2:ext<=4096):(if(if(aE (ext-(1:Int)))<n then(aE (ext-(1:Int)))else n)>0then(if(aE (ext-(1:Int)))<n then(aE (ext-(1:Int)))else n)else(0:Int))=o6 n ext:=by
 rw[tn (by omega) (by omega)];unfold o6;split<;>split<;>omega
theorem aix{n ext:Int}(h1:1<=ext)(h2:ext<=4096):(if(if n<(aE (ext-(1:Int)))then n else(aE (ext-(1:Int))))>0then(if n<(aE (ext-(1:Int)))then n else(aE (ext-(1:Int))))else(0:Int))=o6 n ext:=by
 rw[tn (by omega) (by omega)];unfold o6;split<;>split<;>omega
theorem Yt{n ext:Int}(h1:1<=ext)(h2:ext<=4096):(aE (o6 n ext)==o6 n ext)=true:=by
 rw[beq_iff_eq];exact tn (by unfold o6;omega) (by unfold o6;omega)
structure vI(t:aU):Prop where
 ty:dE t.aK=true
 sh:RB t.bS
 len:(t.dI.length:Int)=t.bS.foldl (·*·) 1
 Ym:∀v∈t.dI,dx t.aK v=true
theorem Dy{t:aU}(h:mz t=true):vI t:=by
 unfold mz at h;simp only[al7,beq_iff_eq]at h;exact⟨h.1,Bn h.2.1,h.2.2.1,amv.1 h.2.2.2⟩
theorem vI.get{t:aU}(h:vI t){a:Int}(h0:0<=a)(h1:a<t.bS.foldl (·*·) 1):∃v,t.dI[a.toNat]?=some v/\v∈t.dI:=by
 have hl:=h.len;have hi:a.toNat<t.dI.length:=by omega
 exact⟨t.dI[a.toNat],al9 hi,List.getElem_mem hi⟩
theorem QE(N:Nat)(hN:2147483648<N)(env:amT aV)(v6:aU×Int×amT (amU×aU))(hT:vI v6.1)(ext:Int)(e1:1<=ext)(e2:ext<=4096):∀(ls:amT cn)(k:Nat)(ds:amT Int)(a p:Int),(∀l∈ls,l.xL.length<=4611686018427387904)->v6.1.bS.drop k=ds->ls.length=ds.length->0<=a->a<p->p*ds.foldl (·*·) 1=v6.1.bS.foldl (·*·) 1->
 Cm N v6 ext env ls k a=some (match mQ env ls ds a with| .error z=>(0,z,v6.2.2)| .ok b=>match v6.1.dI[b.toNat]? with|some v=>(Int64.ofInt (o6 v.xN.toInt ext),0,v6.2.2)|none=>(0,1,v6.2.2))
 |[],k,ds,a,p,_,hd,hl,a0,a1,hp=>by
  cases ds with
  |cons=>simp at hl
  |nil=>
   rw[List.foldl_nil,Int.mul_one]at hp;obtain⟨v,hv,_⟩:=hT.get a0 (by omega);unfold Cm mQ;rw[amM a0,cond_true,hv,al4,agf e1 e2,Yt e1 e2,cond_true];simp only[hv]
 |l::ls,k,ds,a,p,hf,hd,hl,a0,a1,hp=>by
  cases ds with
  |nil=>simp at hl
  |cons d ds=>
   have eG:=bM hd;have pw:∀n∈d::ds,1<=n:=λn hn=>hT.sh.pos n (List.mem_of_mem_drop (hd▸hn));unfold Cm mQ;rw[Mt N hN l env (hf l amb),al4];cases he:((dX l env).2 !=0)with
   |true=>rfl
   |false=>
    rw[cond_false,cond_false,amw,eG,al4,Wf,al4];cases hc:(decide ((dX l env).1.toInt<0)||decide ((dX l env).1.toInt>=d))with
    |true=>rfl
    |false=>
     rw[cond_false,cond_false];rw[amS,decide_eq_false_iff_not,decide_eq_false_iff_not]at hc;rw[Bl]at hp;have hq:=ur λn hn=>pw n (ame _ hn);obtain⟨k1,k2,k3,k4⟩:=yC (n:=(dX l env).1.toInt) (d:=d) a0 a1 (by omega) (by omega) hq (by rw[hp];exact hT.sh.le);simp only;rw[show((0:Int) !=0)=false from rfl,cond_false,k4];exact QE N hN env v6 hT ext e1 e2 ls (k+1) ds _ (p*d) (λx hx=>hf x (ame _ hx)) (jR hd) (by simpa using hl) k1 k2 (by rw[Int.mul_assoc];exact hp)
theorem SE(N:Nat)(hN:2147483648<N)(env:amT aV)(v6:aU×Int)(hT:vI v6.1)(ext:Int)(e1:1<=ext)(e2:ext<=4096):∀(ls:amT cn)(k:Nat)(ds:amT Int)(a p:Int),(∀l∈ls,l.xL.length<=4611686018427387904)->v6.1.bS.drop k=ds->ls.length=ds.length->0<=a->a<p->p*ds.foldl (·*·) 1=v6.1.bS.foldl (·*·) 1->
 Ce N v6 ext env ls k a=some (match mQ env ls ds a with| .error z=>(0,z)| .ok b=>match v6.1.dI[b.toNat]? with|some v=>(Int64.ofInt (o6 v.xN.toInt ext),0)|none=>(0,1))
 |[],k,ds,a,p,_,hd,hl,a0,a1,hp=>by
  cases ds with
  |cons=>simp at hl
  |nil=>
   rw[List.foldl_nil,Int.mul_one]at hp;obtain⟨v,hv,_⟩:=hT.get a0 (by omega);unfold Ce mQ;rw[amM a0,cond_true,hv,al4,aix e1 e2,Yt e1 e2,cond_true];simp only[hv]
 |l::ls,k,ds,a,p,hf,hd,hl,a0,a1,hp=>by
  cases ds with
  |nil=>simp at hl
  |cons d ds=>
   have eG:=bM hd;have pw:∀n∈d::ds,1<=n:=λn hn=>hT.sh.pos n (List.mem_of_mem_drop (hd▸hn));unfold Ce mQ;rw[NW N hN l env (hf l amb),al4];cases he:((dX l env).2 !=0)with
   |true=>rfl
   |false=>
    rw[cond_false,cond_false,amw,eG,al4,al4];cases hn:decide ((dX l env).1.toInt<0)with
    |true=>rfl
    |false=>
     rw[cond_false,al4,Bool.false_or];cases hc:decide ((dX l env).1.toInt>=d)with
     |true=>rfl
     |false=>
      rw[cond_false,cond_false];rw[decide_eq_false_iff_not]at hc hn;rw[Bl]at hp;have hq:=ur λn hn=>pw n (ame _ hn);obtain⟨k1,k2,k3,k4⟩:=yC (n:=(dX l env).1.toInt) (d:=d) a0 a1 (by omega) (by omega) hq (by rw[hp];exact hT.sh.le);simp only;rw[k4];exact SE N hN env v6 hT ext e1 e2 ls (k+1) ds _ (p*d) (λx hx=>hf x (ame _ hx)) (jR hd) (by simpa using hl) k1 k2 (by rw[Int.mul_assoc];exact hp)
theorem SO{mem:amT aO}{env:amT aV}{x:cY}{ext z:Int}(h:gS mem env x ext= .error z):z≠0:=by
 unfold gS at h;split at h
 ·next e=>cases h;exact LO e
 ·next t e=>
  cases h1:(t.aK.bu !=3)with
  |true=>rw[h1]at h;cases h;decide
  |false=>
   rw[h1,cond_false]at h;cases h2:((x.cO.length:Int) !=(t.bS.length:Int))with
   |true=>rw[h2]at h;cases h;decide
   |false=>
    rw[h2,cond_false]at h;split at h
    ·next e3=>
     cases h
     have gen:∀(ls:amT cn)(ds:amT Int)(a:Int),mQ env ls ds a= .error z->z≠0:=by
      intro ls
      induction ls with
      |nil=>intro ds a h;cases h
      |cons l ls ih=>
       intro ds a h;cases ds with
       |nil=>cases h
       |cons d ds=>
        unfold mQ at h;cases h4:((dX l env).2 !=0)with
        |true=>rw[h4]at h;cases h;simpa using h4
        |false=>
         rw[h4,cond_false]at h;cases h5:(decide ((dX l env).1.toInt<0)||decide ((dX l env).1.toInt>=d))with
         |true=>rw[h5]at h;cases h;decide
         |false=>rw[h5,cond_false]at h;exact ih _ _ h
     exact gen _ _ _ e3
    ·next b e3=>
     split at h
     ·cases h
     ·cases h;decide
theorem aek(N:Nat)(hN:2147483648<N)(mem:amT aO)(hm:mem.length<=4611686018427387904)(env:amT aV)(x:cY)(hx:∀l∈x.cO,l.xL.length<=4611686018427387904)(ext:Int)(e1:1<=ext)(e2:ext<=4096)(kv:amT (amU×aU))(hk:CK mem kv):
 ∃n er e8,Hx N env x ext mem kv=some (n,er,e8)/\CK mem e8/\mj (gS mem env x ext) er n (λa b=>b=a):=by
 unfold Hx;obtain⟨t,er,e8,h1,h2,h3⟩:=S0 N hN mem hm x.dA kv hk;rw[h1,al4];unfold gS;cases j6:lN mem x.dA with
 |error z=>
  rw[j6]at h3;obtain⟨rfl,hz⟩:=h3;simp only;rw[bne_iff_ne.2 hz,cond_true];exact⟨_,_,_,rfl,h2,rfl,hz⟩
 |ok t'=>
  rw[j6]at h3;obtain⟨rfl,rfl⟩:=h3;simp only;rw[show((0:Int) !=0)=false from rfl,cond_false];have hT:=Dy (Cz j6).2;cases nH:(t.aK.bu !=3)with
  |true=>exact⟨_,_,_,rfl,h2,rfl,by decide⟩
  |false=>
   rw[cond_false,cond_false];cases oB:((x.cO.length:Int) !=(t.bS.length:Int))with
   |true=>exact⟨_,_,_,rfl,h2,rfl,by decide⟩
   |false=>
    rw[cond_false,cond_false];have hl:x.cO.length=t.bS.length:=by
      have:(x.cO.length:Int)=t.bS.length:=by simpa using oB
      omega
    rw[QE N hN env (t,0,e8) hT ext e1 e2 x.cO 0 t.bS 0 1 hx rfl hl (by decide) (by decide) (Int.one_mul _)];have qm:=Kq env x.cO t.bS 0 1 (by decide) (by decide) hT.sh.pos hl (by rw[Int.one_mul];exact hT.sh.le);cases hp:mQ env x.cO t.bS 0 with
    |error z=>
     refine⟨_,_,_,rfl,h2,rfl,?_⟩;refine SO (mem:=mem) (env:=env) (x:=x) (ext:=ext) ?_;unfold gS;rw[j6];simp only[nH,oB,cond_false,hp]
    |ok b=>
     obtain⟨b0,b1⟩:=qm b hp;rw[Int.one_mul]at b1;obtain⟨v,hv,_⟩:=hT.get b0 b1;simp only[hv];exact⟨_,_,_,rfl,h2,rfl,rfl⟩
def rS(mem:amT aO)(env:amT aV)(x:cY)(ZI:Int):Except Int Int64:=bif bL x.dA==bL (bs [])then(bif (dX x.cm env).2 !=0 then .error (dX x.cm env).2 else .ok (dX x.cm env).1)else gS mem env x ZI
structure Hf(x:cY):Prop where
 l:x.cm.xL.length<=4611686018427387904
 a:∀l∈x.cO,l.xL.length<=4611686018427387904
theorem aiL(N:Nat)(hN:2147483648<N)(mem:amT aO)(env:amT aV)(x:cY)(hx:Hf x)(ext:Int)(e1:1<=ext)(e2:ext<=4096):
 ∃n er,Ik N mem env x ext=some (n,er)/\mj (rS mem env x ext) er n (λa b=>b=a):=by
 unfold Ik rS;cases hb:(bL x.dA==bL (bs []))with
 |true=>
  rw[cond_true,cond_true,NW N hN _ _ hx.l,al4];refine⟨_,_,rfl,?_⟩;cases he:((dX x.cm env).2 !=0)with
  |true=>exact⟨rfl,by simpa using he⟩
  |false=>exact⟨by simpa using he,rfl⟩
 |false=>
  rw[cond_false,cond_false,YN N hN,al4];unfold gS;cases j6:lN mem x.dA with
  |error z=>
   have hz:=LO j6;simp only;rw[bne_iff_ne.2 hz,cond_true];exact⟨_,_,rfl,rfl,hz⟩
  |ok t=>
   simp only;rw[show((0:Int) !=0)=false from rfl,cond_false];have hT:=Dy (Cz j6).2;cases nH:(t.aK.bu !=3)with
   |true=>exact⟨_,_,rfl,rfl,by decide⟩
   |false=>
    rw[cond_false,cond_false];cases oB:((x.cO.length:Int) !=(t.bS.length:Int))with
    |true=>exact⟨_,_,rfl,rfl,by decide⟩
    |false=>
     rw[cond_false,cond_false];have hl:x.cO.length=t.bS.length:=by
       have:(x.cO.length:Int)=t.bS.length:=by simpa using oB
       omega
     rw[SE N hN env (t,0) hT ext e1 e2 x.cO 0 t.bS 0 1 hx.a rfl hl (by decide) (by decide) (Int.one_mul _)];have qm:=Kq env x.cO t.bS 0 1 (by decide) (by decide) hT.sh.pos hl (by rw[Int.one_mul];exact hT.sh.le);cases hp:mQ env x.cO t.bS 0 with
     |error z=>
      refine⟨_,_,rfl,rfl,?_⟩;refine SO (mem:=mem) (env:=env) (x:=x) (ext:=ext) ?_;unfold gS;rw[j6];simp only[nH,oB,cond_false,hp]
     |ok b=>
      obtain⟨b0,b1⟩:=qm b hp;rw[Int.one_mul]at b1;obtain⟨v,hv,_⟩:=hT.get b0 b1;simp only[hv];exact⟨_,_,rfl,rfl,rfl⟩
def nc(mem:amT aO)(env:amT aV):amT cY->amT Int->Int->Except Int Int
 |[],_,a=> .ok a
 |_::_,[],a=> .ok a
 |x::xs,d::ds,a=>match rS mem env x d with
  | .error z=> .error z
  | .ok n=>bif decide (n.toInt<0)||decide (n.toInt>=d)then .error 12 else nc mem env xs ds (a*d+n.toInt)
theorem Ui(mem:amT aO)(env:amT aV):∀(xs:amT cY)(ds:amT Int)(a p:Int),0<=a->a<p->(∀n∈ds,1<=n)->xs.length=ds.length->p*ds.foldl (·*·) 1<=4096->Sj (nc mem env xs ds a) (p*ds.foldl (·*·) 1)
 |[],[],a,p,h0,h1,_,_,_=>λb hb=>by cases hb;rw[List.foldl_nil,Int.mul_one];exact⟨h0,h1⟩
 |[],_::_,a,p,_,_,_,hl,_=>by simp at hl
 |_::_,[],a,p,_,_,_,hl,_=>by simp at hl
 |x::xs,d::ds,a,p,h0,h1,hd,hl,hp=>by
  intro b hb;unfold nc at hb;cases hx:rS mem env x d with
  |error y=>rw[hx]at hb;cases hb
  |ok n=>
   rw[hx]at hb;simp only at hb;cases hc:(decide (n.toInt<0)||decide (n.toInt>=d))with
   |true=>rw[hc]at hb;cases hb
   |false=>
    rw[hc,cond_false]at hb;rw[amS,decide_eq_false_iff_not,decide_eq_false_iff_not]at hc;rw[Bl]at hp ⊢;have hq:=ur λn hn=>hd n (ame _ hn);obtain⟨k1,k2,k3,_⟩:=yC (n:=n.toInt) (d:=d) h0 h1 (by omega) (by omega) hq hp;have:=Ui mem env xs ds _ _ k1 k2 (λn hn=>hd n (ame _ hn)) (by simpa using hl) k3 b hb;rw[Int.mul_assoc]at this;exact this
theorem XU{ds:amT Int}(hd:∀n∈ds,1<=n){p d q:Int}(hp:1<=p)(h1:1<=d)(hq:1<=q)(h:p*(d*q)<=4096):d<=4096:=by
 have h2:d*1<=d*q:=Int.mul_le_mul_of_nonneg_left hq (by omega);have h3:1*(d*q)<=p*(d*q):=Int.mul_le_mul_of_nonneg_right hp (by omega);omega
theorem YC(N:Nat)(hN:2147483648<N)(mem:amT aO)(hm:mem.length<=4611686018427387904)(env:amT aV)(v5:aU×Int×amT (amU×aU))(hT:vI v5.1):∀(xs:amT cY)(k:Nat)(ds:amT Int)(a p:Int)(kv:amT (amU×aU)),(∀x∈xs,Hf x)->v5.1.bS.drop k=ds->xs.length=ds.length->0<=a->a<p->p*ds.foldl (·*·) 1=v5.1.bS.foldl (·*·) 1->CK mem kv->
 ∃t er e8,px N v5 env mem xs k a kv=some (t,er,e8)/\CK mem e8/\mj (nc mem env xs ds a) er t (λb y=>∃v,v5.1.dI[b.toNat]?=some v/\y=(⟨v,v5.1.aK⟩:eZ))
 |[],k,ds,a,p,kv,_,hd,hl,a0,a1,hp,hk=>by
  cases ds with
  |cons=>simp at hl
  |nil=>
   rw[List.foldl_nil,Int.mul_one]at hp;obtain⟨v,hv,_⟩:=hT.get a0 (by omega);unfold px nc;rw[amM a0,cond_true,hv,al4];exact⟨_,_,_,rfl,hk,rfl,v,hv,rfl⟩
 |x::xs,k,ds,a,p,kv,hf,hd,hl,a0,a1,hp,hk=>by
  cases ds with
  |nil=>simp at hl
  |cons d ds=>
   have eG:=bM hd;have pw:∀n∈d::ds,1<=n:=λn hn=>hT.sh.pos n (List.mem_of_mem_drop (hd▸hn));have pQ:=pw d amb;have RE:=hp;rw[Bl]at hp;have hq:=ur λn hn=>pw n (ame _ hn);have hle:p*(d*ds.foldl (·*·) 1)<=4096:=by rw[hp];exact hT.sh.le
   have Kv:=XU (λn hn=>pw n (ame _ hn)) (by omega) pQ hq hle;have hx:=hf x amb;have key:∀(er:Int)(n:Int64)(mP:amT (amU×aU)),CK mem mP->mj (rS mem env x d) er n (λa b=>b=a)->
       ∃t Sk e8,zq N v5 k a (λcu fv=>px N v5 env mem xs (k+1) cu fv) er n mP=some (t,Sk,e8)/\CK mem e8/\mj (nc mem env (x::xs) (d::ds) a) Sk t (λb y=>∃v,v5.1.dI[b.toNat]?=some v/\y=(⟨v,v5.1.aK⟩:eZ)):=by
    intro er n mP jI JU;unfold zq nc;cases DC:rS mem env x d with
    |error z=>
     rw[DC]at JU;obtain⟨rfl,hz⟩:=JU;rw[bne_iff_ne.2 hz,cond_true];exact⟨_,_,_,rfl,jI,rfl,hz⟩
    |ok m=>
     rw[DC]at JU;obtain⟨rfl,rfl⟩:=JU;rw[show((0:Int) !=0)=false from rfl,cond_false,amw,eG,al4,Wf,al4];simp only;cases hc:(decide (n.toInt<0)||decide (n.toInt>=d))with
     |true=>exact⟨_,_,_,rfl,jI,rfl,by decide⟩
     |false=>
      rw[cond_false,cond_false];rw[amS,decide_eq_false_iff_not,decide_eq_false_iff_not]at hc;obtain⟨k1,k2,k3,k4⟩:=yC (n:=n.toInt) (d:=d) a0 a1 (by omega) (by omega) hq hle;simp only;rw[show((0:Int) !=0)=false from rfl,cond_false,k4];exact YC N hN mem hm env v5 hT xs (k+1) ds _ (p*d) mP (λy hy=>hf y (ame _ hy)) (jR hd) (by simpa using hl) k1 k2 (by rw[Int.mul_assoc];exact hp) jI
   unfold px;cases hb:(bL x.dA==bL (bs []))with
   |true=>
    rw[cond_true,Mt N hN _ _ hx.l,al4];refine key _ _ _ hk ?_;unfold rS;rw[hb,cond_true];cases he:((dX x.cm env).2 !=0)with
    |true=>exact⟨rfl,by simpa using he⟩
    |false=>exact⟨by simpa using he,rfl⟩
   |false=>
    rw[cond_false,amw,eG,al4];obtain⟨n,er,e8,h1,h2,h3⟩:=aek N hN mem hm env x hx.a d pQ Kv kv hk;rw[h1,al4];refine key _ _ _ h2 ?_;unfold rS;rw[hb,cond_false];exact h3
theorem Va(N:Nat)(hN:2147483648<N)(mem:amT aO)(env:amT aV)(t:aU)(hT:vI t):∀(xs:amT cY)(k:Nat)(ds:amT Int)(a p:Int),(∀x∈xs,Hf x)->t.bS.drop k=ds->xs.length=ds.length->0<=a->a<p->p*ds.foldl (·*·) 1=t.bS.foldl (·*·) 1->
 ∃b er,BS N t mem env xs k a=some (b,er)/\mj (nc mem env xs ds a) er b (λx y=>y=x)
 |[],k,ds,a,p,_,hd,hl,a0,a1,hp=>by
  cases ds with
  |cons=>simp at hl
  |nil=>
   unfold BS nc;exact⟨_,_,rfl,rfl,rfl⟩
 |x::xs,k,ds,a,p,hf,hd,hl,a0,a1,hp=>by
  cases ds with
  |nil=>simp at hl
  |cons d ds=>
   have eG:=bM hd;have pw:∀n∈d::ds,1<=n:=λn hn=>hT.sh.pos n (List.mem_of_mem_drop (hd▸hn));have pQ:=pw d amb;rw[Bl]at hp;have hq:=ur λn hn=>pw n (ame _ hn);have hle:p*(d*ds.foldl (·*·) 1)<=4096:=by rw[hp];exact hT.sh.le
   have Kv:=XU (λn hn=>pw n (ame _ hn)) (by omega) pQ hq hle;unfold BS nc;rw[amw,eG,al4];obtain⟨n,er,h1,h2⟩:=aiL N hN mem env x (hf x amb) d pQ Kv;rw[h1,al4];cases DC:rS mem env x d with
   |error z=>
    rw[DC]at h2;obtain⟨rfl,hz⟩:=h2;simp only;rw[bne_iff_ne.2 hz,cond_true];exact⟨_,_,rfl,rfl,hz⟩
   |ok m=>
    rw[DC]at h2;obtain⟨rfl,rfl⟩:=h2;simp only;rw[show((0:Int) !=0)=false from rfl,cond_false];cases hn:decide (n.toInt<0)with
    |true=>exact⟨_,_,rfl,rfl,by decide⟩
    |false=>
     rw[cond_false,al4,Bool.false_or];cases hc:decide (n.toInt>=d)with
     |true=>exact⟨_,_,rfl,rfl,by decide⟩
     |false=>
      rw[cond_false,cond_false];rw[decide_eq_false_iff_not]at hc hn;obtain⟨k1,k2,k3,k4⟩:=yC (n:=n.toInt) (d:=d) a0 a1 (by omega) (by omega) hq hle;rw[k4];exact Va N hN mem env t hT xs (k+1) ds _ (p*d) (λy hy=>hf y (ame _ hy)) (jR hd) (by simpa using hl) k1 k2 (by rw[Int.mul_assoc];exact hp)
def ET(mem:amT aO)(env:amT aV)(e:ay):Except Int (aB×aP):=match lN mem e.bo with
 | .error z=> .error z
 | .ok t=>bif (e.xIdx.length:Int) !=(t.bS.length:Int)then .error 11 else match nc mem env e.xIdx t.bS 0 with
   | .error z=> .error z
   | .ok a=>match t.dI[a.toNat]? with
     |some v=> .ok (v,t.aK)
     |none=> .error 1
def RM:aP:=⟨3,0,0,0,0⟩
def pL(mem:amT aO)(env:amT aV)(e:ay):Except Int (aB×aP):=
 bif e.aC==1 then .ok (e.dR,e.aK)else bif e.aC==2 then(bif (dX e.cm env).2 !=0 then .error (dX e.cm env).2 else bif decide ((dX e.cm env).1.toInt>2147483647)||decide ((dX e.cm env).1.toInt< -2147483647)then .error 3 else .ok (⟨(dX e.cm env).1,1⟩,RM))else ET mem env e
structure B5(e:ay):Prop where
 l:e.cm.xL.length<=4611686018427387904
 x:∀x∈e.xIdx,Hf x
theorem afy(N:Nat)(hN:2147483648<N)(mem:amT aO)(hm:mem.length<=4611686018427387904)(env:amT aV)(e:ay)(hf:B5 e)(kv:amT (amU×aU))(hk:CK mem kv):
 ∃t er e8,Br N env e mem kv=some (t,er,e8)/\CK mem e8/\mj (ET mem env e) er t (λx y=>y=(⟨x.1,x.2⟩:eZ)):=by
 unfold Br;obtain⟨t,er,e8,h1,h2,h3⟩:=S0 N hN mem hm e.bo kv hk;rw[h1,al4];unfold ET;cases j6:lN mem e.bo with
 |error z=>
  rw[j6]at h3;obtain⟨rfl,hz⟩:=h3;simp only;rw[bne_iff_ne.2 hz,cond_true];exact⟨_,_,_,rfl,h2,rfl,hz⟩
 |ok t'=>
  rw[j6]at h3;obtain⟨rfl,rfl⟩:=h3;simp only;rw[show((0:Int) !=0)=false from rfl,cond_false];have hT:=Dy (Cz j6).2;cases oB:((e.xIdx.length:Int) !=(t.bS.length:Int))with
  |true=>exact⟨_,_,_,rfl,h2,rfl,by decide⟩
  |false=>
   rw[cond_false,cond_false];have hl:e.xIdx.length=t.bS.length:=by
     have:(e.xIdx.length:Int)=t.bS.length:=by simpa using oB
     omega
   obtain⟨y,er,I1,q1,q2,q3⟩:=YC N hN mem hm env (t,0,e8) hT e.xIdx 0 t.bS 0 1 e8 hf.x rfl hl (by decide) (by decide) (Int.one_mul _) h2;rw[q1];refine⟨_,_,_,rfl,q2,?_⟩;cases hp:nc mem env e.xIdx t.bS 0 with
   |error z=>rw[hp]at q3;exact q3
   |ok b=>
    rw[hp]at q3;obtain⟨rfl,v,hv,rfl⟩:=q3;simp only at hv ⊢;rw[hv];exact⟨rfl,rfl⟩
theorem ag4(N:Nat)(hN:2147483648<N)(mem:amT aO)(hm:mem.length<=4611686018427387904)(env:amT aV)(e:ay)(hf:B5 e)(kv:amT (amU×aU))(hk:CK mem kv):
 ∃t er e8,Gr N env e mem kv=some (t,er,e8)/\CK mem e8/\mj (pL mem env e) er t (λx y=>y=(⟨x.1,x.2⟩:eZ)):=by
 unfold Gr pL;cases h1:(e.aC==1)with
 |true=>exact⟨_,_,_,rfl,hk,rfl,rfl⟩
 |false=>
  rw[cond_false,cond_false];cases h2:(e.aC==2)with
  |true=>
   rw[cond_true,cond_true,Mt N hN _ _ hf.l,al4];unfold G9;cases he:((dX e.cm env).2 !=0)with
   |true=>
    have hz:(dX e.cm env).2≠0:=by simpa using he
    rw[show((dX e.cm env).2==0)=false by rw[beq_eq_false_iff_ne];exact hz,cond_false,al4,cond_false];exact⟨_,_,_,rfl,hk,rfl,hz⟩
   |false=>
    have hz:(dX e.cm env).2=0:=by simpa using he
    rw[hz,show((0:Int)==0)=true from rfl,cond_true,cond_false];cases hc:decide ((dX e.cm env).1.toInt>2147483647)with
    |true=>exact⟨_,_,_,rfl,hk,rfl,by decide⟩
    |false=>
     rw[cond_false,al4,Bool.false_or];cases Hn:decide ((dX e.cm env).1.toInt< -2147483647)with
     |true=>exact⟨_,_,_,rfl,hk,rfl,by decide⟩
     |false=>exact⟨_,_,_,rfl,hk,rfl,rfl⟩
  |false=>
   rw[cond_false,cond_false];obtain⟨t,er,e8,q1,q2,q3⟩:=afy N hN mem hm env e hf kv hk;rw[q1,al4];exact⟨_,_,_,rfl,q2,q3⟩
theorem ajd(N:Nat)(hN:2147483648<N)(mem:amT aO)(env:amT aV)(e:ay)(hf:B5 e):
 ∃g,Dq N mem env e=some g/\mj (pL mem env e) g.xE g (λx y=>y.xV=x.1/\y.xT=x.2)/\(g.xE≠0->g.xV=bK/\g.xT=eD):=by
 unfold Dq pL;cases h1:(e.aC==1)with
 |true=>exact⟨_,rfl,⟨rfl,rfl,rfl⟩,λh=>absurd rfl h⟩
 |false=>
  rw[cond_false,cond_false];cases h2:(e.aC==2)with
  |true=>
   rw[cond_true,cond_true,NW N hN _ _ hf.l,al4];unfold GG;cases he:((dX e.cm env).2 !=0)with
   |true=>
    have hz:(dX e.cm env).2≠0:=by simpa using he
    rw[show((dX e.cm env).2==0)=false by rw[beq_eq_false_iff_ne];exact hz,cond_false,al4,cond_false,cond_true];exact⟨_,rfl,⟨rfl,hz⟩,λ_=>⟨rfl,rfl⟩⟩
   |false=>
    have hz:(dX e.cm env).2=0:=by simpa using he
    rw[hz,show((0:Int)==0)=true from rfl,cond_true,cond_false];cases hc:decide ((dX e.cm env).1.toInt>2147483647)with
    |true=>exact⟨_,rfl,⟨rfl,by decide⟩,λ_=>⟨rfl,rfl⟩⟩
    |false=>
     rw[cond_false,al4,Bool.false_or];cases Hn:decide ((dX e.cm env).1.toInt< -2147483647)with
     |true=>exact⟨_,rfl,⟨rfl,by decide⟩,λ_=>⟨rfl,rfl⟩⟩
     |false=>exact⟨_,rfl,⟨rfl,rfl,rfl⟩,λh=>absurd rfl h⟩
  |false=>
   rw[cond_false,cond_false,YN N hN,al4];unfold ET;cases j6:lN mem e.bo with
   |error z=>
    have hz:=LO j6;simp only;rw[bne_iff_ne.2 hz,cond_true];exact⟨_,rfl,⟨rfl,hz⟩,λ_=>⟨rfl,rfl⟩⟩
   |ok t=>
    simp only;rw[show((0:Int) !=0)=false from rfl,cond_false];have hT:=Dy (Cz j6).2;unfold P8;cases oB:((e.xIdx.length:Int) !=(t.bS.length:Int))with
    |true=>exact⟨_,rfl,⟨rfl,by decide⟩,λ_=>⟨rfl,rfl⟩⟩
    |false=>
     rw[cond_false,cond_false];have hl:e.xIdx.length=t.bS.length:=by
       have:(e.xIdx.length:Int)=t.bS.length:=by simpa using oB
       omega
     obtain⟨b,er,q1,q2⟩:=Va N hN mem env t hT e.xIdx 0 t.bS 0 1 hf.x rfl hl (by decide) (by decide) (Int.one_mul _);have qm:=Ui mem env e.xIdx t.bS 0 1 (by decide) (by decide) hT.sh.pos hl (by rw[Int.one_mul];exact hT.sh.le);rw[q1,al4];cases hp:nc mem env e.xIdx t.bS 0 with
     |error z=>
      rw[hp]at q2;obtain⟨rfl,hz⟩:=q2;simp only;rw[bne_iff_ne.2 hz,cond_true];exact⟨_,rfl,⟨rfl,hz⟩,λ_=>⟨rfl,rfl⟩⟩
     |ok c=>
      rw[hp]at q2;obtain⟨rfl,rfl⟩:=q2;obtain⟨b0,b1⟩:=qm b hp;rw[Int.one_mul]at b1;obtain⟨v,hv,_⟩:=hT.get b0 b1;simp only;rw[show((0:Int) !=0)=false from rfl,cond_false,amM b0,cond_true,hv,al4];exact⟨_,rfl,⟨rfl,rfl,rfl⟩,λh=>absurd rfl h⟩
theorem ahq{mem:amT aO}{env:amT aV}{e:ay}(h1:e.aC=1->dE e.aK=true/\dx e.aK e.dR=true){x:aB×aP}(h:pL mem env e= .ok x):dE x.2=true/\dx x.2 x.1=true:=by
 unfold pL at h;cases k1:(e.aC==1)with
 |true=>
  rw[k1,cond_true]at h;cases h;exact h1 (by simpa using k1)
 |false=>
  rw[k1,cond_false]at h;cases k2:(e.aC==2)with
  |true=>
   rw[k2,cond_true]at h;cases he:((dX e.cm env).2 !=0)with
   |true=>rw[he]at h;cases h
   |false=>
    rw[he,cond_false]at h;cases hc:(decide ((dX e.cm env).1.toInt>2147483647)||decide ((dX e.cm env).1.toInt< -2147483647))with
    |true=>rw[hc]at h;cases h
    |false=>
     rw[hc,cond_false]at h;cases h;rw[amS,decide_eq_false_iff_not,decide_eq_false_iff_not]at hc;refine⟨rfl,?_⟩;unfold dx RM;simp only;rw[show((3:Int)==2)=false from rfl,cond_false,show((3:Int)==3)=true from rfl,cond_true,amM (show(dX e.cm env).1.toInt<=2147483647 by omega),amM (show-2147483647<=(dX e.cm env).1.toInt by omega)];rfl
  |false=>
   rw[k2,cond_false]at h;unfold ET at h;cases j6:lN mem e.bo with
   |error z=>rw[j6]at h;cases h
   |ok t=>
    rw[j6]at h;simp only at h;have hT:=Dy (Cz j6).2;cases oB:((e.xIdx.length:Int) !=(t.bS.length:Int))with
    |true=>rw[oB]at h;cases h
    |false=>
     rw[oB,cond_false]at h;cases hp:nc mem env e.xIdx t.bS 0 with
     |error z=>rw[hp]at h;cases h
     |ok c=>
      rw[hp]at h;simp only at h;cases hv:t.dI[c.toNat]? with
      |none=>rw[hv]at h;cases h
      |some v=>rw[hv]at h;cases h;exact⟨hT.ty,hT.Ym v (ami hv)⟩
def iY(a b:aP):Bool:=(a.bu==b.bu)&&((a.bG==b.bG)&&((a.ck==b.ck)&&((a.cx==b.cx)&&((a.cG==b.cG)&&true))))
theorem aiA{a b:aP}:iY a b=true↔a=b:=by
 unfold iY;simp only[al7,beq_iff_eq,Bool.and_true];constructor
 ·rintro⟨h1,h2,h3,h4,h5⟩;cases a;cases b;simp_all
 ·rintro rfl;exact⟨rfl,rfl,rfl,rfl,rfl⟩
def nY(t:aP)(r:aB×Int):Except Int (aB×aP):=bif r.2 !=0 then .error r.2 else .ok (r.1,t)
def wg(op c:Int):Bool:=bif op==13 then decide (c<0)else bif op==14 then decide (c<=0)else c==0
def jm{α β:Type}(r:Except Int α)(f:α->Except Int β):Except Int β:=match r with
 | .ok x=>f x
 | .error z=> .error z
mutual
def eY(mem:amT aO)(env:amT aV)(e:ay):Except Int (aB×aP):=
 bif decide (e.aC<=3)then pL mem env e else
 match h:e.bD with
 |[a]=>jm (eY mem env a) λx=>bif e.aC==12 then nY e.aK (Ba x.2 e.aK x.1)else nY x.2 (qP 8 x.2 x.1 x.1)
 |[a,b]=>jm (eY mem env a) λx=>jm (eY mem env b) λy=>bif iY x.2 y.2 then nY x.2 (qP e.aC x.2 x.1 y.1)else .error 10
 |[c,a,b]=>jm (iq mem env c) λt=>bif t then eY mem env a else eY mem env b
 |_=> .error 1
termination_by SizeOf.sizeOf e
decreasing_by all_goals (exact tX (by rw[h];simp))
def iq(mem:amT aO)(env:amT aV)(e:ay):Except Int Bool:=
 match h:e.bD with
 |[a]=>jm (iq mem env a) λt=> .ok (!t)
 |[a,b]=>bif decide (e.aC<16)then jm (eY mem env a) λx=>jm (eY mem env b) λy=>(bif iY x.2 y.2 then .ok (wg e.aC (jT x.2 x.1 y.1))else .error 10)else jm (iq mem env a) λs=>jm (iq mem env b) λt=> .ok (bif e.aC==16 then s&&t else s||t)
 |_=> .error 1
termination_by SizeOf.sizeOf e
decreasing_by all_goals (exact tX (by rw[h];simp))
end
theorem Wl{mem:amT aO}{env:amT aV}{e:ay}(h:e.aC<=3):eY mem env e=pL mem env e:=by
 rw[eY,amM h,cond_true]
theorem Iy{mem:amT aO}{env:amT aV}{e a:ay}(h:¬e.aC<=3)(ha:e.bD=[a]):eY mem env e=jm (eY mem env a) λx=>bif e.aC==12 then nY e.aK (Ba x.2 e.aK x.1)else nY x.2 (qP 8 x.2 x.1 x.1):=by
 rw[eY,amN h,cond_false];split<;>simp_all
theorem Wn{mem:amT aO}{env:amT aV}{e a b:ay}(h:¬e.aC<=3)(ha:e.bD=[a,b]):eY mem env e=jm (eY mem env a) λx=>jm (eY mem env b) λy=>bif iY x.2 y.2 then nY x.2 (qP e.aC x.2 x.1 y.1)else .error 10:=by
 rw[eY,amN h,cond_false];split<;>simp_all
theorem XW{mem:amT aO}{env:amT aV}{e c a b:ay}(h:¬e.aC<=3)(ha:e.bD=[c,a,b]):eY mem env e=jm (iq mem env c) λt=>bif t then eY mem env a else eY mem env b:=by
 rw[eY,amN h,cond_false];split<;>simp_all
theorem UC{mem:amT aO}{env:amT aV}{e a:ay}(ha:e.bD=[a]):iq mem env e=jm (iq mem env a) λt=> .ok (!t):=by
 rw[iq];split<;>simp_all
theorem Gj{mem:amT aO}{env:amT aV}{e a b:ay}(ha:e.bD=[a,b]):iq mem env e=bif decide (e.aC<16)then jm (eY mem env a) λx=>jm (eY mem env b) λy=>(bif iY x.2 y.2 then .ok (wg e.aC (jT x.2 x.1 y.1))else .error 10)else jm (iq mem env a) λs=>jm (iq mem env b) λt=> .ok (bif e.aC==16 then s&&t else s||t):=by
 rw[iq];split<;>simp_all
structure Ev(e:ay):Prop where
 v:∀y∈eO e,mS y=0
 f:∀y∈eO e,B5 y
theorem Ev.arg{e x:ay}(h:Ev e)(hx:x∈e.bD):Ev x:=⟨λy hy=>h.v y (Jr hx hy),λy hy=>h.f y (Jr hx hy)⟩
theorem Ev.here{e:ay}(h:Ev e):mS e=0:=h.v e amb
structure CJ(e:ay):Prop where
 lo:1<=e.aC
 hi:e.aC<=18
 Uo:(e.bD.length:Int)=qX e.aC
 lit:e.aC=1->dE e.aK=true/\dx e.aK e.dR=true
 cast:e.aC=12->dE e.aK=true
 want:∀(i:Nat)(x:ay),e.bD[i]?=some x->eo x=iW e.aC i
theorem Zb(op:Int):∀(l:amT ay)(k:Nat),uf op k l=true->∀(i:Nat)(x:ay),l[i]?=some x->eo x=iW op (k+i)
 |[],_,_,i,x,hx=>by simp at hx
 |y::l,k,h,i,x,hx=>by
  unfold uf at h;rw[al7,beq_iff_eq]at h;cases i with
  |zero=>cases hx;exact h.1
  |succ i=>
   rw[show k+(i+1)=k+1+i by omega];exact Zb op l (k+1) h.2 i x hx
theorem Ev.n{e:ay}(h:Ev e):CJ e:=by
 obtain⟨h1,h2,h3,h4,h5⟩:=aif h.here;unfold n6 at h1;unfold pA at h3;unfold nG at h4;unfold uI at h5;simp only[al7,decide_eq_true_eq,beq_iff_eq]at h1 h3 h4 h5;refine⟨h1.1,h1.2.1,h3.1,λh=> ?_,λh=> ?_,λi x hx=> ?_⟩
 ·have k4:=h4.1;have k5:=h5.1;rw[h]at k4 k5;exact⟨by simpa using k4,by simpa using k5⟩
 ·have k4:=h4.1;rw[h]at k4
  simpa using k4
 ·have:=Zb e.aC e.bD 0 h4.2 i x hx
  rwa [amp]at this
theorem Tb{e:ay}(h:CJ e):eo e=decide (13<=e.aC):=by
 unfold eo;rw[amM h.hi,Bool.and_true]
theorem Qg{α:Type}{l:amT α}(h:(l.length:Int)=1):∃a,l=[a]:=by
 match l,h with
 |[a],_=>exact⟨a,rfl⟩
 |[],h=>simp at h
 |_::_::_,h=>simp only[al8]at h;omega
theorem Vf{α:Type}{l:amT α}(h:(l.length:Int)=2):∃a b,l=[a,b]:=by
 match l,h with
 |[a,b],_=>exact⟨a,b,rfl⟩
 |[],h=>simp at h
 |[_],h=>simp at h
 |_::_::_::_,h=>simp only[al8]at h;omega
theorem adw{α:Type}{l:amT α}(h:(l.length:Int)=3):∃a b c,l=[a,b,c]:=by
 match l,h with
 |[a,b,c],_=>exact⟨a,b,c,rfl⟩
 |[],h=>simp at h
 |[_],h=>simp at h
 |[_,_],h=>simp at h
 |_::_::_::_::_,h=>simp only[al8]at h;omega
inductive Kd(e:ay):Prop
 |leaf (h:e.aC<=3)
 |cast (a:ay) (h:e.bD=[a]) (ho:e.aC=12)
 |neg (a:ay) (h:e.bD=[a]) (ho:e.aC=8)
 |bin (a b:ay) (h:e.bD=[a,b]) (ho:4<=e.aC/\e.aC<=10/\e.aC≠8)
 |ite (c a b:ay) (h:e.bD=[c,a,b]) (ho:e.aC=11)
inductive Kc(e:ay):Prop
 |not (a:ay) (h:e.bD=[a]) (ho:e.aC=18)
 |cmp (a b:ay) (h:e.bD=[a,b]) (ho:13<=e.aC/\e.aC<=15)
 |log (a b:ay) (h:e.bD=[a,b]) (ho:e.aC=16\/e.aC=17)
theorem kd{e:ay}(h:CJ e)(hc:eo e=false):Kd e:=by
 rw[Tb h,decide_eq_false_iff_not]at hc;have hl:=h.lo;have hn:=h.Uo;by_cases h3:e.aC<=3
 ·exact .leaf h3
 ·unfold qX at hn;rw[show(e.aC==1)=false by rw[beq_eq_false_iff_ne];omega,show(e.aC==2)=false by rw[beq_eq_false_iff_ne];omega,show(e.aC==3)=false by rw[beq_eq_false_iff_ne];omega]at hn;simp only[Bool.or_false,Bool.false_or,cond_false]at hn;by_cases h8:e.aC=8
  ·rw[h8]at hn;obtain⟨a,ha⟩:=Qg (l:=e.bD) hn;exact .neg a ha h8
  ·by_cases bj:e.aC=12
   ·rw[bj]at hn;obtain⟨a,ha⟩:=Qg (l:=e.bD) hn;exact .cast a ha bj
   ·rw[show(e.aC==8)=false by rw[beq_eq_false_iff_ne];exact h8,show(e.aC==12)=false by rw[beq_eq_false_iff_ne];exact bj,show(e.aC==18)=false by rw[beq_eq_false_iff_ne];omega]at hn;simp only[Bool.or_false,Bool.false_or,cond_false]at hn;by_cases aZ:e.aC=11
    ·rw[aZ]at hn;obtain⟨a,b,c,ha⟩:=adw (l:=e.bD) hn;exact .ite a b c ha aZ
    ·rw[show(e.aC==11)=false by rw[beq_eq_false_iff_ne];exact aZ,cond_false]at hn;obtain⟨a,b,ha⟩:=Vf hn;exact .bin a b ha ⟨by omega,by omega,h8⟩
theorem kc{e:ay}(h:CJ e)(hc:eo e=true):Kc e:=by
 rw[Tb h,decide_eq_true_eq]at hc;have hh:=h.hi;have hn:=h.Uo;unfold qX at hn;rw[show(e.aC==1)=false by rw[beq_eq_false_iff_ne];omega,show(e.aC==2)=false by rw[beq_eq_false_iff_ne];omega,show(e.aC==3)=false by rw[beq_eq_false_iff_ne];omega,show(e.aC==8)=false by rw[beq_eq_false_iff_ne];omega,show(e.aC==12)=false by rw[beq_eq_false_iff_ne];omega,show(e.aC==11)=false by rw[beq_eq_false_iff_ne];omega]at hn;simp only[Bool.or_false,Bool.false_or,cond_false]at hn;by_cases dZ:e.aC=18
 ·rw[dZ]at hn;obtain⟨a,ha⟩:=Qg (l:=e.bD) hn;exact .not a ha dZ
 ·rw[show(e.aC==18)=false by rw[beq_eq_false_iff_ne];exact dZ,cond_false]at hn;obtain⟨a,b,ha⟩:=Vf hn;by_cases bH:e.aC<=15
  ·exact .cmp a b ha ⟨hc,bH⟩
  ·exact .log a b ha (by omega)
def Qr(r:Except Int (aB×aP))(er:Int)(t:eZ):Prop:=mj r er t λx y=>y.yVal=x.1/\y.fu=x.2/\dE x.2=true
def Y5(r:Except Int Bool)(er:Int)(b:Bool):Prop:=match r with
 | .ok x=>er=0/\b=x
 | .error z=>er=z/\z≠0/\b=false
theorem Kx{t:aP}{r:aB×Int}(ht:dE t=true):Qr (nY t r) r.2 (⟨r.1,t⟩:eZ):=by
 unfold nY;cases h:(r.2 !=0)with
 |true=>exact⟨rfl,by simpa using h⟩
 |false=>exact⟨by simpa using h,rfl,rfl,ht⟩
structure HX(N:Nat)(mem:List aO)(env:List aV)(e:ay):Prop where
 v:eo e=false->∀(d:Nat)(kv:List (ByteArray×aU)),3*SizeOf.sizeOf e<=d->CK mem kv->∃t er e8,lP N d e env mem kv=some (t,er,e8)/\CK mem e8/\Qr (eY mem env e) er t
 h:eo e=true->∀(d:Nat)(kv:List (ByteArray×aU)),3*SizeOf.sizeOf e<=d->CK mem kv->∃b er e8,m7 N d e env mem kv=some (b,er,e8)/\CK mem e8/\Y5 (iq mem env e) er b
theorem aeI(N:Nat)(env:amT aV)(e:ay)(mem:amT aO)(kv:amT (amU×aU))(d:Nat):lP N (d+1) e env mem kv=xB N env e mem kv (m7 N d) (lP N d) (pK N d) (e.aC==1||(e.aC==2||e.aC==3)):=by
 rw[lP];cases h1:(e.aC==1)with
 |true=>rfl
 |false=>
  cases h2:(e.aC==2)with
  |true=>rfl
  |false=>rfl
theorem agb{e:ay}(h:CJ e):(e.aC==1||(e.aC==2||e.aC==3))=decide (e.aC<=3):=by
 have:=h.lo;by_cases h3:e.aC<=3
 ·rw[amM h3];have:e.aC=1\/e.aC=2\/e.aC=3:=by omega
  rcases this with h|h|h<;>rw[h]<;>rfl
 ·rw[amN h3,show(e.aC==1)=false by rw[beq_eq_false_iff_ne];omega,show(e.aC==2)=false by rw[beq_eq_false_iff_ne];omega,show(e.aC==3)=false by rw[beq_eq_false_iff_ne];omega];rfl
theorem Tm{N:Nat}{mem:amT aO}{env:amT aV}{e a b:ay}(ha:e.bD=[a,b])(A:HX N mem env a)(B:HX N mem env b)(ca:eo a=false)(cb:eo b=false)(d:Nat)(kv:amT (amU×aU))(hd:3*SizeOf.sizeOf a<=d/\3*SizeOf.sizeOf b<=d)(hk:CK mem kv):
 ∃x y er e8,vR N (d+1) e env mem kv=some (x,y,er,e8)/\CK mem e8/\mj (jm (eY mem env a) λp=>jm (eY mem env b) λq=>bif iY p.2 q.2 then .ok (p,q)else .error 10) er (x,y) λp r=>r.1.yVal=p.1.1/\r.1.fu=p.1.2/\r.2.yVal=p.2.1/\r.2.fu=p.2.2/\dE p.1.2=true:=by
 rw[vR,ha];simp only[List.getElem?_cons_zero,amG,al4];obtain⟨t,er,mP,h1,h2,h3⟩:=A.v ca d kv hd.1 hk;rw[h1,al4];cases hv:eY mem env a with
 |error z=>
  rw[hv]at h3;obtain⟨rfl,hz⟩:=h3;simp only;rw[bne_iff_ne.2 hz,cond_true];exact⟨_,_,_,_,rfl,h2,rfl,hz⟩
 |ok p=>
  rw[hv]at h3;obtain⟨rfl,e1,e2,e3⟩:=h3;simp only;rw[show((0:Int) !=0)=false from rfl,cond_false];obtain⟨u,er,I1,q1,q2,q3⟩:=B.v cb d mP hd.2 h2;rw[q1,al4];unfold B9;cases hw:eY mem env b with
  |error z=>
   rw[hw]at q3;obtain⟨rfl,hz⟩:=q3;simp only;rw[show(er==0)=false by rw[beq_eq_false_iff_ne];exact hz,cond_false,al4,cond_false];exact⟨_,_,_,_,rfl,q2,rfl,hz⟩
  |ok q=>
   rw[hw]at q3;obtain⟨rfl,f1,f2,f3⟩:=q3;simp only;rw[show((0:Int)==0)=true from rfl,cond_true,al4];show ∃x y er e8,(bif !(iY t.fu u.fu)then _ else _)=_/\_/\mj (bif iY p.2 q.2 then _ else _) _ _ _;rw[e2,f2];cases iY p.2 q.2 with
   |true=>exact⟨_,_,_,_,rfl,q2,rfl,e1,e2,f1,f2,e3⟩
   |false=>exact⟨_,_,_,_,rfl,q2,rfl,by decide⟩
theorem W8(N:Nat)(hN:9223372036854775808<N)(mem:amT aO)(hm:mem.length<=4611686018427387904)(env:amT aV):∀(n:Nat)(e:ay),SizeOf.sizeOf e<=n->Ev e->HX N mem env e:=by
 intro n
 induction n with
 |zero=>intro e hs _;have:0<SizeOf.sizeOf e:=by cases e;simp;omega
        omega
 |succ n ih=>
  intro e hs hv;have E:=hv.n;have hsz:0<SizeOf.sizeOf e:=by cases e;simp;omega
  have sub:∀x∈e.bD,HX N mem env x/\3*SizeOf.sizeOf x+3<=3*SizeOf.sizeOf e:=λx hx=>by
   have:=tX hx;exact⟨ih x (by omega) (hv.arg hx),by omega⟩
  constructor
  ·intro hc d kv hd hk;obtain⟨d,rfl⟩:∃d',d=d'+1:=⟨d-1,by omega⟩;rw[aeI,agb E];unfold xB;cases kd E hc with
   |leaf h3=>
    rw[amM h3,cond_true,Wl h3];obtain⟨t,er,e8,h1,h2,h4⟩:=ag4 N (by omega) mem hm env e (hv.f e amb) kv hk;rw[h1,al4];refine⟨_,_,_,rfl,h2,?_⟩;cases hl:pL mem env e with
    |error z=>rw[hl]at h4;exact h4
    |ok x=>
     rw[hl]at h4;obtain⟨rfl,rfl⟩:=h4;exact⟨rfl,rfl,rfl,(ahq E.lit hl).1⟩
   |cast a ha ho=>
    have h3:¬e.aC<=3:=by omega
    have CV:a∈e.bD:=by rw[ha];simp
    obtain⟨A,nk⟩:=sub a CV;have ca:eo a=false:=by rw[E.want 0 a (by rw[ha];rfl),ho];rfl
    rw[amN h3,cond_false,show(e.aC==11)=false by rw[ho];rfl,cond_false,Iy h3 ha,ho];obtain⟨d,rfl⟩:∃d',d=d'+1:=⟨d-1,by omega⟩;rw[pK,ha,ho];simp only[List.getElem?_cons_zero,al4,Int.reduceBEq,cond_false,cond_true];obtain⟨t,er,mP,h1,h2,h4⟩:=A.v ca d kv (by omega) hk;rw[h1,al4];cases iR:eY mem env a with
    |error z=>
     rw[iR]at h4;obtain⟨rfl,hz⟩:=h4;simp only;rw[bne_iff_ne.2 hz,cond_true,al4];exact⟨_,_,_,rfl,h2,rfl,hz⟩
    |ok p=>
     rw[iR]at h4;obtain⟨rfl,e1,e2,e3⟩:=h4;simp only;rw[show((0:Int) !=0)=false from rfl,cond_false,alE N hN,al4,al4,e1,e2];exact⟨_,_,_,rfl,h2,Kx (E.cast ho)⟩
   |neg a ha ho=>
    have h3:¬e.aC<=3:=by omega
    have CV:a∈e.bD:=by rw[ha];simp
    obtain⟨A,nk⟩:=sub a CV;have ca:eo a=false:=by rw[E.want 0 a (by rw[ha];rfl),ho];rfl
    rw[amN h3,cond_false,show(e.aC==11)=false by rw[ho];rfl,cond_false,Iy h3 ha,ho];obtain⟨d,rfl⟩:∃d',d=d'+1:=⟨d-1,by omega⟩;rw[pK,ha,ho];simp only[List.getElem?_cons_zero,al4,Int.reduceBEq,cond_false,cond_true];obtain⟨t,er,mP,h1,h2,h4⟩:=A.v ca d kv (by omega) hk;rw[h1,al4];cases iR:eY mem env a with
    |error z=>
     rw[iR]at h4;obtain⟨rfl,hz⟩:=h4;simp only;rw[bne_iff_ne.2 hz,cond_true,al4];exact⟨_,_,_,rfl,h2,rfl,hz⟩
    |ok p=>
     rw[iR]at h4;obtain⟨rfl,e1,e2,e3⟩:=h4;simp only;rw[show((0:Int) !=0)=false from rfl,cond_false,Yg N hN,al4,al4,e1,e2];exact⟨_,_,_,rfl,h2,Kx e3⟩
   |bin a b ha ho=>
    have h3:¬e.aC<=3:=by omega
    obtain⟨A,nk⟩:=sub a (by rw[ha];simp);obtain⟨B,vT⟩:=sub b (by rw[ha];simp);have w0:iW e.aC 0=false:=by
     unfold iW;rw[show(e.aC==11)=false by rw[beq_eq_false_iff_ne];omega,show(e.aC==16)=false by rw[beq_eq_false_iff_ne];omega,show(e.aC==17)=false by rw[beq_eq_false_iff_ne];omega,show(e.aC==18)=false by rw[beq_eq_false_iff_ne];omega];rfl
    have w1:iW e.aC 1=false:=by
     unfold iW;rw[show(e.aC==11)=false by rw[beq_eq_false_iff_ne];omega,show(e.aC==16)=false by rw[beq_eq_false_iff_ne];omega,show(e.aC==17)=false by rw[beq_eq_false_iff_ne];omega,show(e.aC==18)=false by rw[beq_eq_false_iff_ne];omega];rfl
    have ca:eo a=false:=by rw[E.want 0 a (by rw[ha];rfl),w0]
    have cb:eo b=false:=by rw[E.want 1 b (by rw[ha];rfl),w1]
    rw[amN h3,cond_false,show(e.aC==11)=false by rw[beq_eq_false_iff_ne];omega,cond_false,Wn h3 ha];obtain⟨d,rfl⟩:∃d',d=d'+1+1:=⟨d-2,by omega⟩;rw[pK,show(e.aC==8)=false by rw[beq_eq_false_iff_ne];omega,cond_false,show(e.aC==12)=false by rw[beq_eq_false_iff_ne];omega,al4,cond_false];obtain⟨x,y,er,e8,h1,h2,h4⟩:=Tm (e:=e) ha A B ca cb d kv ⟨by omega,by omega⟩ hk;rw[h1,al4];cases iR:eY mem env a with
    |error z=>
     rw[iR]at h4;obtain⟨rfl,hz⟩:=h4;simp only;rw[bne_iff_ne.2 hz,cond_true,al4];exact⟨_,_,_,rfl,h2,rfl,hz⟩
    |ok p=>
     rw[iR]at h4;cases pM:eY mem env b with
     |error z=>
      rw[pM]at h4;obtain⟨rfl,hz⟩:=h4;simp only;rw[bne_iff_ne.2 hz,cond_true,al4];exact⟨_,_,_,rfl,h2,rfl,hz⟩
     |ok q=>
      rw[pM]at h4;show ∃t er e8,_=_/\_/\Qr (bif iY p.2 q.2 then nY p.2 (qP e.aC p.2 p.1 q.1)else .error 10) er t;replace h4:mj (bif iY p.2 q.2 then .ok (p,q)else .error 10) er (x,y) λp r=>r.1.yVal=p.1.1/\r.1.fu=p.1.2/\r.2.yVal=p.2.1/\r.2.fu=p.2.2/\dE p.1.2=true:=h4;cases oM:iY p.2 q.2 with
      |false=>
       rw[oM]at h4;obtain⟨rfl,hz⟩:=h4;simp only;rw[bne_iff_ne.2 hz,cond_true,al4];exact⟨_,_,_,rfl,h2,rfl,hz⟩
      |true=>
       rw[oM]at h4;obtain⟨rfl,e1,e2,e3,e4,e5⟩:=h4;simp only at e1 e2 e3 e4 e5 ⊢;rw[show((0:Int) !=0)=false from rfl,cond_false,Yg N hN,al4,al4,e1,e2,e3];exact⟨_,_,_,rfl,h2,Kx e5⟩
   |ite c a b ha ho=>
    have h3:¬e.aC<=3:=by omega
    obtain⟨C,hsc⟩:=sub c (by rw[ha];simp);obtain⟨A,nk⟩:=sub a (by rw[ha];simp);obtain⟨B,vT⟩:=sub b (by rw[ha];simp);have cc:eo c=true:=by rw[E.want 0 c (by rw[ha];rfl),ho];rfl
    have ca:eo a=false:=by rw[E.want 1 a (by rw[ha];rfl),ho];rfl
    have cb:eo b=false:=by rw[E.want 2 b (by rw[ha];rfl),ho];rfl
    rw[amN h3,cond_false,show(e.aC==11)=true by rw[ho];rfl,cond_true,XW h3 ha,ha];simp only[List.getElem?_cons_zero,amG,al4];obtain⟨t,er,mP,h1,h2,h4⟩:=C.h cc d kv (by omega) hk;rw[h1,al4];cases hh:iq mem env c with
    |error z=>
     rw[hh]at h4;obtain⟨rfl,hz,rfl⟩:=h4;simp only;rw[bne_iff_ne.2 hz,cond_true];exact⟨_,_,_,rfl,h2,rfl,hz⟩
    |ok s=>
     rw[hh]at h4;obtain⟨rfl,rfl⟩:=h4;simp only;rw[show((0:Int) !=0)=false from rfl,cond_false];cases t with
     |true=>
      obtain⟨u,er,I1,q1,q2,q3⟩:=A.v ca d mP (by omega) h2;rw[cond_true,q1,al4];exact⟨_,_,_,rfl,q2,q3⟩
     |false=>
      obtain⟨u,er,I1,q1,q2,q3⟩:=B.v cb d mP (by omega) h2;rw[cond_false,q1,al4];exact⟨_,_,_,rfl,q2,q3⟩
  ·intro hc d kv hd hk;obtain⟨d,rfl⟩:∃d',d=d'+1+1:=⟨d-2,by omega⟩;rw[m7,Dv];cases kc E hc with
   |not a ha ho=>
    obtain⟨A,nk⟩:=sub a (by rw[ha];simp);have ca:eo a=true:=by rw[E.want 0 a (by rw[ha];rfl),ho];rfl
    rw[ha,ho,UC ha,amN (by decide),cond_false];simp only[List.getElem?_cons_zero,al4];obtain⟨t,er,mP,h1,h2,h4⟩:=A.h ca d kv (by omega) hk;rw[h1,al4];cases hh:iq mem env a with
    |error z=>
     rw[hh]at h4;obtain⟨rfl,hz,rfl⟩:=h4;simp only;rw[bne_iff_ne.2 hz,cond_true,al4,cond_true,show(er==0)=false by rw[beq_eq_false_iff_ne];exact hz,cond_false,al4,al4];exact⟨_,_,_,rfl,h2,rfl,hz,rfl⟩
    |ok s=>
     rw[hh]at h4;obtain⟨rfl,rfl⟩:=h4;exact⟨_,_,_,rfl,h2,rfl,rfl⟩
   |cmp a b ha ho=>
    obtain⟨A,nk⟩:=sub a (by rw[ha];simp);obtain⟨B,vT⟩:=sub b (by rw[ha];simp);have w:∀i,iW e.aC i=false:=λi=>by
     unfold iW;rw[show(e.aC==11)=false by rw[beq_eq_false_iff_ne];omega,show(e.aC==16)=false by rw[beq_eq_false_iff_ne];omega,show(e.aC==17)=false by rw[beq_eq_false_iff_ne];omega,show(e.aC==18)=false by rw[beq_eq_false_iff_ne];omega];rfl
    have ca:eo a=false:=by rw[E.want 0 a (by rw[ha];rfl),w]
    have cb:eo b=false:=by rw[E.want 1 b (by rw[ha];rfl),w]
    rw[amM (show e.aC<16 by omega),cond_true,Gj ha,amM (show e.aC<16 by omega),cond_true];obtain⟨d,rfl⟩:∃d',d=d'+1:=⟨d-1,by omega⟩;obtain⟨x,y,er,e8,h1,h2,h4⟩:=Tm (e:=e) ha A B ca cb d kv ⟨by omega,by omega⟩ hk;rw[h1,al4];cases iR:eY mem env a with
    |error z=>
     rw[iR]at h4;obtain⟨rfl,hz⟩:=h4;simp only;rw[bne_iff_ne.2 hz,cond_true,al4];exact⟨_,_,_,rfl,h2,rfl,hz,rfl⟩
    |ok p=>
     rw[iR]at h4;cases pM:eY mem env b with
     |error z=>
      rw[pM]at h4;obtain⟨rfl,hz⟩:=h4;simp only;rw[bne_iff_ne.2 hz,cond_true,al4];exact⟨_,_,_,rfl,h2,rfl,hz,rfl⟩
     |ok q=>
      rw[pM]at h4;show ∃b er e8,_=_/\_/\Y5 (bif iY p.2 q.2 then .ok (wg e.aC (jT p.2 p.1 q.1))else .error 10) er b;replace h4:mj (bif iY p.2 q.2 then .ok (p,q)else .error 10) er (x,y) λp r=>r.1.yVal=p.1.1/\r.1.fu=p.1.2/\r.2.yVal=p.2.1/\r.2.fu=p.2.2/\dE p.1.2=true:=h4;cases oM:iY p.2 q.2 with
      |false=>
       rw[oM]at h4;obtain⟨rfl,hz⟩:=h4;simp only;rw[bne_iff_ne.2 hz,cond_true,al4];exact⟨_,_,_,rfl,h2,rfl,hz,rfl⟩
      |true=>
       rw[oM]at h4;obtain⟨rfl,e1,e2,e3,e4,e5⟩:=h4;simp only at e1 e2 e3 e4 e5 ⊢;rw[show((0:Int) !=0)=false from rfl,cond_false,e1,e2,e3,Wc N (by omega) _ _ _ e5,al4];unfold Kz wg;cases (e.aC==13)with
       |true=>exact⟨_,_,_,rfl,h2,rfl,rfl⟩
       |false=>
        cases (e.aC==14)with
        |true=>exact⟨_,_,_,rfl,h2,rfl,rfl⟩
        |false=>exact⟨_,_,_,rfl,h2,rfl,rfl⟩
   |log a b ha ho=>
    obtain⟨A,nk⟩:=sub a (by rw[ha];simp);obtain⟨B,vT⟩:=sub b (by rw[ha];simp);have w:∀i,iW e.aC i=true:=λi=>by
     unfold iW;rcases ho with h|h<;>rw[h]<;>simp
    have ca:eo a=true:=by rw[E.want 0 a (by rw[ha];rfl),w]
    have cb:eo b=true:=by rw[E.want 1 b (by rw[ha];rfl),w]
    rw[amN (show ¬e.aC<16 by omega),cond_false,Gj ha,amN (show ¬e.aC<16 by omega),cond_false,ha];simp only[List.getElem?_cons_zero,amG,al4];obtain⟨t,er,mP,h1,h2,h4⟩:=A.h ca d kv (by omega) hk;rw[h1,al4];cases hh:iq mem env a with
    |error z=>
     rw[hh]at h4;obtain⟨rfl,hz,rfl⟩:=h4;simp only;rw[bne_iff_ne.2 hz,cond_true,al4,cond_true,show(er==0)=false by rw[beq_eq_false_iff_ne];exact hz,cond_false,al4,al4];exact⟨_,_,_,rfl,h2,rfl,hz,rfl⟩
    |ok s=>
     rw[hh]at h4;obtain⟨rfl,rfl⟩:=h4;simp only;rw[show((0:Int) !=0)=false from rfl,cond_false,show(e.aC==18)=false by rw[beq_eq_false_iff_ne];omega,al4,cond_false];obtain⟨u,er,I1,q1,q2,q3⟩:=B.h cb d mP (by omega) h2;rw[q1,al4];cases hg:iq mem env b with
     |error z=>
      rw[hg]at q3;obtain⟨rfl,hz,rfl⟩:=q3;simp only;rw[bne_iff_ne.2 hz,cond_true,al4];exact⟨_,_,_,rfl,q2,rfl,hz,rfl⟩
     |ok s2=>
      rw[hg]at q3;obtain⟨rfl,rfl⟩:=q3;simp only;rw[show((0:Int) !=0)=false from rfl,cond_false];unfold jm;simp only;cases (e.aC==16)<;>cases t<;>exact⟨_,_,_,rfl,q2,rfl,rfl⟩
def Gp(r:Except Int (aB×aP))(g:iD):Prop:=match r with
 | .ok x=>g=⟨x.1,x.2,0⟩
 | .error z=>g=⟨bK,eD,z⟩/\z≠0
def U8(r:Except Int Bool)(p:Bool×Int):Prop:=match r with
 | .ok x=>p=(x,0)
 | .error z=>p=(false,z)/\z≠0
theorem abj(N:Nat)(hN:2147483648<N)(mem:amT aO)(env:amT aV)(e:ay)(hf:B5 e):∃g,Dq N mem env e=some g/\Gp (pL mem env e) g:=by
 obtain⟨g,h1,h2,h3⟩:=ajd N hN mem env e hf;refine⟨g,h1,?_⟩;obtain⟨v,t,er⟩:=g;cases hl:pL mem env e with
 |error z=>
  rw[hl]at h2;obtain⟨rfl,hz⟩:=h2;obtain⟨rfl,rfl⟩:=h3 hz;exact⟨rfl,hz⟩
 |ok x=>
  rw[hl]at h2;obtain⟨q1,q2,q3⟩:=h2;simp only at q1 q2 q3;subst q1;subst q2;subst q3;rfl
structure X1(N:Nat)(mem:List aO)(env:List aV)(e:ay):Prop where
 v:eo e=false->∀d:Nat,SizeOf.sizeOf e<=d->∃g,nX N d mem env e=some g/\Gp (eY mem env e) g
 h:eo e=true->∀d:Nat,SizeOf.sizeOf e<=d->∃p,su N d mem env e=some p/\U8 (iq mem env e) p
theorem NR{t:aP}{r:aB×Int}:∃g,(bif r.2 !=0then some (⟨bK,eD,r.2⟩:iD)else some (⟨r.1,t,(0:Int)⟩:iD))=some g/\Gp (nY t r) g:=by
 unfold nY;cases h:(r.2 !=0)with
 |true=>exact⟨_,rfl,rfl,by simpa using h⟩
 |false=>exact⟨_,rfl,rfl⟩
theorem X0(N:Nat)(hN:9223372036854775808<N)(mem:amT aO)(env:amT aV):∀(n:Nat)(e:ay),SizeOf.sizeOf e<=n->Ev e->X1 N mem env e:=by
 intro n
 induction n with
 |zero=>intro e hs _;have:0<SizeOf.sizeOf e:=by cases e;simp;omega
        omega
 |succ n ih=>
  intro e hs hv;have E:=hv.n;have hsz:0<SizeOf.sizeOf e:=by cases e;simp;omega
  have sub:∀x∈e.bD,X1 N mem env x/\SizeOf.sizeOf x+1<=SizeOf.sizeOf e:=λx hx=>by
   have:=tX hx;exact⟨ih x (by omega) (hv.arg hx),by omega⟩
  constructor
  ·intro hc d hd;obtain⟨d,rfl⟩:∃d',d=d'+1:=⟨d-1,by omega⟩;rw[nX];cases kd E hc with
   |leaf h3=>
    rw[amM h3,cond_true,Wl h3];obtain⟨g,h1,h2⟩:=abj N (by omega) mem env e (hv.f e amb);rw[h1,al4];exact⟨_,rfl,h2⟩
   |cast a ha ho=>
    have h3:¬e.aC<=3:=by omega
    obtain⟨A,nk⟩:=sub a (by rw[ha];simp);have ca:eo a=false:=by rw[E.want 0 a (by rw[ha];rfl),ho];rfl
    rw[amN h3,cond_false,Iy h3 ha,ha,ho];simp only[List.getElem?_cons_zero,al4,Int.reduceBEq,cond_false,cond_true];obtain⟨g,h1,h2⟩:=A.v ca d (by omega);rw[h1,al4];cases iR:eY mem env a with
    |error z=>
     rw[iR]at h2;obtain⟨rfl,hz⟩:=h2;simp only;rw[bne_iff_ne.2 hz,cond_true];exact⟨_,rfl,rfl,hz⟩
    |ok p=>
     rw[iR]at h2;cases h2
     simp only;rw[show((0:Int) !=0)=false from rfl,cond_false,aln N hN,al4];exact NR
   |neg a ha ho=>
    have h3:¬e.aC<=3:=by omega
    obtain⟨A,nk⟩:=sub a (by rw[ha];simp);have ca:eo a=false:=by rw[E.want 0 a (by rw[ha];rfl),ho];rfl
    rw[amN h3,cond_false,Iy h3 ha,ha,ho];simp only[List.getElem?_cons_zero,al4,Int.reduceBEq,cond_false,cond_true,Int.reduceBNe];obtain⟨g,h1,h2⟩:=A.v ca d (by omega);rw[h1,al4];unfold Fg;cases iR:eY mem env a with
    |error z=>
     rw[iR]at h2;obtain⟨rfl,hz⟩:=h2;simp only;rw[bne_iff_ne.2 hz,cond_true];exact⟨_,rfl,rfl,hz⟩
    |ok p=>
     rw[iR]at h2;cases h2
     simp only;rw[show((0:Int) !=0)=false from rfl,cond_false,cond_false];show ∃g,(bif iY p.2 p.2 then _ else _)=_/\_;rw[(aiA).2 rfl,cond_true,ho,QJ N hN,al4];exact NR
   |bin a b ha ho=>
    have h3:¬e.aC<=3:=by omega
    obtain⟨A,nk⟩:=sub a (by rw[ha];simp);obtain⟨B,vT⟩:=sub b (by rw[ha];simp);have w:∀i,iW e.aC i=false:=λi=>by
     unfold iW;rw[show(e.aC==11)=false by rw[beq_eq_false_iff_ne];omega,show(e.aC==16)=false by rw[beq_eq_false_iff_ne];omega,show(e.aC==17)=false by rw[beq_eq_false_iff_ne];omega,show(e.aC==18)=false by rw[beq_eq_false_iff_ne];omega];rfl
    have ca:eo a=false:=by rw[E.want 0 a (by rw[ha];rfl),w]
    have cb:eo b=false:=by rw[E.want 1 b (by rw[ha];rfl),w]
    rw[amN h3,cond_false,show(e.aC==11)=false by rw[beq_eq_false_iff_ne];omega,cond_false,show(e.aC==12)=false by rw[beq_eq_false_iff_ne];omega,Wn h3 ha,ha];simp only[List.getElem?_cons_zero,amG,al4];obtain⟨g,h1,h2⟩:=A.v ca d (by omega);rw[h1,al4];cases iR:eY mem env a with
    |error z=>
     rw[iR]at h2;obtain⟨rfl,hz⟩:=h2;simp only;rw[bne_iff_ne.2 hz,cond_true];exact⟨_,rfl,rfl,hz⟩
    |ok p=>
     rw[iR]at h2;cases h2
     simp only;rw[show((0:Int) !=0)=false from rfl,cond_false,cond_false,show(e.aC !=8)=true by rw[bne_iff_ne];omega,cond_true];obtain⟨g,q1,q2⟩:=B.v cb d (by omega);rw[q1,al4];unfold Fg;cases pM:eY mem env b with
     |error z=>
      rw[pM]at q2;obtain⟨rfl,hz⟩:=q2;simp only;rw[bne_iff_ne.2 hz,cond_true];exact⟨_,rfl,rfl,hz⟩
     |ok q=>
      rw[pM]at q2;cases q2
      simp only;rw[show((0:Int) !=0)=false from rfl,cond_false];show ∃g,(bif iY p.2 q.2 then _ else _)=_/\Gp (bif iY p.2 q.2 then nY p.2 (qP e.aC p.2 p.1 q.1)else .error 10) g;cases iY p.2 q.2 with
      |false=>exact⟨_,rfl,rfl,by decide⟩
      |true=>
       rw[cond_true,cond_true,QJ N hN,al4];exact NR
   |ite c a b ha ho=>
    have h3:¬e.aC<=3:=by omega
    obtain⟨C,hsc⟩:=sub c (by rw[ha];simp);obtain⟨A,nk⟩:=sub a (by rw[ha];simp);obtain⟨B,vT⟩:=sub b (by rw[ha];simp);have cc:eo c=true:=by rw[E.want 0 c (by rw[ha];rfl),ho];rfl
    have ca:eo a=false:=by rw[E.want 1 a (by rw[ha];rfl),ho];rfl
    have cb:eo b=false:=by rw[E.want 2 b (by rw[ha];rfl),ho];rfl
    rw[amN h3,cond_false,show(e.aC==11)=true by rw[ho];rfl,cond_true,XW h3 ha,ha];simp only[List.getElem?_cons_zero,amG,al4];obtain⟨p,h1,h2⟩:=C.h cc d (by omega);rw[h1,al4];cases hh:iq mem env c with
    |error z=>
     rw[hh]at h2;obtain⟨rfl,hz⟩:=h2;simp only;rw[bne_iff_ne.2 hz,cond_true];exact⟨_,rfl,rfl,hz⟩
    |ok s=>
     rw[hh]at h2;cases h2
     simp only;rw[show((0:Int) !=0)=false from rfl,cond_false];cases s with
     |true=>
      obtain⟨g,q1,q2⟩:=A.v ca d (by omega);rw[cond_true,q1,al4];exact⟨_,rfl,q2⟩
     |false=>
      obtain⟨g,q1,q2⟩:=B.v cb d (by omega);rw[cond_false,q1,al4];exact⟨_,rfl,q2⟩
  ·intro hc d hd;obtain⟨d,rfl⟩:∃d',d=d'+1:=⟨d-1,by omega⟩;rw[su];cases kc E hc with
   |not a ha ho=>
    obtain⟨A,nk⟩:=sub a (by rw[ha];simp);have ca:eo a=true:=by rw[E.want 0 a (by rw[ha];rfl),ho];rfl
    rw[ha,ho,UC ha,amM (by decide),cond_true];simp only[List.getElem?_cons_zero,al4];obtain⟨p,h1,h2⟩:=A.h ca d (by omega);rw[h1,al4];cases hh:iq mem env a with
    |error z=>
     rw[hh]at h2;obtain⟨rfl,hz⟩:=h2;simp only;rw[bne_iff_ne.2 hz,cond_true,al4,cond_true,show(z==0)=false by rw[beq_eq_false_iff_ne];exact hz,cond_false,al4];exact⟨_,rfl,rfl,hz⟩
    |ok s=>
     rw[hh]at h2;cases h2
     exact⟨_,rfl,rfl⟩
   |cmp a b ha ho=>
    obtain⟨A,nk⟩:=sub a (by rw[ha];simp);obtain⟨B,vT⟩:=sub b (by rw[ha];simp);have w:∀i,iW e.aC i=false:=λi=>by
     unfold iW;rw[show(e.aC==11)=false by rw[beq_eq_false_iff_ne];omega,show(e.aC==16)=false by rw[beq_eq_false_iff_ne];omega,show(e.aC==17)=false by rw[beq_eq_false_iff_ne];omega,show(e.aC==18)=false by rw[beq_eq_false_iff_ne];omega];rfl
    have ca:eo a=false:=by rw[E.want 0 a (by rw[ha];rfl),w]
    have cb:eo b=false:=by rw[E.want 1 b (by rw[ha];rfl),w]
    rw[amN (show ¬e.aC>=16 by omega),cond_false,Gj ha,amM (show e.aC<16 by omega),cond_true,ha];simp only[List.getElem?_cons_zero,amG,al4];obtain⟨g,h1,h2⟩:=A.v ca d (by omega);rw[h1,al4];cases iR:eY mem env a with
    |error z=>
     rw[iR]at h2;obtain⟨rfl,hz⟩:=h2;simp only;rw[bne_iff_ne.2 hz,cond_true];exact⟨_,rfl,rfl,hz⟩
    |ok p=>
     rw[iR]at h2;cases h2
     simp only;rw[show((0:Int) !=0)=false from rfl,cond_false];obtain⟨g,q1,q2⟩:=B.v cb d (by omega);rw[q1,al4];cases pM:eY mem env b with
     |error z=>
      rw[pM]at q2;obtain⟨rfl,hz⟩:=q2;simp only;rw[bne_iff_ne.2 hz,cond_true];exact⟨_,rfl,rfl,hz⟩
     |ok q=>
      rw[pM]at q2;cases q2
      simp only;rw[show((0:Int) !=0)=false from rfl,cond_false];show ∃g,(bif iY p.2 q.2 then _ else _)=_/\U8 (bif iY p.2 q.2 then .ok (wg e.aC (jT p.2 p.1 q.1))else .error 10) g;cases iY p.2 q.2 with
      |false=>exact⟨_,rfl,rfl,by decide⟩
      |true=>
       rw[cond_true,cond_true,M8 N (by omega),al4];generalize jT p.2 p.1 q.1=c;refine⟨(wg e.aC c,0),?_,rfl⟩;have l9:e.aC=13\/e.aC=14\/e.aC=15:=by omega
       unfold wg;rcases l9 with h|h|h<;>rw[h]
       ·by_cases c0:c<0
        ·rw[amM c0];rfl
        ·rw[amN c0];by_cases c1:c=0
         ·subst c1;rfl
         ·rw[show(c==0)=false by rw[beq_eq_false_iff_ne];exact c1];rfl
       ·by_cases c0:c<0
        ·rw[amM c0,amM (show c<=0 by omega)];rfl
        ·rw[amN c0];by_cases c1:c=0
         ·subst c1;rfl
         ·rw[show(c==0)=false by rw[beq_eq_false_iff_ne];exact c1,amN (show ¬c<=0 by omega)];rfl
       ·by_cases c0:c<0
        ·rw[amM c0,show(c==0)=false by rw[beq_eq_false_iff_ne];omega];rfl
        ·rw[amN c0];by_cases c1:c=0
         ·subst c1;rfl
         ·rw[show(c==0)=false by rw[beq_eq_false_iff_ne];exact c1];rfl
   |log a b ha ho=>
    obtain⟨A,nk⟩:=sub a (by rw[ha];simp);obtain⟨B,vT⟩:=sub b (by rw[ha];simp);have w:∀i,iW e.aC i=true:=λi=>by
     unfold iW;rcases ho with h|h<;>rw[h]<;>simp
    have ca:eo a=true:=by rw[E.want 0 a (by rw[ha];rfl),w]
    have cb:eo b=true:=by rw[E.want 1 b (by rw[ha];rfl),w]
    rw[amM (show e.aC>=16 by omega),cond_true,Gj ha,amN (show ¬e.aC<16 by omega),cond_false,ha];simp only[List.getElem?_cons_zero,amG,al4];obtain⟨p,h1,h2⟩:=A.h ca d (by omega);rw[h1,al4];cases hh:iq mem env a with
    |error z=>
     rw[hh]at h2;obtain⟨rfl,hz⟩:=h2;simp only;rw[bne_iff_ne.2 hz,cond_true,al4,cond_true,show(z==0)=false by rw[beq_eq_false_iff_ne];exact hz,cond_false,al4];exact⟨_,rfl,rfl,hz⟩
    |ok s=>
     rw[hh]at h2;cases h2
     simp only;rw[show((0:Int) !=0)=false from rfl,cond_false,show(e.aC==18)=false by rw[beq_eq_false_iff_ne];omega,al4,cond_false];obtain⟨q,q1,q2⟩:=B.h cb d (by omega);rw[q1,al4];cases hg:iq mem env b with
     |error z=>
      rw[hg]at q2;obtain⟨rfl,hz⟩:=q2;simp only;rw[bne_iff_ne.2 hz,cond_true];exact⟨_,rfl,rfl,hz⟩
     |ok s2=>
      rw[hg]at q2;cases q2
      simp only;rw[show((0:Int) !=0)=false from rfl,cond_false];unfold jm;simp only;refine⟨(bif e.aC==16 then s&&s2 else s||s2,0),?_,rfl⟩;rcases ho with h|h<;>rw[h]<;>cases s<;>cases s2<;>rfl
structure zX(B:Nat)(x:cY):Prop where
 mg:x.cm.xL.length<=B
 at_:x.cO.length<=B
 HK:∀l∈x.cO,l.xL.length<=B
structure FJ(B:Nat)(e:ay):Prop where
 mg:e.cm.xL.length<=B
 idx:e.xIdx.length<=B
 each:∀x∈e.xIdx,zX B x
 args:e.bD.length<=B
def je(B:Nat)(e:ay):Prop:=∀y∈eO e,FJ B y
theorem je.arg{B:Nat}{e x:ay}(h:je B e)(hx:x∈e.bD):je B x:=λy hy=>h y (Jr hx hy)
theorem zX.mono{A B:Nat}(h:A<=B){x:cY}(k:zX A x):zX B x:=⟨amn k.mg h,amn k.at_ h,λl hl=>amn (k.HK l hl) h⟩
theorem FJ.mono{A B:Nat}(h:A<=B){e:ay}(k:FJ A e):FJ B e:=⟨amn k.mg h,amn k.idx h,λx hx=>(k.each x hx).mono h,amn k.args h⟩
abbrev vy:Nat:=140737488355328
theorem Ar{a b:Nat}(h:a+b<=9223372036854775807):aE ((a:Int)+(b:Int))=((a+b:Nat):Int):=by
 rw[<-Int.natCast_add];exact Vp h
def Wt(m n:Nat)(Q:Prop)(r:amV Int):Prop:=∃v:Nat,r=some (v:Int)/\n<=v/\v<=m+500000000000000/\(v<=m->Q)
theorem OW(N:Nat)(m:Nat)(hm:m<=100000)(rec:ay->Int->amV Int)(sq:ay->Prop)(hr:∀(x:ay)(q:Nat),q<=m->sq x->Wt q 1 (je q x) (rec x (q:Int))):∀(l:amT ay)(k v:Nat),v<=m+500000000000000->(∀x∈l,sq x)->
 Wt m v (v+l.length<=m/\∀x∈l,je m x) (wT N (m:Int) rec l k (v:Int))/\AL N (m:Int) rec l k (v:Int)=wT N (m:Int) rec l k (v:Int)
 |[],k,v,hv,_=>⟨⟨v,rfl,amg _,by omega,λh=>⟨h,λ_ h=>by cases h⟩⟩,rfl⟩
 |x::l,k,v,hv,hx=>by
  rw[wT,AL,Bk];by_cases h:v<=m
  ·rw[amM h,cond_true,cond_true,show aE ((m:Int)-(v:Int))=((m-v:Nat):Int) by rw[show(m:Int)-(v:Int)=((m-v:Nat):Int) by omega];exact Vp (by omega)];obtain⟨n,e1,e2,e3,e4⟩:=hr x (m-v) (Nat.sub_le _ _) (hx x amb);rw[e1,al4,al4];dsimp only;rw[Ar (by omega)];by_cases hn:v+n<=m
   ·obtain⟨⟨u,f1,f2,f3,f4⟩,f5⟩:=OW N m hm rec sq hr l (k+1) (v+n) (by omega) λy hy=>hx y (ame _ hy);refine⟨⟨u,f1,by omega,f3,λhu=> ?_⟩,f5⟩;obtain⟨g1,g2⟩:=f4 hu;refine⟨by simp only[al8];omega,λy hy=> ?_⟩;rcases amz.1 hy with rfl|hy
    ·exact λz hz=>(e4 (by omega) z hz).mono (by omega)
    ·exact g2 y hy
   ·have stop:∀(l:amT ay)(k:Nat),wT N (m:Int) rec l k ((v+n:Nat):Int)=some ((v+n:Nat):Int)/\AL N (m:Int) rec l k ((v+n:Nat):Int)=some ((v+n:Nat):Int):=by
     intro l k;cases l with
     |nil=>exact⟨rfl,rfl⟩
     |cons y l=>rw[wT,AL,Bk,amN hn];exact⟨rfl,rfl⟩
    rw[(stop l (k+1)).1,(stop l (k+1)).2];exact⟨⟨v+n,rfl,by omega,by omega,λh=>absurd h hn⟩,rfl⟩
  ·rw[amN h];exact⟨⟨v,rfl,amg _,by omega,λh'=>absurd h' h⟩,rfl⟩
theorem Ws(N:Nat)(m:Nat)(hm:m<=100000)(c:Int->amV Int)(lo:Nat)(Q:Prop)(hc:∀v:Nat,v<=m+500000000000000->lo<=v->Wt m v Q (c (v:Int))):∀(l:amT cn)(k v:Nat),v<=m+500000000000000->lo<=v->(∀x∈l,x.xL.length<=vy)->
 Wt m v (Q/\∀x∈l,x.xL.length<=m) (GS N c (m:Int) l k (v:Int))
 |[],k,v,hv,kg,_=>by
  obtain⟨u,h1,h2,h3,h4⟩:=hc v hv kg;exact⟨u,h1,h2,h3,λh=>⟨h4 h,λ_ h=>by cases h⟩⟩
 |x::l,k,v,hv,kg,hx=>by
  rw[GS,Bk];by_cases h:v<=m
  ·have vE:x.xL.length<=140737488355328:=hx x amb;rw[amM h,cond_true];dsimp only;rw[Ar (by omega)];obtain⟨u,f1,f2,f3,f4⟩:=Ws N m hm c lo Q hc l (k+1) (v+x.xL.length) (by omega) (by omega) λy hy=>hx y (ame _ hy);refine⟨u,f1,by omega,f3,λhu=>⟨(f4 hu).1,λy hy=> ?_⟩⟩;rcases amz.1 hy with rfl|hy
   ·omega
   ·exact(f4 hu).2 y hy
  ·rw[amN h,cond_false];obtain⟨u,h1,h2,h3,h4⟩:=hc v hv kg;exact⟨u,h1,h2,h3,λhu=>absurd (amn h2 hu) h⟩
theorem RF(N:Nat)(m:Nat)(hm:m<=100000)(rec:ay->Int->amV Int)(sq:ay->Prop)(hr:∀(x:ay)(q:Nat),q<=m->sq x->Wt q 1 (je q x) (rec x (q:Int)))(e:ay)(ha:∀x∈e.bD,sq x):∀(l:amT cY)(k v:Nat),v<=m+500000000000000->(∀x∈l,zX vy x)->
 Wt m v ((e.bD.length<=m/\∀x∈e.bD,je m x)/\∀x∈l,zX m x) (yc N (m:Int) rec e l k (v:Int))
 |[],k,v,hv,_=>by
  rw[yc];obtain⟨u,h1,h2,h3,h4⟩:=(OW N m hm rec sq hr e.bD 0 v hv ha).1;exact⟨u,h1,h2,h3,λh=>⟨⟨by have:=(h4 h).1;omega,(h4 h).2⟩,λ_ h=>by cases h⟩⟩
 |x::l,k,v,hv,hx=>by
  rw[yc,Bk];by_cases h:v<=m
  ·have vE:=hx x amb;have h1:x.cm.xL.length<=140737488355328:=vE.mg;have h2:x.cO.length<=140737488355328:=vE.at_;rw[amM h,cond_true,Ar (by omega),Ar (by omega)];obtain⟨u,f1,f2,f3,f4⟩:=Ws N m hm (λcu=>yc N (m:Int) rec e l (k+1) cu) 0 _ (λv hv _=>RF N m hm rec sq hr e ha l (k+1) v hv λy hy=>hx y (ame _ hy)) x.cO 0 (v+x.cm.xL.length+x.cO.length) (by omega) (Nat.zero_le _) vE.HK;refine⟨u,f1,by omega,f3,λhu=> ?_⟩;obtain⟨⟨g1,g2⟩,g3⟩:=f4 hu;refine⟨g1,λy hy=> ?_⟩;rcases amz.1 hy with rfl|hy
   ·exact⟨by omega,by omega,g3⟩
   ·exact g2 y hy
  ·rw[amN h,cond_false];obtain⟨⟨u,h1,h2,h3,h4⟩,h5⟩:=OW N m hm rec sq hr e.bD 0 v hv ha;rw[h5];exact⟨u,h1,h2,h3,λhu=>absurd (amn h2 hu) h⟩
theorem QQ(N:Nat):∀(d:Nat)(e:ay)(m:Nat),m<=100000->SizeOf.sizeOf e<d->je vy e->Wt m 1 (je m e) (uT N d e (m:Int))
 |0,_,_,_,h,_=>absurd h (amx _)
 |d+1,e,m,hm,h,hl=>by
  have he:=hl e amb;have h1:e.cm.xL.length<=140737488355328:=he.mg;have h2:e.xIdx.length<=140737488355328:=he.idx;rw[uT,show(1:Int)=((1:Nat):Int)from rfl,Ar (by omega),Ar (by omega)];obtain⟨u,f1,f2,f3,f4⟩:=RF N m hm (uT N d) (λx=>SizeOf.sizeOf x<d/\je vy x) (λx q hq hx=>QQ N d x q (by omega) hx.1 hx.2) e (λx hx=>⟨by have:=tX hx;omega,hl.arg hx⟩) e.xIdx 0 (1+e.cm.xL.length+e.xIdx.length) (by omega) he.each;refine⟨u,f1,by omega,f3,λhu=> ?_⟩;obtain⟨⟨g1,g2⟩,g3⟩:=f4 hu;intro y hy;rcases amz.1 hy with rfl|hy
  ·exact⟨by omega,by omega,g3,g1⟩
  ·obtain⟨x,hx,hy⟩:=LU hy;exact g2 x hx y hy
theorem ale(n:Nat):Cl (n+3000)=some true:=by kernel_rfl
theorem alr{N:Nat}(h:3000<=N):Cl N=some true:=by
 obtain⟨n,rfl⟩:∃n,N=n+3000:=⟨N-3000,by omega⟩;exact ale n
structure WB(x:aO):Prop where
 alY:x.gM.bS.length<=20
 Ym:x.gM.dI.length<=4200
theorem YY(N:Nat)(m:amT aO):∀(l:amT aO)(k:Nat),∃b,Jl N m l k=some b/\(b=true->m.length<=30/\∀x∈l,WB x)
 |[],k=>⟨_,rfl,λh=>⟨by rw[decide_eq_true_eq]at h;omega,λx hx=>by cases hx⟩⟩
 |x::l,k=>by
  rw[Jl];obtain⟨b,h1,h2⟩:=YY N m l (k+1);by_cases c1:(x.bo.size:Int)>100
  ·rw[amM c1];exact⟨false,rfl,λh=>by cases h⟩
  ·rw[amN c1,cond_false];by_cases c2:(x.gM.bS.length:Int)>20
   ·rw[amM c2];exact⟨false,rfl,λh=>by cases h⟩
   ·rw[amN c2,cond_false,al4];by_cases c3:(x.gM.dI.length:Int)>4200
    ·rw[amM c3];exact⟨false,rfl,λh=>by cases h⟩
    ·rw[amN c3,cond_false];refine⟨b,h1,λhb=>⟨(h2 hb).1,λy hy=> ?_⟩⟩;rcases amz.1 hy with rfl|hy
     ·exact⟨by omega,by omega⟩
     ·exact(h2 hb).2 y hy
theorem adM(N:Nat)(m:amT aO):∃b,OX N m=some b/\(b=true->m.length<=30/\∀x∈m,WB x):=YY N m m 0
theorem Q5(N:Nat)(m:amT aV)(n:Int):∀(l:amT aV)(k:Nat),∃b,HE N m n l k=some b/\(b=true->(m.length:Int)<=n)
 |[],k=>⟨_,rfl,λh=>by rw[decide_eq_true_eq]at h;exact h⟩
 |x::l,k=>by
  rw[HE];obtain⟨b,h1,h2⟩:=Q5 N m n l (k+1);cases decide ((x.bo.size:Int)>100)with
  |true=>exact⟨false,rfl,λh=>by cases h⟩
  |false=>exact⟨b,h1,h2⟩
theorem aki(N:Nat)(m:amT aV)(n:Int):∃b,MT N m n=some b/\(b=true->(m.length:Int)<=n):=Q5 N m n m 0
theorem Xd(N:Nat)(rec:ay->amV Bool):∀(l:amT ay)(k:Nat),(∀x∈l,∃b,rec x=some b)->∃b,I7 N rec l k=some b
 |[],k,_=>⟨_,rfl⟩
 |x::l,k,h=>by
  rw[I7];obtain⟨b,hb⟩:=h x amb;rw[hb,al4];cases b with
  |true=>exact Xd N rec l (k+1) λy hy=>h y (ame _ hy)
  |false=>exact⟨_,rfl⟩
theorem VQ(N:Nat)(rec:ay->amV Bool)(e:ay)(h:∀x∈e.bD,∃b,rec x=some b):∀(l:amT cY)(k:Nat),∃b,BM N rec e l k=some b
 |[],k=>by rw[BM];exact Xd N rec e.bD 0 h
 |x::l,k=>by
  rw[BM];cases decide ((x.dA.size:Int)>100)with
  |true=>exact⟨_,rfl⟩
  |false=>exact VQ N rec e h l (k+1)
theorem UM(N:Nat):∀(d:Nat)(e:ay),SizeOf.sizeOf e<d->∃b,xI N d e=some b
 |0,e,h=>by omega
 |d+1,e,h=>by
  rw[xI];cases decide ((e.bo.size:Int)>100)with
  |true=>exact⟨_,rfl⟩
  |false=>
   rw[cond_false,al4];cases decide ((e.xIdx.length:Int)>20)with
   |true=>exact⟨_,rfl⟩
   |false=>exact VQ N _ e (λx hx=>UM N d x (by have:=tX hx;omega)) e.xIdx 0
theorem akO(N:Nat)(e:ay)(m:Nat)(hm:m<=100000)(hl:je vy e)(hs:SizeOf.sizeOf e<N):∃b,E2 N e (m:Int)=some b/\(b=true->je m e):=by
 unfold E2 Mf Pe;obtain⟨w,w1,w2,w3,w4⟩:=QQ N N e m hm hs hl;obtain⟨b,hb⟩:=UM N N e hs;rw[w1,al4];by_cases hw:w<=m
 ·rw[amM (show(w:Int)<=m by omega),cond_true,hb];exact⟨b,rfl,λ_=>w4 hw⟩
 ·rw[amN (show ¬(w:Int)<=m by omega)];exact⟨false,rfl,λh=>by cases h⟩
theorem je.m8{B:Nat}(hB:B<=100000){e:ay}(h:je B e):m8 e:=λy hy=>
 have hm:100000<=maxLen:=by decide
 have H:=h y hy
 ⟨amn (amn H.mg hB) hm,λx hx=>⟨amn (amn (H.each x hx).mg hB) hm,λl hl=>amn (amn ((H.each x hx).HK l hl) hB) hm⟩,amn (amn H.args hB) hm⟩
theorem je.ev{B:Nat}(hB:B<=100000){e:ay}(h:je B e)(hv:ma e=0):Ev e:=
 have hm:100000<=4611686018427387904:=by decide
 ⟨λy hy=>aaX hv y hy,λy hy=>
  have H:=h y hy
  ⟨amn (amn H.mg hB) hm,λx hx=>⟨amn (amn (H.each x hx).mg hB) hm,λl hl=>amn (amn ((H.each x hx).HK l hl) hB) hm⟩⟩⟩
noncomputable def IK(mem:amT aO)(env:amT aV)(e:ay):aB×aP×Int:=
 bif ma e !=0 then(bK,eD,ma e)else bif eo e then(bK,eD,10)else match eY mem env e with
  | .ok x=>(x.1,x.2,0)
  | .error z=>(bK,eD,z)
noncomputable def FL(mem:amT aO)(env:amT aV)(e:ay):Bool×Int:=
 bif ma e !=0 then(false,ma e)else bif eo e then(match iq mem env e with
  | .ok x=>(x,0)
  | .error z=>(false,z))else(false,10)
theorem ajv(N:Nat)(hN:9223372036854775808<N)(mem:amT aO)(hm:mem.length<=30)(env:amT aV)(e:ay){B:Nat}(hB:B<=100000)(hl:je B e)(hs:3*SizeOf.sizeOf e<N):wo N mem env e=some (IK mem env e):=by
 unfold wo IK;rw[Tw N (by omega) e (hl.m8 hB),al4];cases hv:(ma e !=0)with
 |true=>rfl
 |false=>
  rw[bne_eq_false_iff_eq]at hv;rw[cond_false,NC,al4];cases hc:eo e with
  |true=>rfl
  |false=>
   rw[cond_false];unfold vB uy EV;rw[al4,al4];obtain⟨t,er,e8,h1,h2,h3⟩:=(W8 N hN mem (by omega) env _ e (amg _) (hl.ev hB hv)).v hc N [] (by omega) (CK.nil mem);show Option.bind (lP N N e env mem []) _=_;rw[h1,al4];cases hr:eY mem env e with
   |error z=>
    rw[hr]at h3;obtain⟨rfl,hz⟩:=h3;simp only;rw[bne_iff_ne.2 hz];rfl
   |ok x=>
    rw[hr]at h3;obtain⟨rfl,e1,e2,e3⟩:=h3;simp only;rw[e1,e2];rfl
theorem agW(N:Nat)(hN:9223372036854775808<N)(mem:amT aO)(hm:mem.length<=30)(env:amT aV)(e:ay){B:Nat}(hB:B<=100000)(hl:je B e)(hs:3*SizeOf.sizeOf e<N):C7 N mem env e=some (FL mem env e):=by
 unfold C7 FL;rw[Tw N (by omega) e (hl.m8 hB),al4];cases hv:(ma e !=0)with
 |true=>rfl
 |false=>
  rw[bne_eq_false_iff_eq]at hv;rw[cond_false,NC,al4];cases hc:eo e with
  |false=>rfl
  |true=>
   rw[cond_true];unfold vB uy MS;rw[al4,al4];obtain⟨t,er,e8,h1,h2,h3⟩:=(W8 N hN mem (by omega) env _ e (amg _) (hl.ev hB hv)).h hc N [] (by omega) (CK.nil mem);show Option.bind (m7 N N e env mem []) _=_;rw[h1,al4];cases hr:iq mem env e with
   |error z=>
    rw[hr]at h3;obtain⟨rfl,hz,rfl⟩:=h3;rfl
   |ok x=>
    rw[hr]at h3;obtain⟨rfl,rfl⟩:=h3;rfl
theorem ZF(N:Nat)(hN:9223372036854775808<N)(mem:amT aO)(env:amT aV)(e:ay){B:Nat}(hB:B<=100000)(hl:je B e)(hs:3*SizeOf.sizeOf e<N):Gw N mem env e=some (IK mem env e):=by
 unfold Gw IK;rw[Zq N (by omega) e (by omega) (hl.m8 hB),al4];cases hv:(ma e !=0)with
 |true=>rfl
 |false=>
  rw[bne_eq_false_iff_eq]at hv;rw[cond_false,Oj,al4];cases hc:eo e with
  |true=>rfl
  |false=>
   rw[cond_false];unfold PB;obtain⟨g,h1,h2⟩:=(X0 N hN mem env _ e (amg _) (hl.ev hB hv)).v hc N (by omega);rw[h1,al4];cases hr:eY mem env e with
   |error z=>rw[hr]at h2;obtain⟨rfl,hz⟩:=h2;rfl
   |ok x=>rw[hr]at h2;cases h2;rfl
theorem aey(N:Nat)(hN:9223372036854775808<N)(mem:amT aO)(env:amT aV)(e:ay){B:Nat}(hB:B<=100000)(hl:je B e)(hs:3*SizeOf.sizeOf e<N):Jt N mem env e=some (FL mem env e):=by
 unfold Jt FL;rw[Zq N (by omega) e (by omega) (hl.m8 hB),al4];cases hv:(ma e !=0)with
 |true=>rfl
 |false=>
  rw[bne_eq_false_iff_eq]at hv;rw[cond_false,Oj,al4];cases hc:eo e with
  |false=>rfl
  |true=>
   rw[cond_true];unfold O0;obtain⟨g,h1,h2⟩:=(X0 N hN mem env _ e (amg _) (hl.ev hB hv)).h hc N (by omega);rw[h1,al4];cases hr:iq mem env e with
   |error z=>rw[hr]at h2;obtain⟨rfl,hz⟩:=h2;rfl
   |ok x=>rw[hr]at h2;cases h2;rfl
theorem aaF(N:Nat)(mem:amT aO)(env:amT aV)(e:ay)(hN:9223372036854775808<N)(hl:je vy e)(hs:3*SizeOf.sizeOf e<N):Px N mem env e=some true:=by
 unfold Px;obtain⟨b1,f1,f2⟩:=adM N mem;obtain⟨b2,g1,g2⟩:=aki N env 20;obtain⟨b3,k1,k2⟩:=akO N e 300 (by decide) hl (by omega);have k1':E2 N e 300=some b3:=k1;have L:=alr (N:=N) (by omega);rw[f1,g1,k1',L];simp only[al4];cases b1 with
 |false=>rfl
 |true=>
  cases b2 with
  |false=>rfl
  |true=>
   cases b3 with
   |false=>rfl
   |true=>
    simp only[al4,Bool.not_true,cond_true,cond_false];rw[ajv N hN mem (f2 rfl).1 env e (by decide) (k2 rfl) hs,ZF N hN mem env e (by decide) (k2 rfl) hs,agW N hN mem (f2 rfl).1 env e (by decide) (k2 rfl) hs,aey N hN mem env e (by decide) (k2 rfl) hs];simp only[al4,amO,Bool.and_true,Bool.and_self,cond_true]
def qp(k:IntKind)(n:Int):Prop:=k.min<=n/\n<=k.max
theorem DN{n:Int}(h:qp .i64 n):∃m:Int64,n=m.toInt:=by
 refine⟨Int64.ofInt n,?_⟩;have h1:aE n=n:=by
  unfold aE;rw[IntKind.wrap_i64];have h2: -9223372036854775808<=n:=h.1;have h3:n<=9223372036854775807:=h.2;omega
 rw[Int64.toInt_ofInt,<-A1];exact h1.symm
theorem Rc{p:amT D}:∀{l:amT (amT D)},p∈l->SizeOf.sizeOf p<=SizeOf.sizeOf l.flatten
 |[],h=>by cases h
 |q::l,h=>by
  have app:∀a b:amT D,SizeOf.sizeOf a<=SizeOf.sizeOf (a++b)/\SizeOf.sizeOf b<=SizeOf.sizeOf (a++b):=by
   intro a b
   induction a with
   |nil=>cases b<;>simp only[List.nil_append,List.nil.sizeOf_spec,List.cons.sizeOf_spec]<;>omega
   |cons x a ih=>simp only[List.cons_append,List.cons.sizeOf_spec];omega
  rw[List.flatten_cons];rcases amz.1 h with rfl|h
  ·exact(app _ _).1
  ·exact amn (Rc h) (app _ _).2
structure E9(x:aB):Prop where
 h0:True
 h1:True
theorem QL{xs:amT D}(h:fi Tryz.prog 45 xs):∃x:aB,xs=Ak x/\E9 x:=by
 obtain⟨parts,rfl,hl,hx⟩:=h.sw Tryz.underlying45
 match parts,hl with
 |[a0,a1],_=>
 obtain⟨my,rfl,kX⟩:=(hx 0 _ _ rfl rfl).ov Tryz.underlying2;obtain⟨MW,rfl⟩:=DN kX;obtain⟨mT,rfl,la⟩:=(hx 1 _ _ rfl rfl).ov Tryz.underlying2;obtain⟨Eb,rfl⟩:=DN la;exact⟨⟨MW,Eb⟩,rfl,⟨trivial,trivial⟩⟩
structure O3(x:aP):Prop where
 h0:qp .i64 x.bu
 h1:qp .i64 x.bG
 h2:qp .i64 x.ck
 h3:qp .i64 x.cx
 h4:qp .i64 x.cG
theorem Yk{xs:amT D}(h:fi Tryz.prog 34 xs):∃x:aP,xs=Iz x/\O3 x:=by
 obtain⟨parts,rfl,hl,hx⟩:=h.sw Tryz.underlying34
 match parts,hl with
 |[a0,a1,a2,a3,a4],_=>
 obtain⟨my,rfl,kX⟩:=(hx 0 _ _ rfl rfl).ov Tryz.underlying3;obtain⟨mT,rfl,la⟩:=(hx 1 _ _ rfl rfl).ov Tryz.underlying3;obtain⟨vY,rfl,xv⟩:=(hx 2 _ _ rfl rfl).ov Tryz.underlying3;obtain⟨NT,rfl,NG⟩:=(hx 3 _ _ rfl rfl).ov Tryz.underlying3;obtain⟨Of,rfl,Od⟩:=(hx 4 _ _ rfl rfl).ov Tryz.underlying3;exact⟨⟨my,mT,vY,NT,Of⟩,rfl,⟨kX,la,xv,NG,Od⟩⟩
structure JC(x:dP):Prop where
 h0:x.bo.size<=maxLen
 h1:True
theorem adW{xs:amT D}(h:fi Tryz.prog 78 xs):∃x:dP,xs=Fi x/\JC x:=by
 obtain⟨parts,rfl,hl,hx⟩:=h.sw Tryz.underlying78
 match parts,hl with
 |[a0,a1],_=>
 obtain⟨my,rfl,kX⟩:=(hx 0 _ _ rfl rfl).D9 Tryz.underlying9;obtain⟨mT,rfl,la⟩:=(hx 1 _ _ rfl rfl).ov Tryz.underlying2;obtain⟨Eb,rfl⟩:=DN la;exact⟨⟨my,Eb⟩,rfl,⟨kX,trivial⟩⟩
theorem aju{xs:amT D}(h:fi Tryz.prog 46 xs):∃l:amT dP,xs=[.sl (gq l)]/\(l.length<=140737488355328/\∀a∈l,JC a):=by
 obtain⟨l,rfl,hl,hs⟩:=h.tb Tryz.underlying46;obtain⟨r,rfl,hr⟩:=sW (f:=Fi) (Q:=λa=>JC a) l (λx hx=>adW (hs x hx));exact⟨r,by rw[xA],by simpa using hl,hr⟩
structure AR(x:cn):Prop where
 h0:True
 h1:x.xL.length<=140737488355328/\∀a∈x.xL,JC a
theorem Mz{xs:amT D}(h:fi Tryz.prog 48 xs):∃x:cn,xs=DD x/\AR x:=by
 obtain⟨parts,rfl,hl,hx⟩:=h.sw Tryz.underlying48
 match parts,hl with
 |[a0,a1],_=>
 obtain⟨my,rfl,kX⟩:=(hx 0 _ _ rfl rfl).ov Tryz.underlying2;obtain⟨MW,rfl⟩:=DN kX;obtain⟨mT,rfl,la⟩:=aju (hx 1 _ _ rfl rfl);exact⟨⟨MW,mT⟩,rfl,⟨trivial,la⟩⟩
theorem ahg{xs:amT D}(h:fi Tryz.prog 81 xs):∃l:amT cn,xs=[.sl (gg l)]/\(l.length<=140737488355328/\∀a∈l,AR a):=by
 obtain⟨l,rfl,hl,hs⟩:=h.tb Tryz.underlying81;obtain⟨r,rfl,hr⟩:=sW (f:=DD) (Q:=λa=>AR a) l (λx hx=>Mz (hs x hx));exact⟨r,by rw[vt],by simpa using hl,hr⟩
structure Ju(x:cY):Prop where
 h0:AR x.cm
 h1:x.dA.size<=maxLen
 h2:x.cO.length<=140737488355328/\∀a∈x.cO,AR a
theorem aip{xs:amT D}(h:fi Tryz.prog 83 xs):∃x:cY,xs=EH x/\Ju x:=by
 obtain⟨parts,rfl,hl,hx⟩:=h.sw Tryz.underlying83
 match parts,hl with
 |[a0,a1,a2],_=>
 obtain⟨my,rfl,kX⟩:=Mz (hx 0 _ _ rfl rfl);obtain⟨mT,rfl,la⟩:=(hx 1 _ _ rfl rfl).D9 Tryz.underlying9;obtain⟨vY,rfl,xv⟩:=ahg (hx 2 _ _ rfl rfl);exact⟨⟨my,mT,vY⟩,rfl,⟨kX,la,xv⟩⟩
theorem aj7{xs:amT D}(h:fi Tryz.prog 49 xs):∃l:amT cY,xs=[.sl (eB l)]/\(l.length<=140737488355328/\∀a∈l,Ju a):=by
 obtain⟨l,rfl,hl,hs⟩:=h.tb Tryz.underlying49;obtain⟨r,rfl,hr⟩:=sW (f:=EH) (Q:=λa=>Ju a) l (λx hx=>aip (hs x hx));exact⟨r,by rw[vn],by simpa using hl,hr⟩
inductive vL:ay->Prop
 |mk (x:ay) (h0:qp .i64 x.aC) (h1:x.bo.size<=maxLen) (h2:E9 x.dR) (h3:O3 x.aK) (h4:AR x.cm) (h5:x.xIdx.length<=140737488355328/\∀a∈x.xIdx,Ju a) (h6:x.bD.length<=140737488355328) (g6:∀a∈x.bD,vL a):vL x
theorem VK:∀(n:Nat)(xs:amT D),SizeOf.sizeOf xs<n->fi Tryz.prog 52 xs->∃x:ay,xs=eH x/\vL x
 |0,_,h,_=>absurd h (amx _)
 |n+1,xs,hn,h=>by
  obtain⟨parts,rfl,hl,hx⟩:=h.sw Tryz.underlying52
  match parts,hl with
  |[a0,a1,a2,a3,a4,a5,a6],_=>
  obtain⟨my,rfl,kX⟩:=(hx 0 _ _ rfl rfl).ov Tryz.underlying3;obtain⟨mT,rfl,la⟩:=(hx 1 _ _ rfl rfl).D9 Tryz.underlying9;obtain⟨vY,rfl,xv⟩:=QL (hx 2 _ _ rfl rfl);obtain⟨NT,rfl,NG⟩:=Yk (hx 3 _ _ rfl rfl);obtain⟨Of,rfl,Od⟩:=Mz (hx 4 _ _ rfl rfl);obtain⟨ac0,rfl,aeT⟩:=aj7 (hx 5 _ _ rfl rfl);obtain⟨l_,rfl,adC,hs_⟩:=(hx 6 _ _ rfl rfl).tb Tryz.underlying50;obtain⟨r_,rfl,hr_⟩:=sW (f:=eH) (Q:=vL) l_ (λx hx=>VK n x (by have h1:=List.sizeOf_lt_of_mem hx;have h2:SizeOf.sizeOf [D.sl l_]<n+1:=Nat.lt_of_le_of_lt (Rc (by simp)) hn;simp only[List.cons.sizeOf_spec,D.sl.sizeOf_spec,List.nil.sizeOf_spec]at h2;omega) (hs_ x hx));refine⟨⟨my,mT,vY,NT,Of,ac0,r_⟩,?_, .mk _ kX la xv NG Od aeT (by simpa using adC) hr_⟩;show _=eH _;unfold eH;rw[pC];rfl
theorem ac2{xs:amT D}(h:fi Tryz.prog 52 xs):∃x:ay,xs=eH x/\vL x:=VK _ xs (amR _) h
structure Jg(x:aV):Prop where
 h0:x.bo.size<=maxLen
 h1:True
theorem alJ{xs:amT D}(h:fi Tryz.prog 75 xs):∃x:aV,xs=Df x/\Jg x:=by
 obtain⟨parts,rfl,hl,hx⟩:=h.sw Tryz.underlying75
 match parts,hl with
 |[a0,a1],_=>
 obtain⟨my,rfl,kX⟩:=(hx 0 _ _ rfl rfl).D9 Tryz.underlying9;obtain⟨mT,rfl,la⟩:=(hx 1 _ _ rfl rfl).ov Tryz.underlying2;obtain⟨Eb,rfl⟩:=DN la;exact⟨⟨my,Eb⟩,rfl,⟨kX,trivial⟩⟩
theorem ZT{xs:amT D}(h:fi Tryz.prog 28 xs):∃l:amT aV,xs=[.sl (aS l)]/\(l.length<=140737488355328/\∀a∈l,Jg a):=by
 obtain⟨l,rfl,hl,hs⟩:=h.tb Tryz.underlying28;obtain⟨r,rfl,hr⟩:=sW (f:=Df) (Q:=λa=>Jg a) l (λx hx=>alJ (hs x hx));exact⟨r,by rw[xH],by simpa using hl,hr⟩
theorem ajI{xs:amT D}(h:fi Tryz.prog 35 xs):∃l:amT Int,xs=[.sl (bA l)]/\(l.length<=140737488355328/\∀a∈l,qp .i64 a):=by
 obtain⟨l,rfl,hl,hs⟩:=h.tb Tryz.underlying35;obtain⟨r,rfl,hr⟩:=sW (f:=eE) (Q:=λa=>qp .i64 a) l (λx hx=>by
  obtain⟨n_x,rfl,w_x⟩:=(hs x hx).ov Tryz.underlying3;exact⟨n_x,rfl,w_x⟩)
 exact⟨r,by rw[nB],by simpa using hl,hr⟩
theorem aak{xs:amT D}(h:fi Tryz.prog 36 xs):∃l:amT aB,xs=[.sl (dO l)]/\(l.length<=140737488355328/\∀a∈l,E9 a):=by
 obtain⟨l,rfl,hl,hs⟩:=h.tb Tryz.underlying36;obtain⟨r,rfl,hr⟩:=sW (f:=Ak) (Q:=λa=>E9 a) l (λx hx=>QL (hs x hx));exact⟨r,by rw[rP],by simpa using hl,hr⟩
structure T2(x:aU):Prop where
 h0:O3 x.aK
 h1:x.bS.length<=140737488355328/\∀a∈x.bS,qp .i64 a
 h2:x.dI.length<=140737488355328/\∀a∈x.dI,E9 a
theorem abQ{xs:amT D}(h:fi Tryz.prog 38 xs):∃x:aU,xs=bQ x/\T2 x:=by
 obtain⟨parts,rfl,hl,hx⟩:=h.sw Tryz.underlying38
 match parts,hl with
 |[a0,a1,a2],_=>
 obtain⟨my,rfl,kX⟩:=Yk (hx 0 _ _ rfl rfl);obtain⟨mT,rfl,la⟩:=ajI (hx 1 _ _ rfl rfl);obtain⟨vY,rfl,xv⟩:=aak (hx 2 _ _ rfl rfl);exact⟨⟨my,mT,vY⟩,rfl,⟨kX,la,xv⟩⟩
structure Ix(x:aO):Prop where
 h0:x.bo.size<=maxLen
 h1:T2 x.gM
theorem aah{xs:amT D}(h:fi Tryz.prog 56 xs):∃x:aO,xs=Ew x/\Ix x:=by
 obtain⟨parts,rfl,hl,hx⟩:=h.sw Tryz.underlying56
 match parts,hl with
 |[a0,a1],_=>
 obtain⟨my,rfl,kX⟩:=(hx 0 _ _ rfl rfl).D9 Tryz.underlying9;obtain⟨mT,rfl,la⟩:=abQ (hx 1 _ _ rfl rfl);exact⟨⟨my,mT⟩,rfl,⟨kX,la⟩⟩
theorem af8{xs:amT D}(h:fi Tryz.prog 29 xs):∃l:amT aO,xs=[.sl (aX l)]/\(l.length<=140737488355328/\∀a∈l,Ix a):=by
 obtain⟨l,rfl,hl,hs⟩:=h.tb Tryz.underlying29;obtain⟨r,rfl,hr⟩:=sW (f:=Ew) (Q:=λa=>Ix a) l (λx hx=>aah (hs x hx));exact⟨r,by rw[xh],by simpa using hl,hr⟩
def ad1:amT TypeId:=[2,3,4,9,22,23,24,25,27,28,29,34,35,36,38,43,45,46,48,49,50,52,54,56,75,78,80,81,83,85,88]
theorem Mh:Nv Tryz.prog ad1=true:=by kernel_rfl
theorem ajD{e:ay}(h:vL e):je vy e:=by
 induction h with
 |mk x h0 h1 h2 h3 h4 h5 h6 g6 ih=>
  intro y hy;rcases amz.1 hy with rfl|hy
  ·exact⟨h4.h1.1,h5.1,λz hz=>⟨(h5.2 z hz).h0.h1.1,(h5.2 z hz).h2.1,λl hl=>((h5.2 z hz).h2.2 l hl).h1.1⟩,h6⟩
  ·obtain⟨a,ha,hy⟩:=LU hy;exact ih a ha y hy
theorem agN(m:amT aO)(b:amT aV)(e:ay)(_:m.length<=140737488355328/\∀a∈m,Ix a)(_:b.length<=140737488355328/\∀a∈b,Jg a)(h:vL e):ga Tryz.prog 6 [.d (.sl (aX m)), .d (.sl (aS b)),aD e] (·= .d (.v (.bool true))):=
 aat true (aaF (9223372036854775900+3*SizeOf.sizeOf e) m b e (by omega) (ajD h) (by omega))
end Go.Proofs.YtnnapanbbbcalaaGreatDoor
