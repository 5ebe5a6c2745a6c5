/-
  Part 13 of the proof: InVal2, InLin, InLin2, InLin3, EvA, EvB, EvC, SmV, SmVR, SmVF, EvD, InVal3, InVal4, EvE, EvF, EvG, EvH, Wts, EvI, EvJ, EvK, EvL.
-/
import Derived.Test.YtpeecnpmcbnahaaGreatDoorPr12
import Derived.Laws.Bits64
namespace Go.Proofs.YtpeecnpmcbnahaaGreatDoor
open Go.RowKit
set_option linter.unusedSimpArgs false
set_option linter.unusedVariables false
def lQ(B:Nat)(l:bj):Prop:=l.xL.length<=B
theorem lQ.ok{l:bj}(h:lQ 1000000000 l):jR l:=anw h (by decide)
theorem fJ{n k:Nat}(h:n<=k):Nat.ble n k=true:=Nat.ble_eq_true_of_le h
theorem Zq(N:Nat):∀(l:an3 dh)(k:Nat)(acc:an3 an4),acc.length+l.length<=1000000000->D8 N l k acc=some (acc++l.map (·.au))
 |[],_,acc,_=>by rw[D8,List.map_nil,anA]
 |a::l,k,acc,h=>by
  simp only[anh]at h;rw[D8,fJ (by omega),cond_true];dsimp only;rw[Zq N l (k+1) _ (by simp only[anf,anh,anq];omega)];rw[anE,anv];rfl
theorem aeE(N:Nat)(d:bx)(h:d.aU.length+d.bV.length<1000000000):Kn N d=some ((d.aU++d.bV).map (·.au)):=by
 unfold Kn;rw[aa8 N _ _ h,anc,Zq N _ _ _ (by simp only[anf,anq];omega),List.nil_append]
theorem aaX(N:Nat):∀(l:an3 dh)(k:Nat)(acc:an3 an4),acc.length+l.length<=1000000000->FC N l k acc=some (acc++l.map (·.au))
 |[],_,acc,_=>by rw[FC,List.map_nil,anA]
 |a::l,k,acc,h=>by
  simp only[anh]at h;rw[FC,fJ (by omega),cond_true];dsimp only;rw[aaX N l (k+1) _ (by simp only[anf,anh,anq];omega)];rw[anE,anv];rfl
theorem Wa(N:Nat)(d:bx):∀(l:an3 dh)(k:Nat)(acc:an3 an4),acc.length+l.length+d.bV.length<=1000000000->E5 N d l k acc=some (acc++(l++d.bV).map (·.au))
 |[],_,acc,h=>by rw[E5,aaX N _ _ _ (by simp only[anq]at h;omega),List.nil_append]
 |a::l,k,acc,h=>by
  simp only[anh]at h;rw[E5,fJ (by omega),cond_true];dsimp only;rw[Wa N d l (k+1) _ (by simp only[anf,anh,anq];omega)];rw[List.cons_append,anE,anv];rfl
theorem SN(N:Nat)(d:bx)(h:d.aU.length+d.bV.length<1000000000):Rj N d=some ((d.aU++d.bV).map (·.au)):=by
 unfold Rj;rw[Wa N d _ _ _ (by simp only[anq];omega),List.nil_append]
theorem Xu(N:Nat)(l:bj)(h:lQ 1000000000 l):CM N l=some l:=by
 unfold CM NN;rw[fJ (by have:=h;unfold lQ at this;omega)];rfl
theorem UO(N:Nat):∀(l:an3 bj)(k:Nat)(acc:an3 bj),acc.length+l.length<=1000000000->(∀x∈l,lQ 1000000000 x)->CX N l k acc=some (acc++l)
 |[],_,acc,_,_=>by rw[CX,anA]
 |a::l,k,acc,h,hx=>by
  simp only[anh]at h;rw[CX,Xu N a (hx a ank),anc,fJ (by omega),cond_true];dsimp only;rw[UO N l (k+1) _ (by simp only[anf,anh,anq];omega) λy hy=>hx y (ann _ hy)];rw[anv];rfl
theorem amC(N:Nat)(l:an3 bj)(h:l.length<=1000000000)(hx:∀x∈l,lQ 1000000000 x):Jk N l=some l:=by
 unfold Jk;rw[UO N l 0 [] (by simp only[anq];omega) hx,List.nil_append]
def lg(s:an4)(d:bx):Bool:=bL d.au==bL s
def Ao(D:an3 bx)(s:an4)(k:Nat):Int:=match D.findIdx? (lg s)with|some i=>((k+i:Nat):Int)|none=> -1
theorem aml(d:bx)(D:an3 bx)(s:an4)(k:Nat):Ao (d::D) s k=bif lg s d then(k:Int)else Ao D s (k+1):=by
 unfold Ao;rw[List.findIdx?_cons];cases lg s d with
 |true=>rfl
 |false=>
  cases D.findIdx? (lg s)with
  |none=>rfl
  |some i=>simp only[cond_false,Bool.false_eq_true,if_false,Option.map_some];rw[Nat.add_assoc,Nat.add_comm 1 i]
theorem Ty(N:Nat)(s:an4):∀(l:an3 bx)(k:Nat),Hq N s l k=some (Ao l s k)
 |[],_=>rfl
 |d::l,k=>by
  rw[Hq,aml,show RA N d s=some (lg s d)from rfl,anc,Ty N s l];cases lg s d<;>rfl
theorem af5(N:Nat)(p:aV)(s:an4):KG N p s=some (Ao p.aN s 0):=by
 unfold KG OO;rw[Ty];rfl
theorem UB{α:Type}(f:α->Bool):∀l:an3 α,(l.findIdx? f=none/\l.find? f=none)\/∃i d,l.findIdx? f=some i/\l[i]?=some d/\l.find? f=some d/\f d=true
 |[]=> .inl ⟨rfl,rfl⟩
 |x::l=>by
  rw[List.findIdx?_cons,List.find?_cons];cases e:f x with
  |true=>exact .inr ⟨0,x,rfl,rfl,rfl,e⟩
  |false=>
   simp only[Bool.false_eq_true,if_false];rcases UB f l with⟨J,h2⟩|⟨i,d,J,h2,h3,h4⟩
   ·exact .inl ⟨by rw[J];rfl,h2⟩
   ·exact .inr ⟨i+1,d,by rw[J];rfl,by rw[anQ];exact h2,h3,h4⟩
def dI(P:an3 eH)(D:an3 bx)(s:an4):aF×an3 bj×Bool:=
 match P.find? (λx=>bL x.au==bL s)with
 |some x=>(x.aB,x.aU,true)
 |none=>match D.find? (lg s)with
  |some d=>(d.aB,d.aU.map (·.dH),true)
  |none=>(dG,[],false)
theorem aaH(N:Nat)(d:bx):∀(l:an3 dh)(k:Nat)(acc:an3 bj),acc.length+l.length<=1000000000->(∀x∈l,lQ 1000000000 x.dH)->CI N d l k acc=some (d.aB,acc++l.map (·.dH),true)
 |[],_,acc,_,_=>by rw[CI,List.map_nil,anA]
 |a::l,k,acc,h,hx=>by
  simp only[anh]at h;rw[CI,Xu N _ (hx a ank),anc,fJ (by omega),cond_true];dsimp only;rw[aaH N d l (k+1) _ (by simp only[anf,anh,anq];omega) λy hy=>hx y (ann _ hy)];rw[anE,anv];rfl
theorem WN(N:Nat)(d:bx):∀(l:an3 dh)(k:Nat)(acc:an3 bj),acc.length+l.length<=1000000000->C8 N d l k acc=some (d.aB,acc++l.map (·.dH),true)
 |[],_,acc,_=>by rw[C8,List.map_nil,anA]
 |a::l,k,acc,h=>by
  simp only[anh]at h;rw[C8,fJ (by omega),cond_true];dsimp only;rw[WN N d l (k+1) _ (by simp only[anf,anh,anq];omega)];rw[anE,anv];rfl
structure lT(P:List eH):Prop where
 len:∀x∈P,x.aU.length<=1000000000
 kg:∀x∈P,∀y∈x.aU,lQ 1000000000 y
structure gO(D:List bx):Prop where
 len:∀d∈D,d.aU.length+d.bV.length<900000000
 kg:∀d∈D,∀y∈d.aU++d.bV,lQ 1000000000 y.dH
theorem gO.I0{D:an3 bx}(h:gO D){d:bx}(hd:d∈D):∀y∈d.aU,lQ 1000000000 y.dH:=λy hy=>h.kg d hd y (List.mem_append_left _ hy)
theorem HR{α:Type}{l:an3 α}{i:Nat}{d:α}(h:l[i]?=some d):d∈l:=anr h
theorem Sm(N:Nat)(p:aV)(s:an4)(hD:gO p.aN):∀(l:an3 eH)(k:Nat),lT l->Ft N p s l k=some (dI l p.aN s)
 |[],k,_=>by
  rw[Ft,af5,anc];unfold dI Ao;rw[List.find?_nil];rcases UB (lg s) p.aN with⟨J,h2⟩|⟨i,d,J,h2,h3,_⟩
  ·rw[J,h2];rfl
  ·rw[J,h3];simp only[anz];rw[show decide ((i:Int)>=0)=true from anW (by omega),anG,h2];simp only[cond_true,anc];rw[aaH N d _ _ _ (by have:=hD.len d (HR h2);simp only[anq];omega) (hD.I0 (HR h2)),List.nil_append]
 |x::l,k,hP=>by
  rw[Ft,Sm N p s hD l (k+1) ⟨λy hy=>hP.len y (ann _ hy),λy hy=>hP.kg y (ann _ hy)⟩];unfold dI;rw[List.find?_cons];cases bL x.au==bL s with
  |true=>simp only[cond_true];rw[amC N _ (hP.len x ank) (hP.kg x ank)];rfl
  |false=>rfl
theorem Nx(N:Nat)(p:aV)(s:an4)(hP:lT p.aW)(hD:gO p.aN):Cv N p s=some (dI p.aW p.aN s):=Sm N p s hD p.aW 0 hP
theorem T2(N:Nat)(s:an4):∀(D:an3 bx)(k:Nat),gO D->Hu N s D k=some (dI [] D s)
 |[],_,_=>rfl
 |d::D,k,h=>by
  rw[Hu,T2 N s D (k+1) ⟨λy hy=>h.len y (ann _ hy),λy hy=>h.kg y (ann _ hy)⟩];unfold dI;rw[List.find?_nil,List.find?_cons];unfold lg;cases bL d.au==bL s with
  |true=>
   simp only[cond_true];rw[WN N d _ _ _ (by have:=h.len d ank;simp only[anq];omega),List.nil_append]
  |false=>rfl
theorem Xl(N:Nat)(s:an4)(p:aV)(hD:gO p.aN):∀(l:an3 eH)(k:Nat),CJ N s p l k=some (dI l p.aN s)
 |[],k=>by rw[CJ,T2 N s _ _ hD]
 |x::l,k=>by
  rw[CJ,Xl N s p hD l];unfold dI;rw[List.find?_cons];cases bL x.au==bL s<;>rfl
theorem Ch(N:Nat)(p:aV)(s:an4)(hD:gO p.aN):Gb N p s=some (dI p.aW p.aN s):=Xl N s p hD p.aW 0
structure VN(m:List (ByteArray×Int))(V:List ByteArray):Prop where
 val:∀s,(ga m s 0==0)= !cH V s
 len:m.length<=V.length
theorem VN.add{m:an3 (an4×Int)}{V:an3 an4}(h:VN m V)(s:an4)(k:Int)(hk:(k==0)=false):VN ((s,k)::m) (V++[s]):=by
 refine⟨λx=> ?_,by have:=h.len;simp only[anh,anf,anq];omega⟩;rw[Ku,lv,E2];cases e:bL s==bL x with
 |true=>rw[cond_true,hk,Bool.or_true];rfl
 |false=>rw[cond_false,h.val,Bool.or_false]
def nS(V:an3 an4)(l:bj):Int:=bif wm V l then 0 else 9
theorem Tl(N:Nat){m:an3 (an4×Int)}{V:an3 an4}(h:VN m V):∀(l:an3 c8)(k:Nat),G4 N m l k=some (bif l.all (λm=>cH V m.au)then 0 else 9)
 |[],_=>rfl
 |x::l,k=>by
  rw[G4,h.val,anZ,Tl N h l];cases cH V x.au<;>rfl
theorem Pn(N:Nat){m:an3 (an4×Int)}{V:an3 an4}(h:VN m V)(l:bj)(p:aV):ET N l p m=some (nS V l):=Tl N h l.xL 0
def wF(V:an3 an4)(P:an3 eH)(D:an3 bx)(x:cC):Int:=
 bif bL x.cG==[]then nS V x.bq else bif (dI P D x.cG).2.2 then bif (dI P D x.cG).1.bk !=3 then 10 else bif x.cM.length==(dI P D x.cG).2.1.length then fQ (nS V) x.cM else 11 else 9
theorem H6(a b:Nat):((a:Int) !=(b:Int))= !(a==b):=Se a b
theorem SH(N:Nat){m:an3 (an4×Int)}{V:an3 an4}(h:VN m V)(p:aV):∀(l:an3 bj)(k:Nat),FQ N p m l k=some (fQ (nS V) l)
 |[],_=>rfl
 |x::l,k=>by
  rw[FQ,Pn N h,anc,fQ,SH N h p l];cases nS V x !=0<;>rfl
theorem acI(N:Nat){m:an3 (an4×Int)}{V:an3 an4}(h:VN m V)(p:aV)(hP:lT p.aW)(hD:gO p.aN)(x:cC):Hh N x p m=some (wF V p.aW p.aN x):=by
 unfold Hh wF;rw[s8,Pn N h,Nx N p _ hP hD,anc,anc,H6,SH N h p];cases bL x.cG==[]<;>cases (dI p.aW p.aN x.cG).2.2<;>cases (dI p.aW p.aN x.cG).1.bk !=3<;>cases x.cM.length==(dI p.aW p.aN x.cG).2.1.length<;>rfl
def xk(V:an3 an4)(P:an3 eH)(D:an3 bx)(e:ar):Int:=
 bif (dI P D e.au).2.2 then bif e.xIdx.length==(dI P D e.au).2.1.length then fQ (wF V P D) e.xIdx else 11 else 9
def wj(t:aF)(x:Int):aF×Int:=(bif x !=0 then dG else t,x)
theorem ZC(N:Nat){m:an3 (an4×Int)}{V:an3 an4}(h:VN m V)(p:aV)(hP:lT p.aW)(hD:gO p.aN)(q:aF×an3 bj×Bool):∀(l:an3 cC)(k:Nat),Kk N q p m l k=some (wj q.1 (fQ (wF V p.aW p.aN) l))
 |[],_=>rfl
 |x::l,k=>by
  rw[Kk,acI N h p hP hD,anc,fQ,ZC N h p hP hD q l];unfold wj;cases e:wF V p.aW p.aN x !=0 with
  |true=>simp only[cond_true];rw[e];rfl
  |false=>rfl
theorem af7(N:Nat){m:an3 (an4×Int)}{V:an3 an4}(h:VN m V)(p:aV)(hP:lT p.aW)(hD:gO p.aN)(e:ar):Ir N e p m=some (wj (dI p.aW p.aN e.au).1 (xk V p.aW p.aN e)):=by
 unfold Ir xk;rw[Nx N p _ hP hD,anc,H6,ZC N h p hP hD];cases (dI p.aW p.aN e.au).2.2<;>cases e.xIdx.length==(dI p.aW p.aN e.au).2.1.length<;>rfl
theorem Y2(N:Nat)(V:an3 an4)(p:aV):∀(l:an3 bj)(k:Nat),FR N V p l k=some (fQ (nS (V++p.bn)) l)
 |[],_=>rfl
 |x::l,k=>by
  rw[FR,Nk,anc,fQ,Y2 N V p l];unfold nS;cases wm (V++p.bn) x<;>rfl
theorem Qq(N:Nat)(V:an3 an4)(p:aV)(l:an3 bj):NJ N p V l=some (fQ (nS (V++p.bn)) l):=Y2 N V p l 0
theorem YZ(N:Nat)(V:an3 an4)(p:aV)(hD:gO p.aN)(q:aF×an3 bj×Bool):∀(l:an3 cC)(k:Nat),Fi N q V p l k=some (wj q.1 (fQ (wF (V++p.bn) p.aW p.aN) l))
 |[],_=>rfl
 |x::l,k=>by
  rw[Fi,s8,Nk,Ch N p _ hD,anc,anc,H6,Qq,anc,fQ,YZ N V p hD q l];unfold wj wF nS;rw[show(x.cM.length==(dI p.aW p.aN x.cG).2.1.length)=((dI p.aW p.aN x.cG).2.1.length==x.cM.length)from Bool.eq_iff_iff.2 (by rw[beq_iff_eq,beq_iff_eq];exact eq_comm)];cases bL x.cG==[]with
  |true=>cases wm (V++p.bn) x.bq<;>rfl
  |false=>
   cases (dI p.aW p.aN x.cG).2.2 with
   |false=>rfl
   |true=>
    cases (dI p.aW p.aN x.cG).1.bk !=3 with
    |true=>rfl
    |false=>
     cases (dI p.aW p.aN x.cG).2.1.length==x.cM.length with
     |false=>rfl
     |true=>
      simp only[cond_true,cond_false,Bool.not_true];cases e:fQ (λl=>bif wm (V++p.bn) l then 0 else 9) x.cM !=0 with
      |true=>simp only[cond_true];first|rw[e];rfl|simp [e]
      |false=>rfl
theorem ZM(N:Nat)(V:an3 an4)(p:aV)(hD:gO p.aN)(e:ar):LF N p V e=some (wj (dI p.aW p.aN e.au).1 (xk (V++p.bn) p.aW p.aN e)):=by
 unfold LF xk;rw[Ch N p _ hD,anc,H6,YZ N V p hD];rw[show((dI p.aW p.aN e.au).2.1.length==e.xIdx.length)=(e.xIdx.length==(dI p.aW p.aN e.au).2.1.length)from Bool.eq_iff_iff.2 (by rw[beq_iff_eq,beq_iff_eq];exact eq_comm)];cases (dI p.aW p.aN e.au).2.2<;>cases e.xIdx.length==(dI p.aW p.aN e.au).2.1.length<;>rfl
set_option maxRecDepth 100000
theorem Dp(n:Int):(Int64.ofInt n).toInt=IntKind.i64.wrap n:=by
 have h:=kC n;unfold aq bz aP at h;injection h with h;injection h with h;injection h with _ h;exact h.symm
theorem age(a b:Int64):(a+b).toInt=IntKind.i64.wrap (a.toInt+b.toInt):=by
 have h:=HQ a b;unfold aq bz aP at h;injection h with h;injection h with h;injection h with _ h;exact h.symm
theorem aeJ(a b:Int64):(a*b).toInt=IntKind.i64.wrap (a.toInt*b.toInt):=by
 have h:=mi a b;unfold aq bz aP at h;injection h with h;injection h with h;injection h with _ h;exact h.symm
theorem ald(a b:Int64):(a-b).toInt=IntKind.i64.wrap (a.toInt-b.toInt):=by
 have h:=xx a b;unfold aq bz aP at h;injection h with h;injection h with h;injection h with _ h;exact h.symm
theorem me(a:Int64): -9223372036854775808<=a.toInt/\a.toInt<=9223372036854775807:=oU.1 (aaA a)
theorem Oe{a b:Int64}(h:a.toInt=b.toInt):a=b:=Int64.toInt_inj.1 h
theorem OG(x:Int)(h:0<=x/\x<18446744073709551616):IntKind.u64.wrap ((BitVec.ofInt IntKind.u64.bits x&&&BitVec.ofInt IntKind.u64.bits 4294967295).toNat:Int)=x%4294967296:=by
 obtain⟨n,rfl⟩:=Int.eq_ofNat_of_zero_le h.1;have e:(BitVec.ofInt IntKind.u64.bits (n:Int)&&&BitVec.ofInt IntKind.u64.bits 4294967295).toNat=n%4294967296:=by
  show(BitVec.ofInt 64 (n:Int)&&&BitVec.ofInt 64 4294967295).toNat=_;rw[BitVec.toNat_and];have J:(BitVec.ofInt 64 (n:Int)).toNat=n:=by
   rw[BitVec.toNat_ofInt];omega
  have h2:(BitVec.ofInt 64 (4294967295:Int)).toNat=2^32-1:=by decide
  rw[J,h2,Nat.and_two_pow_sub_one_eq_mod]
 rw[e,IntKind.wrap_u64];omega
theorem ajp(x:Int):x.fdiv (2^min (32:Int).toNat IntKind.u64.bits)=x / 4294967296:=by
 show x.fdiv 4294967296=_;rw[Int.fdiv_eq_ediv_of_nonneg _ (by omega)]
theorem alg(a b:Int)(ha:0<=a/\a<18446744073709551616)(hb:0<=b/\b<18446744073709551616):
 let ah:=a / 4294967296
 let al:=a%4294967296
 let bh:=b / 4294967296
 let bl:=b%4294967296
 let W:=IntKind.u64.wrap
 let low:=W (al*bl)
 let wO:=W (W (ah*bl)+low / 4294967296)
 let K3:=W (W (al*bh)+wO%4294967296)
 W (W (W (ah*bh)+wO / 4294967296)+K3 / 4294967296)=a*b / 18446744073709551616:=by
 intro ah al bh bl W low wO K3;have J:0<=ah/\ah<=4294967295:=by omega
 have h2:0<=al/\al<=4294967295:=by omega
 have h3:0<=bh/\bh<=4294967295:=by omega
 have h4:0<=bl/\bl<=4294967295:=by omega
 have pb:∀{x y:Int},(0<=x/\x<=4294967295)->(0<=y/\y<=4294967295)->0<=x*y/\x*y<=18446744065119617025:=λhx hy=>
  ⟨Int.mul_nonneg hx.1 hy.1,Int.le_trans (Int.mul_le_mul hx.2 hy.2 hy.1 (by omega)) (by decide)⟩
 have p1:=pb J h3;have p2:=pb J h4;have p3:=pb h2 h3;have p4:=pb h2 h4;have e:a*b=18446744073709551616*(ah*bh)+4294967296*(ah*bl)+4294967296*(al*bh)+al*bl:=by
  have ea:a=4294967296*ah+al:=by omega
  have eb:b=4294967296*bh+bl:=by omega
  have:∀x y z w:Int,(4294967296*x+y)*(4294967296*z+w)=18446744073709551616*(x*z)+4294967296*(x*w)+4294967296*(y*z)+y*w:=λx y z w=>by
   rw[Int.add_mul,Int.mul_add,Int.mul_add];rw[show 4294967296*x*(4294967296*z)=18446744073709551616*(x*z)from by
     rw[Int.mul_assoc,Int.mul_left_comm x,<-Int.mul_assoc];rfl]
   rw[Int.mul_assoc 4294967296 x w,Int.mul_left_comm y];omega
  rw[<-this,<-ea,<-eb]
 generalize hP:ah*bh=P at*;generalize hQ:ah*bl=Q at*;generalize hR:al*bh=R at*;generalize hT:al*bl=T at*;have w1:low=T:=by show IntKind.u64.wrap _=_;rw[IntKind.wrap_u64];omega
 have w2:wO=Q+T / 4294967296:=by show IntKind.u64.wrap (IntKind.u64.wrap _+low / _)=_;rw[IntKind.wrap_u64,IntKind.wrap_u64,w1];omega
 have w3:K3=R+wO%4294967296:=by show IntKind.u64.wrap (IntKind.u64.wrap _+wO%_)=_;rw[IntKind.wrap_u64,IntKind.wrap_u64];omega
 show IntKind.u64.wrap (IntKind.u64.wrap (IntKind.u64.wrap P+wO / 4294967296)+K3 / 4294967296)=_;rw[IntKind.wrap_u64,IntKind.wrap_u64,IntKind.wrap_u64,e,w3,w2];omega
theorem tz(n:Int):0<=IntKind.u64.wrap n/\IntKind.u64.wrap n<18446744073709551616:=by rw[IntKind.wrap_u64];omega
theorem ab7(N:Nat)(a b:Int)(ha:0<=a/\a<18446744073709551616)(hb:0<=b/\b<18446744073709551616):J4 N a b=some (a*b / 18446744073709551616,a*b%18446744073709551616):=by
 unfold J4;simp only[OG _ ha,OG _ hb,OG _ (tz _),ajp];rw[alg a b ha hb,IntKind.wrap_u64 (a*b)]
theorem Mj(N:Nat)(a:Int64):Bw N a=some (a.toInt.natAbs:Int):=by
 unfold Bw;have:=me a;rw[IntKind.wrap_u64,IntKind.wrap_u64];by_cases h:a.toInt<0
 ·rw[anW h,cond_true];congr 1;omega
 ·rw[anX h,cond_false];congr 1;omega
theorem Tk(a b:Int):(a.natAbs:Int)*b.natAbs=if(decide (a<0)==decide (b<0))=true then a*b else-(a*b):=by
 by_cases J:a<0<;>by_cases h2:b<0
 ·rw[show(a.natAbs:Int)= -a by omega,show(b.natAbs:Int)= -b by omega,Int.neg_mul_neg];simp [J,h2]
 ·rw[show(a.natAbs:Int)= -a by omega,show(b.natAbs:Int)=b by omega,Int.neg_mul];simp [J,h2]
 ·rw[show(a.natAbs:Int)=a by omega,show(b.natAbs:Int)= -b by omega,Int.mul_neg];simp [J,h2]
 ·rw[show(a.natAbs:Int)=a by omega,show(b.natAbs:Int)=b by omega];simp [J,h2]
def lV:an3 aL->an4->an5 Int64
 |[],_=>none
 |b::r,s=>bif bL b.au==bL s then some b.dF else lV r s
def pf(env:an3 aL):an3 c8->Int->an5 Int
 |[],a=>some a
 |m::r,a=>match lV env m.au with
  |none=>none
  |some v=>pf env r (a+m.eF.toInt*v.toInt)
def cW(l:bj)(env:an3 aL):Int64×Int:=bif !iB l then(0,1)else match pf env l.xL l.xK.toInt with
 |none=>(0,9)
 |some s=>bif rB s then(Int64.ofInt s,0)else(0,3)
def wv(w:jL):Int:=w.j6+w.ln*18446744073709551616+w.nF*340282366920938463463374607431768211456
structure U3(w:jL):Prop where
 h0:0<=w.nF
 J:w.nF<18446744073709551616
 m0:0<=w.ln
 m1:w.ln<18446744073709551616
 l0:0<=w.j6
 l1:w.j6<18446744073709551616
abbrev kr:Int:=6277101735386680763835789423207666416102355444464034512896
theorem Oo{x:Int}(h0:0<=x)(J:x<18446744073709551616):IntKind.u64.wrap ((BitVec.ofInt (IntKind.bits .u64) (IntKind.max .u64)^^^BitVec.ofInt (IntKind.bits .u64) x).toNat:Int)=18446744073709551615-x:=by
 obtain⟨n,rfl⟩:=Int.eq_ofNat_of_zero_le h0;have e:(BitVec.ofInt (IntKind.bits .u64) (IntKind.max .u64)^^^BitVec.ofInt (IntKind.bits .u64) (n:Int))= ~~~(BitVec.ofNat 64 n):=by
  show(BitVec.ofInt 64 18446744073709551615^^^BitVec.ofInt 64 (n:Int))=_;rw[show BitVec.ofInt 64 18446744073709551615=BitVec.allOnes 64 by decide,BitVec.allOnes_xor,BitVec.ofInt_natCast]
 have e2:(BitVec.ofInt (IntKind.bits .u64) (IntKind.max .u64)^^^BitVec.ofInt (IntKind.bits .u64) (n:Int)).toNat=2^64-1-n%2^64:=by
  have h:=congrArg BitVec.toNat e;have h2:(~~~(BitVec.ofNat 64 n)).toNat=2^64-1-n%2^64:=by rw[BitVec.toNat_not,BitVec.toNat_ofNat]
  exact h.trans h2
 rw[e2,IntKind.wrap_u64];omega
theorem H9(N:Nat)(w:jL)(U:U3 w){top hi lo:Int}(t0:0<=top)(t1:top<18446744073709551616)(a0:0<=hi)(a1:hi<18446744073709551616)(b0:0<=lo)(b1:lo<18446744073709551616):
 ∃r:jL,rP N w hi lo top=some (r.nF,r.ln,r.j6)/\U3 r/\∃k:Int,wv r=wv w+(lo+hi*18446744073709551616+top*340282366920938463463374607431768211456)+k*kr:=by
 obtain⟨h0,J,m0,m1,l0,l1⟩:=U;obtain⟨H,M,L⟩:=w;simp only at h0 J m0 m1 l0 l1;have e1:∃c:Int,(c=0\/c=1)/\rP N ⟨H,M,L⟩ hi lo top=xQ N ⟨H,M,L⟩ hi top lo c/\IntKind.u64.wrap (L+lo)=L+lo-c*18446744073709551616:=by
  unfold rP;simp only;rw[IntKind.wrap_u64];by_cases hc:(L+lo)%18446744073709551616<lo
  ·rw[anW hc];exact⟨1, .inr rfl,rfl,by omega⟩
  ·rw[anX hc];exact⟨0, .inl rfl,rfl,by omega⟩
 obtain⟨c,hc,e1,f1⟩:=e1;have e2:∃d:Int,(d=0\/d=1)/\xQ N ⟨H,M,L⟩ hi top lo c=xP N ⟨H,M,L⟩ hi c top lo d/\IntKind.u64.wrap (M+hi)=M+hi-d*18446744073709551616:=by
  unfold xQ;simp only;rw[IntKind.wrap_u64];by_cases hd:(M+hi)%18446744073709551616<hi
  ·rw[anW hd];exact⟨1, .inr rfl,rfl,by omega⟩
  ·rw[anX hd];exact⟨0, .inl rfl,rfl,by omega⟩
 obtain⟨d,hd,e2,f2⟩:=e2;have hx:=tz (M+hi);rw[f2]at hx;have e3:∃e:Int,(e=0\/e=1)/\xP N ⟨H,M,L⟩ hi c top lo d=Eu N ⟨H,M,L⟩ top hi c lo (d+e)/\IntKind.u64.wrap (IntKind.u64.wrap (M+hi)+c)=M+hi+c-(d+e)*18446744073709551616/\d+e<=1:=by
  unfold xP;simp only;rw[f2,IntKind.wrap_u64 (M+hi-d*18446744073709551616+c),IntKind.wrap_u64 (d+1)];by_cases he:(M+hi-d*18446744073709551616+c)%18446744073709551616<M+hi-d*18446744073709551616
  ·rw[anW he];have:d=0:=by omega
   subst this;exact⟨1, .inr rfl,rfl,by omega,by omega⟩
  ·rw[anX he];exact⟨0, .inl rfl,by rw[Int.add_zero];rfl,by omega,by omega⟩
 obtain⟨e,he,e3,f3,f4⟩:=e3;refine⟨⟨IntKind.u64.wrap (H+IntKind.u64.wrap (top+(d+e))),IntKind.u64.wrap (IntKind.u64.wrap (M+hi)+c),IntKind.u64.wrap (L+lo)⟩,by rw[e1,e2,e3];rfl,?_,?_⟩
 ·refine⟨(tz _).1,(tz _).2,(tz _).1,(tz _).2,(tz _).1,(tz _).2⟩
 ·unfold wv;simp only;rw[f1,f3,IntKind.wrap_u64,IntKind.wrap_u64];refine⟨-((H+(top+(d+e))%18446744073709551616)/ 18446744073709551616+(top+(d+e))/ 18446744073709551616),?_⟩;unfold kr;generalize xt:(top+(d+e))/ 18446744073709551616=q1;generalize CA:(top+(d+e))%18446744073709551616=r1;have g1:top+(d+e)=18446744073709551616*q1+r1:=by omega
  generalize ql:(H+r1)/ 18446744073709551616=q2;generalize DH:(H+r1)%18446744073709551616=r2;have g2:H+r1=18446744073709551616*q2+r2:=by omega
  omega
theorem TP(N:Nat)(w:jL)(U:U3 w){hi lo:Int}(a0:0<=hi)(a1:hi<18446744073709551616)(b0:0<=lo)(b1:lo<18446744073709551616)(neg:Bool):
 ∃r:jL,A8 N hi lo neg w=some (r.nF,r.ln,r.j6)/\U3 r/\∃k:Int,wv r=wv w+(bif neg then-(lo+hi*18446744073709551616)else lo+hi*18446744073709551616)+k*kr:=by
 unfold A8;rw[Oo a0 a1,Oo b0 b1,Oo (Int.le_refl 0) (by decide)];cases neg with
 |false=>
  rw[cond_false,cond_false];obtain⟨r,J,h2,k,h3⟩:=H9 N w U (top:=0) (by decide) (by decide) a0 a1 b0 b1;exact⟨r,J,h2,k,by rw[h3];omega⟩
 |true=>
  rw[cond_true,cond_true];simp only[IntKind.wrap_u64];by_cases z1:lo=0
  ·subst z1;rw[show(((18446744073709551615-0+1:Int)%18446744073709551616)==0)=true by decide,cond_true];by_cases z2:hi=0
   ·subst z2;rw[show(((18446744073709551615-0+1:Int)%18446744073709551616)==0)=true by decide,cond_true];obtain⟨r,J,h2,k,h3⟩:=H9 N w U (top:=(18446744073709551615-0+1)%18446744073709551616) (hi:=(18446744073709551615-0+1)%18446744073709551616) (lo:=(18446744073709551615-0+1)%18446744073709551616) (by decide) (by decide) (by decide) (by decide) (by decide) (by decide);exact⟨r,J,h2,k,by rw[h3];rfl⟩
   ·rw[show(((18446744073709551615-hi+1:Int)%18446744073709551616)==0)=false by rw[beq_eq_false_iff_ne];omega,cond_false];obtain⟨r,J,h2,k,h3⟩:=H9 N w U (top:=18446744073709551615-0) (hi:=(18446744073709551615-hi+1)%18446744073709551616) (lo:=(18446744073709551615-0+1)%18446744073709551616) (by decide) (by decide) (by omega) (by omega) (by decide) (by decide);exact⟨r,J,h2,k+1,by rw[h3];unfold kr;omega⟩
  ·rw[show(((18446744073709551615-lo+1:Int)%18446744073709551616)==0)=false by rw[beq_eq_false_iff_ne];omega,cond_false];obtain⟨r,J,h2,k,h3⟩:=H9 N w U (top:=18446744073709551615-0) (hi:=18446744073709551615-hi) (lo:=(18446744073709551615-lo+1)%18446744073709551616) (by decide) (by decide) (by omega) (by omega) (by omega) (by omega);exact⟨r,J,h2,k+1,by rw[h3];unfold kr;omega⟩
theorem agc{a b:Int}(h:∃k:Int,a=b+k*18446744073709551616):Int64.ofInt a=Int64.ofInt b:=by
 obtain⟨k,rfl⟩:=h;apply Int64.toInt_inj.1;rw[Int64.toInt_ofInt,Int64.toInt_ofInt,Int.bmod_def,Int.bmod_def];have:(b+k*18446744073709551616)%18446744073709551616=b%18446744073709551616:=by omega
 simp only[show((2^64:Nat):Int)=18446744073709551616 by decide];rw[this]
theorem afr(N:Nat)(w:jL)(U:U3 w){s:Int}(b1: -3138550867693340381917894711603833208051177722232017256448<=s)(b2:s<3138550867693340381917894711603833208051177722232017256448)(hs:∃k:Int,wv w=s+k*kr):
 KM N w=some (Int64.ofInt s,rB s):=by
 obtain⟨h0,J,m0,m1,l0,l1⟩:=U;obtain⟨H,M,L⟩:=w;obtain⟨k,hs⟩:=hs;unfold wv kr at hs;simp only at h0 J m0 m1 l0 l1 hs;unfold KM;simp only;have en:(Int64.ofInt L).toInt=if L<9223372036854775808 then L else L-18446744073709551616:=by
  rw[Int64.toInt_ofInt,Int.bmod_def];simp only[show((2^64:Nat):Int)=18446744073709551616 by decide];split<;>split<;>omega
 have ef:((Int64.ofInt L).toInt.fdiv (2^(min ((63:Int)).toNat (IntKind.bits .i64))))=if L<9223372036854775808 then 0 else-1:=by
  rw[show((2:Int)^(min ((63:Int)).toNat (IntKind.bits .i64)))=9223372036854775808 by decide,Int.fdiv_eq_ediv_of_nonneg _ (by decide),en];split<;>omega
 rw[ef];have eg:∀z:Int,(z=0\/z= -1)->IntKind.u64.wrap (Int64.ofInt z).toInt=if z=0 then 0 else 18446744073709551615:=λz hz=>by
   rcases hz with rfl|rfl<;>decide
 rw[eg _ (by split<;>simp)];have e1:Int64.ofInt L=Int64.ofInt s:=agc ⟨k*340282366920938463463374607431768211456-M-H*18446744073709551616,by omega⟩;rw[e1];have e2:(bif (M==(if(if L<9223372036854775808 then(0:Int)else-1)=0 then(0:Int)else 18446744073709551615))then some (H==(if(if L<9223372036854775808 then(0:Int)else-1)=0 then(0:Int)else 18446744073709551615))else some false)=some (rB s):=by
   by_cases hL:L<9223372036854775808
   ·simp only[hL,if_true];by_cases hM:M=0
    ·rw[show(M==0)=true by rw[beq_iff_eq];exact hM,cond_true];by_cases hH:H=0
     ·rw[show(H==0)=true by rw[beq_iff_eq];exact hH];rw[(oU (n:=s)).2 (by subst hM;subst hH;omega)]
     ·rw[show(H==0)=false by rw[beq_eq_false_iff_ne];exact hH]
      congr 1;symm
      rw[<-Bool.not_eq_true,oU];omega
    ·rw[show(M==0)=false by rw[beq_eq_false_iff_ne];exact hM,cond_false]
     congr 1;symm
     rw[<-Bool.not_eq_true,oU];omega
   ·simp only[hL,if_false];rw[if_neg (by decide)];by_cases hM:M=18446744073709551615
    ·rw[show(M==18446744073709551615)=true by rw[beq_iff_eq];exact hM,cond_true];by_cases hH:H=18446744073709551615
     ·rw[show(H==18446744073709551615)=true by rw[beq_iff_eq];exact hH];rw[(oU (n:=s)).2 (by subst hM;subst hH;omega)]
     ·rw[show(H==18446744073709551615)=false by rw[beq_eq_false_iff_ne];exact hH]
      congr 1;symm
      rw[<-Bool.not_eq_true,oU];omega
    ·rw[show(M==18446744073709551615)=false by rw[beq_eq_false_iff_ne];exact hM,cond_false]
     congr 1;symm
     rw[<-Bool.not_eq_true,oU];omega
 rw[e2,anc]
theorem Tz(N:Nat)(m:c8):∀(env:an3 aL)(k:Nat),(lV env m.au=none->AY N m env k=some (-1))/\(∀v,lV env m.au=some v->∃i b,AY N m env k=some ((k+i:Nat):Int)/\env[i]?=some b/\b.dF=v)
 |[],k=>⟨λ_=>rfl,λv h=>by cases h⟩
 |b::r,k=>by
  obtain⟨J,h2⟩:=Tz N m r (k+1);unfold lV AY NZ;simp only[anc];cases hb:(bL b.au==bL m.au)with
  |true=>exact⟨λh=>(by cases h),λv h=>by cases h;exact⟨0,b,rfl,rfl,rfl⟩⟩
  |false=>
   simp only[cond_false];refine⟨J,λv h=> ?_⟩;obtain⟨i,c,q1,q2,q3⟩:=h2 v h;exact⟨i+1,c,by rw[q1];congr 2;omega,q2,q3⟩
def Ax:an5 Int->Int64×Int
 |none=>(0,9)
 |some s=>bif rB s then(Int64.ofInt s,0)else(0,3)
theorem W7(l:bj)(env:an3 aL):cW l env=bif !iB l then(0,1)else Ax (pf env l.xL l.xK.toInt):=by
 unfold cW Ax;cases pf env l.xL l.xK.toInt<;>rfl
theorem ZY(a b:Int64):(a.toInt*b.toInt).natAbs<=85070591730234615865843651857942052864:=by
 have J:=me a;have h2:=me b;rw[Int.natAbs_mul];exact Nat.mul_le_mul (show a.toInt.natAbs<=9223372036854775808 by omega) (show b.toInt.natAbs<=9223372036854775808 by omega)
theorem ZU(N:Nat)(env:an3 aL):∀(l:an3 c8)(k:Nat)(w:jL)(s:Int),U3 w->(∃k:Int,wv w=s+k*kr)->s.natAbs+l.length*85070591730234615865843651857942052864<=1569275433846670190958947355801916604025588861116008628224->
 CZ N env l k w.nF w.ln w.j6=some (Ax (pf env l s))
 |[],k,w,s,U,hk,hb=>by
  unfold CZ pf Ax;rw[show(⟨w.nF,w.ln,w.j6⟩:jL)=w from rfl];simp only[anq,Nat.zero_mul,Nat.add_zero]at hb;rw[afr N w U (by omega) (by omega) hk,anc];simp only;cases rB s<;>rfl
 |m::r,k,w,s,U,hk,hb=>by
  unfold CZ pf;simp only;rw[show Qe N env m=AY N m env 0 from rfl];obtain⟨J,h2⟩:=Tz N m env 0;cases hf:lV env m.au with
  |none=>rw[J hf];rfl
  |some v=>
   obtain⟨i,b,q1,q2,q3⟩:=h2 v hf;rw[q1,anc,anz,anX (by omega),cond_false,anW (by omega),cond_true,anG,q2,anc,Mj,anc,Mj,anc];have ha:=me m.eF;have hv:=me b.dF;rw[ab7 N _ _ (by omega) (by omega),anc];subst q3;have hu:=ZY m.eF b.dF;have hm:=Tk m.eF.toInt b.dF.toInt;have h0:0<=(m.eF.toInt.natAbs:Int)*b.dF.toInt.natAbs:=Int.mul_nonneg (by omega) (by omega);have hp:(m.eF.toInt.natAbs:Int)*b.dF.toInt.natAbs<=85070591730234615865843651857942052864:=by
    rw[<-Int.natCast_mul,<-Int.natAbs_mul];omega
   generalize (m.eF.toInt.natAbs:Int)*b.dF.toInt.natAbs=p at*;obtain⟨w',e1,U',k',e2⟩:=TP N w U (hi:=p / 18446744073709551616) (lo:=p%18446744073709551616) (by omega) (by omega) (by omega) (by omega) (!((decide (m.eF.toInt<0))==(decide (b.dF.toInt<0))));rw[show(⟨w.nF,w.ln,w.j6⟩:jL)=w from rfl,e1,anc];simp only;have hpp:p%18446744073709551616+p / 18446744073709551616*18446744073709551616=p:=by omega
   rw[hpp]at e2;have e3:(bif (!((decide (m.eF.toInt<0))==(decide (b.dF.toInt<0))))then-p else p)=m.eF.toInt*b.dF.toInt:=by
     rw[hm];cases (decide (m.eF.toInt<0)==decide (b.dF.toInt<0))with
     |true=>simp
     |false=>simp
   rw[e3]at e2;obtain⟨k0,hk⟩:=hk;refine ZU N env r (k+1) w' (s+m.eF.toInt*b.dF.toInt) U' ⟨k0+k',by rw[e2,hk];unfold kr;omega⟩ ?_;rw[anh]at hb;have:(s+m.eF.toInt*b.dF.toInt).natAbs<=s.natAbs+(m.eF.toInt*b.dF.toInt).natAbs:=Int.natAbs_add_le _ _;omega
theorem Fa(N:Nat)(hN:2147483648<N)(l:bj)(env:an3 aL)(hl:l.xL.length<=4611686018427387904):tO N l env=some (cW l env):=by
 unfold tO;rw[W7,Hv N (by omega) l (anw hl (by decide)),anc];cases hb:iB l with
 |false=>rfl
 |true=>
  simp only[Bool.not_true,cond_false];rw[cond_true,show((0:Int) !=0)=false from rfl,cond_false,Mj,anc];have hK:=me l.xK;obtain⟨w',e1,U',k',e2⟩:=TP N aaJ ⟨by decide,by decide,by decide,by decide,by decide,by decide⟩ (hi:=0) (lo:=(l.xK.toInt.natAbs:Int)) (by decide) (by decide) (by omega) (by omega) (decide (l.xK.toInt<0));rw[e1,anc];refine ZU N env l.xL 0 w' l.xK.toInt U' ⟨k',?_⟩ (by omega);rw[e2];by_cases h:l.xK.toInt<0
  ·rw[anW h,cond_true];show(0:Int)+0*_+0*_+_+_=_;omega
  ·rw[anX h,cond_false];show(0:Int)+0*_+0*_+_+_=_;omega
def dv(w:dw):Int:=w.fx+w.fM*4294967296+w.gi*18446744073709551616+w.gj*79228162514264337593543950336+w.gn*340282366920938463463374607431768211456+w.gp*1461501637330902918203684832716283019655932542976
structure D6(w:dw):Prop where
 a0:0<=w.fx
 b0:w.fx<4294967296
 a1:0<=w.fM
 b1:w.fM<4294967296
 a2:0<=w.gi
 b2:w.gi<4294967296
 a3:0<=w.gj
 b3:w.gj<4294967296
 a4:0<=w.gn
 b4:w.gn<4294967296
 a5:0<=w.gp
 b5:w.gp<4294967296
theorem mI{d n c:Int}(hd0:0<=d)(hd:d<4294967296)(mu:0<=n)(hn:n<18446744073709551616)(xh:0<=c)(hc:c<=1):∃s c' n' e:Int,IntKind.u64.wrap (IntKind.u64.wrap (d+n.tmod 4294967296)+c)=s/\IntKind.u64.wrap (s.tdiv 4294967296)=c'/\IntKind.u64.wrap (n.tdiv 4294967296)=n'/\s.tmod 4294967296=e/\
 0<=c'/\c'<=1/\0<=e/\e<4294967296/\0<=n'/\n'*4294967296<=n/\e+4294967296*(c'+n')=d+n+c:=by
 have t1:n.tmod 4294967296=n%4294967296:=Int.tmod_eq_emod_of_nonneg mu;have t2:n.tdiv 4294967296=n / 4294967296:=Int.tdiv_eq_ediv_of_nonneg mu;have hs:IntKind.u64.wrap (IntKind.u64.wrap (d+n.tmod 4294967296)+c)=d+n%4294967296+c:=by
  rw[t1,IntKind.wrap_u64,IntKind.wrap_u64];omega
 have ri:0<=d+n%4294967296+c:=by omega
 refine⟨d+n%4294967296+c,(d+n%4294967296+c)/ 4294967296,n / 4294967296,(d+n%4294967296+c)%4294967296,hs,?_,?_,Int.tmod_eq_emod_of_nonneg ri,?_⟩
 ·rw[Int.tdiv_eq_ediv_of_nonneg ri,IntKind.wrap_u64];omega
 ·rw[t2,IntKind.wrap_u64];omega
 ·refine⟨?_,?_,?_,?_,?_,?_,?_⟩<;>omega
theorem ajY(N:Nat)(w:dw)(W:D6 w){n:Int}(mu:0<=n)(hn:n<18446744073709551616)(hb:dv w+n<kr):∃r,QC N w n=some r/\D6 r/\dv r=dv w+n:=by
 obtain⟨s0,c0,n0,e0,p1,p2,p3,p4,p5,p6,p7,p8,p9,p10,p11⟩:=mI W.a0 W.b0 mu hn (c:=0) (by decide) (by decide);obtain⟨s1,c1,n1,e1,q1,q2,q3,q4,q5,q6,q7,q8,q9,q10,q11⟩:=mI W.a1 W.b1 p9 (by omega) p5 p6;obtain⟨s2,c2,n2,e2,r1,r2,r3,r4,r5,r6,r7,r8,r9,V6,TY⟩:=mI W.a2 W.b2 q9 (by omega) q5 q6;obtain⟨s3,c3,n3,e3,t1,t2,t3,t4,t5,t6,t7,t8,t9,t10,t11⟩:=mI W.a3 W.b3 r9 (by omega) r5 r6;obtain⟨s4,c4,n4,e4,u1,u2,u3,u4,u5,u6,u7,u8,u9,YM,Yj⟩:=mI W.a4 W.b4 t9 (by omega) t5 t6;obtain⟨s5,c5,n5,e5,v1,v2,v3,v4,v5,v6,v7,v8,v9,v10,v11⟩:=mI W.a5 W.b5 u9 (by omega) u5 u6;refine⟨⟨e0,e1,e2,e3,e4,e5⟩,?_,⟨p7,p8,q7,q8,r7,r8,t7,t8,u7,u8,v7,v8⟩,?_⟩
 ·unfold QC;simp only[anc];simp only[p1,p2,p3,p4,q1,q2,q3,q4,r1,r2,r3,r4,t1,t2,t3,t4,u1,u2,u3,u4,v1,v2,v3,v4]
 ·unfold dv at hb ⊢;unfold kr at hb;simp only;have:c5+n5=0:=by omega
  omega
theorem TX(N:Nat)(w:dw)(W:D6 w){n:Int}(mu:0<=n)(hn:n<18446744073709551616)(hb:dv w+n*4294967296<kr):∃r,KW N w n=some r/\D6 r/\dv r=dv w+n*4294967296:=by
 obtain⟨s1,c1,n1,e1,q1,q2,q3,q4,q5,q6,q7,q8,q9,q10,q11⟩:=mI W.a1 W.b1 mu hn (c:=0) (by decide) (by decide);obtain⟨s2,c2,n2,e2,r1,r2,r3,r4,r5,r6,r7,r8,r9,V6,TY⟩:=mI W.a2 W.b2 q9 (by omega) q5 q6;obtain⟨s3,c3,n3,e3,t1,t2,t3,t4,t5,t6,t7,t8,t9,t10,t11⟩:=mI W.a3 W.b3 r9 (by omega) r5 r6;obtain⟨s4,c4,n4,e4,u1,u2,u3,u4,u5,u6,u7,u8,u9,YM,Yj⟩:=mI W.a4 W.b4 t9 (by omega) t5 t6;obtain⟨s5,c5,n5,e5,v1,v2,v3,v4,v5,v6,v7,v8,v9,v10,v11⟩:=mI W.a5 W.b5 u9 (by omega) u5 u6;refine⟨⟨w.fx,e1,e2,e3,e4,e5⟩,?_,⟨W.a0,W.b0,q7,q8,r7,r8,t7,t8,u7,u8,v7,v8⟩,?_⟩
 ·unfold KW;simp only[anc];simp only[q1,q2,q3,q4,r1,r2,r3,r4,t1,t2,t3,t4,u1,u2,u3,u4,v1,v2,v3,v4]
 ·have:=W.a0;unfold dv at hb ⊢;unfold kr at hb;simp only;have:c5+n5=0:=by omega
  omega
theorem ai9(N:Nat)(w:dw)(W:D6 w){n:Int}(mu:0<=n)(hn:n<18446744073709551616)(hb:dv w+n*18446744073709551616<kr):∃r,Ph N w n=some r/\D6 r/\dv r=dv w+n*18446744073709551616:=by
 obtain⟨s2,c2,n2,e2,r1,r2,r3,r4,r5,r6,r7,r8,r9,V6,TY⟩:=mI W.a2 W.b2 mu hn (c:=0) (by decide) (by decide);obtain⟨s3,c3,n3,e3,t1,t2,t3,t4,t5,t6,t7,t8,t9,t10,t11⟩:=mI W.a3 W.b3 r9 (by omega) r5 r6;obtain⟨s4,c4,n4,e4,u1,u2,u3,u4,u5,u6,u7,u8,u9,YM,Yj⟩:=mI W.a4 W.b4 t9 (by omega) t5 t6;obtain⟨s5,c5,n5,e5,v1,v2,v3,v4,v5,v6,v7,v8,v9,v10,v11⟩:=mI W.a5 W.b5 u9 (by omega) u5 u6;refine⟨⟨w.fx,w.fM,e2,e3,e4,e5⟩,?_,⟨W.a0,W.b0,W.a1,W.b1,r7,r8,t7,t8,u7,u8,v7,v8⟩,?_⟩
 ·unfold Ph;simp only[anc];simp only[r1,r2,r3,r4,t1,t2,t3,t4,u1,u2,u3,u4,v1,v2,v3,v4]
 ·have:=W.a0;have:=W.a1;unfold dv at hb ⊢;unfold kr at hb;simp only;have:c5+n5=0:=by omega
  omega
theorem L8(N:Nat)(w:dw)(W:D6 w){a b:Int}(GV:0<=a)(ha:a<18446744073709551616)(lG:0<=b)(hb:b<18446744073709551616)(hB:dv w+a*b<kr):∃r,yi N w a b=some r/\D6 r/\dv r=dv w+a*b:=by
 have Vn:a.tmod 4294967296=a%4294967296:=Int.tmod_eq_emod_of_nonneg GV;have S8:IntKind.u64.wrap (a.tdiv 4294967296)=a / 4294967296:=by rw[Int.tdiv_eq_ediv_of_nonneg GV,IntKind.wrap_u64];omega
 have tb1:b.tmod 4294967296=b%4294967296:=Int.tmod_eq_emod_of_nonneg lG;have Wl:IntKind.u64.wrap (b.tdiv 4294967296)=b / 4294967296:=by rw[Int.tdiv_eq_ediv_of_nonneg lG,IntKind.wrap_u64];omega
 have e:a*b=(a%4294967296)*(b%4294967296)+(a%4294967296)*(b / 4294967296)*4294967296+(a / 4294967296)*(b%4294967296)*4294967296+(a / 4294967296)*(b / 4294967296)*18446744073709551616:=by
  have J:a=a%4294967296+4294967296*(a / 4294967296):=by omega
  have h2:b=b%4294967296+4294967296*(b / 4294967296):=by omega
  generalize a%4294967296=x at*;generalize a / 4294967296=y at*;generalize b%4294967296=z at*;generalize b / 4294967296=u at*;subst J;subst h2;rw[Int.add_mul,Int.mul_add,Int.mul_add,show x*(4294967296*u)=x*u*4294967296 by rw[Int.mul_left_comm,Int.mul_comm],show 4294967296*y*z=y*z*4294967296 by rw[Int.mul_assoc,Int.mul_comm],show 4294967296*y*(4294967296*u)=y*u*18446744073709551616 by rw[Int.mul_assoc,Int.mul_left_comm y 4294967296 u];omega];omega
 unfold yi;rw[Vn,S8,tb1,Wl];have bd:∀x y:Int,0<=x->x<4294967296->0<=y->y<4294967296->0<=x*y/\x*y<18446744073709551616:=λx y J h2 h3 h4=>by
  refine⟨Int.mul_nonneg J h3,?_⟩;have:x*y<=4294967295*4294967295:=Int.mul_le_mul (by omega) (by omega) h3 (by decide);omega
 obtain⟨f1,f2⟩:=bd (a%4294967296) (b%4294967296) (by omega) (by omega) (by omega) (by omega);obtain⟨f3,f4⟩:=bd (a%4294967296) (b / 4294967296) (by omega) (by omega) (by omega) (by omega);obtain⟨f5,f6⟩:=bd (a / 4294967296) (b%4294967296) (by omega) (by omega) (by omega) (by omega);obtain⟨f7,f8⟩:=bd (a / 4294967296) (b / 4294967296) (by omega) (by omega) (by omega) (by omega);have wr:∀z:Int,0<=z->z<18446744073709551616->IntKind.u64.wrap z=z:=λz J h2=>by rw[IntKind.wrap_u64];omega
 rw[wr _ f1 f2,wr _ f3 f4,wr _ f5 f6,wr _ f7 f8];generalize (a%4294967296)*(b%4294967296)=P at*;generalize (a%4294967296)*(b / 4294967296)=Q at*;generalize (a / 4294967296)*(b%4294967296)=R at*;generalize (a / 4294967296)*(b / 4294967296)=T at*;rw[e]at hB ⊢;clear e Vn S8 tb1 Wl;obtain⟨w1,x1,W1,y1⟩:=ajY N w W f1 f2 (by omega);rw[x1,anc];obtain⟨w2,x2,W2,y2⟩:=TX N w1 W1 f3 f4 (by omega);rw[x2,anc];obtain⟨w3,x3,W3,y3⟩:=TX N w2 W2 f5 f6 (by omega);rw[x3,anc];obtain⟨w4,x4,W4,y4⟩:=ai9 N w3 W3 f7 f8 (by omega);rw[x4,anc];exact⟨w4,rfl,W4,by omega⟩
theorem akd(N:Nat)(a b:dw)(A:D6 a)(B:D6 b):Po N a b=some (decide (dv a<dv b)):=by
 obtain⟨a0,a1,a2,a3,a4,a5,a6,a7,a8,a9,aa,ab⟩:=A;obtain⟨b0,b1,b2,b3,b4,b5,b6,b7,b8,b9,ba,bb⟩:=B;unfold Po dv;have bt:∀{x y:Int}{p q:an5 Bool},x≠y->(bif (x !=y)then p else q)=p:=λh=>by rw[bne_iff_ne.2 h,cond_true]
 have bf:∀{x y:Int}{p q:an5 Bool},x=y->(bif (x !=y)then p else q)=q:=λh=>by subst h;simp
 by_cases h5:a.gp=b.gp
 ·rw[bf h5];by_cases h4:a.gn=b.gn
  ·rw[bf h4];by_cases h3:a.gj=b.gj
   ·rw[bf h3];by_cases h2:a.gi=b.gi
    ·rw[bf h2];by_cases J:a.fM=b.fM
     ·rw[bf J];by_cases h0:a.fx=b.fx
      ·rw[bf h0];congr 1;symm;exact anX (by omega)
      ·rw[bt h0];congr 1;exact decide_eq_decide.2 (by omega)
     ·rw[bt J];congr 1;exact decide_eq_decide.2 (by omega)
    ·rw[bt h2];congr 1;exact decide_eq_decide.2 (by omega)
   ·rw[bt h3];congr 1;exact decide_eq_decide.2 (by omega)
  ·rw[bt h4];congr 1;exact decide_eq_decide.2 (by omega)
 ·rw[bt h5];congr 1;exact decide_eq_decide.2 (by omega)
theorem Bk{x y c:Int}(ME:0<=x)(hx:x<4294967296)(XD:0<=y)(hy:y<4294967296)(xh:0<=c)(hc:c<=1):∃c' t e:Int,(c'=0\/c'=1)/\(decide (x<IntKind.u64.wrap (y+c))=true->c'=1/\t=IntKind.u64.wrap (x+4294967296))/\(decide (x<IntKind.u64.wrap (y+c))=false->c'=0/\t=x)/\
 IntKind.u64.wrap (t-IntKind.u64.wrap (y+c))=e/\0<=e/\e<4294967296/\e=x-y-c+4294967296*c':=by
 have J:IntKind.u64.wrap (y+c)=y+c:=by rw[IntKind.wrap_u64];omega
 have h2:IntKind.u64.wrap (x+4294967296)=x+4294967296:=by rw[IntKind.wrap_u64];omega
 rw[J,h2];by_cases h:x<y+c
 ·refine⟨1,x+4294967296,x+4294967296-(y+c), .inr rfl,λ_=>⟨rfl,rfl⟩,λhf=> ?_,?_,by omega,by omega,by omega⟩
  ·rw[anW h]at hf;cases hf
  ·rw[IntKind.wrap_u64];omega
 ·refine⟨0,x,x-(y+c), .inl rfl,λhf=> ?_,λ_=>⟨rfl,rfl⟩,?_,by omega,by omega,by omega⟩
  ·rw[anX h]at hf;cases hf
  ·rw[IntKind.wrap_u64];omega
theorem zw{α:Type}{b:Bool}{c' t:Int}{p:Int}{x:Int}{F:Int->Int->α}(J:b=true->c'=1/\t=p)(h2:b=false->c'=0/\t=x):(bif b then F 1 p else F 0 x)=F c' t:=by
 cases b with
 |true=>obtain⟨rfl,rfl⟩:=J rfl;rfl
 |false=>obtain⟨rfl,rfl⟩:=h2 rfl;rfl
theorem aao(N:Nat)(a b:dw)(A:D6 a)(B:D6 b)(h:dv b<=dv a):∃r,JH N a b=some r/\D6 r/\dv r=dv a-dv b:=by
 obtain⟨c0,t0,e0,p1,p2,p3,p4,p5,p6,p7⟩:=Bk A.a0 A.b0 B.a0 B.b0 (c:=0) (by decide) (by decide);obtain⟨c1,t1,e1,q1,q2,q3,q4,q5,q6,q7⟩:=Bk A.a1 A.b1 B.a1 B.b1 (c:=c0) (by omega) (by omega);obtain⟨c2,t2,e2,r1,r2,r3,r4,r5,r6,r7⟩:=Bk A.a2 A.b2 B.a2 B.b2 (c:=c1) (by omega) (by omega);obtain⟨c3,t3,e3,s1,s2,s3,s4,s5,s6,s7⟩:=Bk A.a3 A.b3 B.a3 B.b3 (c:=c2) (by omega) (by omega);obtain⟨c4,t4,e4,u1,u2,u3,u4,u5,u6,u7⟩:=Bk A.a4 A.b4 B.a4 B.b4 (c:=c3) (by omega) (by omega);obtain⟨c5,t5,e5,v1,v2,v3,v4,v5,v6,v7⟩:=Bk A.a5 A.b5 B.a5 B.b5 (c:=c4) (by omega) (by omega);refine⟨⟨e0,e1,e2,e3,e4,e5⟩,?_,⟨p5,p6,q5,q6,r5,r6,s5,s6,u5,u6,v5,v6⟩,?_⟩
 ·unfold JH;rw[zw (F:=λx y=>Jc N a b x y) p2 p3];unfold Jc;rw[zw (F:=λx y=>IM N a b t0 c0 x y) q2 q3];unfold IM;rw[zw (F:=λx y=>Hm N a b t0 t1 c0 c1 x y) r2 r3];unfold Hm;rw[zw (F:=λx y=>H4 N a b t0 t1 c0 t2 c1 c2 x y) s2 s3];unfold H4;rw[zw (F:=λx y=>KA N a b t0 t1 c0 t2 c1 t3 c2 c3 x y) u2 u3];unfold KA;rw[zw (F:=λx y=>IL N t0 b t1 c0 t2 c1 t3 c2 t4 c3 c4 x y) v2 v3];unfold IL;rw[p4,q4,r4,s4,u4,v4]
 ·unfold dv at h ⊢;simp only;obtain⟨z0,z1,z2,z3,z4,z5,z6,z7,z8,z9,za,zb⟩:=A;obtain⟨y0,y1,y2,y3,y4,y5,y6,y7,y8,y9,ya,yb⟩:=B;have:c5=0:=by omega
  omega
theorem ZX(N:Nat)(s:an4):∀(env:an3 aL)(k:Nat),Ds N s env k=some (match lV env s with|none=>(0,false)|some v=>(v,true))
 |[],k=>rfl
 |b::r,k=>by
  unfold Ds lV;cases hb:(bL b.au==bL s)with
  |true=>rfl
  |false=>exact ZX N s r (k+1)
theorem yX(N:Nat)(v:Int64):tP N v=some ((v.toInt.natAbs:Nat):Int):=by
 have J:=me v;unfold tP;by_cases h:v.toInt<0
 ·rw[anW h,cond_true];have e:(-(v+(1:Int64))).toInt= -(v.toInt+1):=by
    rw[Int64.toInt_neg,Int64.toInt_add,show(1:Int64).toInt=1 from rfl];rw[Int.bmod_eq_of_le (n:=v.toInt+1) (m:=2^64) (by omega) (by omega),Int.bmod_eq_of_le (n:= -(v.toInt+1)) (m:=2^64) (by omega) (by omega)]
  rw[e,IntKind.wrap_u64,IntKind.wrap_u64];exact congrArg some (by omega)
 ·rw[anX h,cond_false,IntKind.wrap_u64];exact congrArg some (by omega)
theorem WH(w:dw)(W:D6 w)(lim:Int)(J:0<=lim)(h2:lim<=9223372036854775808):(bif (w.gi !=0)then some true else(bif (w.gj !=0)then some true else(bif (w.gn !=0)then some true else(bif (w.gp !=0)then some true else some (decide ((IntKind.u64.wrap (w.fx+(IntKind.u64.wrap (w.fM*(4294967296:Int)))))>lim))))))=some (decide (dv w>lim)):=by
 obtain⟨a0,a1,a2,a3,a4,a5,a6,a7,a8,a9,aa,ab⟩:=W;have bt:∀{x:Int}{q:an5 Bool},x≠0->(bif (x !=0)then some true else q)=some true:=λh=>by rw[bne_iff_ne.2 h,cond_true]
 have bf:∀{x:Int}{q:an5 Bool},x=0->(bif (x !=0)then some true else q)=q:=λh=>by subst h;rfl
 unfold dv;by_cases k2:w.gi=0
 ·rw[bf k2];by_cases k3:w.gj=0
  ·rw[bf k3];by_cases k4:w.gn=0
   ·rw[bf k4];by_cases k5:w.gp=0
    ·rw[bf k5,IntKind.wrap_u64,IntKind.wrap_u64]
     congr 1
     exact decide_eq_decide.2 (by omega)
    ·rw[bt k5];congr 1;symm;exact anW (by omega)
   ·rw[bt k4];congr 1;symm;exact anW (by omega)
  ·rw[bt k3];congr 1;symm;exact anW (by omega)
 ·rw[bt k2];congr 1;symm;exact anW (by omega)
theorem VT(w:dw)(W:D6 w)(h:dv w<=9223372036854775808):IntKind.u64.wrap (w.fx+(IntKind.u64.wrap (w.fM*(4294967296:Int))))=dv w:=by
 obtain⟨a0,a1,a2,a3,a4,a5,a6,a7,a8,a9,aa,ab⟩:=W;unfold dv at h ⊢;rw[IntKind.wrap_u64,IntKind.wrap_u64];omega
theorem agr{n:Int}(h0:1<=n)(J:n<=9223372036854775808):((-(Int64.ofInt (IntKind.u64.wrap (n-(1:Int)))))-(1:Int64))=Int64.ofInt (-n):=by
 rw[show IntKind.u64.wrap (n-1)=n-1 by rw[IntKind.wrap_u64];omega];apply Int64.toInt_inj.1;rw[Int64.toInt_sub,Int64.toInt_neg,show(1:Int64).toInt=1 from rfl,Int64.toInt_ofInt_of_le (by omega) (by omega),Int64.toInt_ofInt_of_le (by omega) (by omega)];rw[Int.bmod_eq_of_le (n:= -(n-1)) (m:=2^64) (by omega) (by omega),Int.bmod_eq_of_le (n:= -(n-1)-1) (m:=2^64) (by omega) (by omega)];omega
theorem FM(N:Nat)(env:an3 aL):∀(l:an3 c8)(k:Nat)(p q:dw)(s:Int),D6 p->D6 q->dv p-dv q=s->dv p+dv q+(l.length:Int)*85070591730234615865843651857942052864<=1569275433846670190958947355801916604025588861116008628224->
 zq N env l k p.fx p.fM p.gi p.gj p.gn p.gp q.fx q.fM q.gi q.gj q.gn q.gp=some (Ax (pf env l s))
 |[],k,p,q,s,P,Q,hs,hb=>by
  unfold zq pf Ax;rw[show(⟨p.fx,p.fM,p.gi,p.gj,p.gn,p.gp⟩:dw)=p from rfl,show(⟨q.fx,q.fM,q.gi,q.gj,q.gn,q.gp⟩:dw)=q from rfl,akd N p q P Q,anc];by_cases h:dv p<dv q
  ·rw[anW h,cond_true];obtain⟨r,e1,R,e2⟩:=aao N q p Q P (by omega);rw[e1,anc,WH r R _ (by decide) (by decide),anc];by_cases hg:dv r>9223372036854775808
   ·rw[anW hg,cond_true];simp only;rw[show rB s=false by rw[<-Bool.not_eq_true,oU];omega,cond_false]
   ·rw[anX hg,cond_false,VT r R (by omega),agr (by omega) (by omega)];simp only;rw[(oU (n:=s)).2 (by omega),cond_true,show-dv r=s by omega]
  ·rw[anX h,cond_false];obtain⟨r,e1,R,e2⟩:=aao N p q P Q (by omega);rw[e1,anc,WH r R _ (by decide) (by decide),anc];by_cases hg:dv r>9223372036854775807
   ·rw[anW hg,cond_true];simp only;rw[show rB s=false by rw[<-Bool.not_eq_true,oU];omega,cond_false]
   ·rw[anX hg,cond_false,VT r R (by omega)];simp only;have:0<=dv r:=by omega
    rw[(oU (n:=s)).2 (by omega),cond_true,show dv r=s by omega]
 |m::r,k,p,q,s,P,Q,hs,hb=>by
  unfold zq pf;simp only;rw[show aaI N env m.au=Ds N m.au env 0 from rfl,ZX,anc];cases hf:lV env m.au with
  |none=>rfl
  |some v=>
   simp only[cond_true];have ha:=me m.eF;have hv:=me v;have hm:=Tk v.toInt m.eF.toInt;have hu:=ZY v m.eF;have h0:0<=(v.toInt.natAbs:Int)*m.eF.toInt.natAbs:=Int.mul_nonneg (by omega) (by omega);have hp:(v.toInt.natAbs:Int)*m.eF.toInt.natAbs<=85070591730234615865843651857942052864:=by
    rw[<-Int.natCast_mul,<-Int.natAbs_mul];omega
   have hc:v.toInt*m.eF.toInt=m.eF.toInt*v.toInt:=Int.mul_comm _ _;rw[anh]at hb;have hP:0<=dv p:=by obtain⟨a0,a1,a2,a3,a4,a5,a6,a7,a8,a9,aa,ab⟩:=P;unfold dv;omega
   have hQ:0<=dv q:=by obtain⟨a0,a1,a2,a3,a4,a5,a6,a7,a8,a9,aa,ab⟩:=Q;unfold dv;omega
   rw[show(⟨p.fx,p.fM,p.gi,p.gj,p.gn,p.gp⟩:dw)=p from rfl,show(⟨q.fx,q.fM,q.gi,q.gj,q.gn,q.gp⟩:dw)=q from rfl];cases zg:(decide (v.toInt<0)==decide (m.eF.toInt<0))with
   |true=>
    rw[cond_true,yX,anc,yX,anc];rw[zg,if_pos rfl]at hm;obtain⟨w,e1,W,e2⟩:=L8 N p P (a:=(v.toInt.natAbs:Int)) (b:=(m.eF.toInt.natAbs:Int)) (by omega) (by omega) (by omega) (by omega) (by
      unfold kr;generalize (v.toInt.natAbs:Int)*m.eF.toInt.natAbs=z at*;have:0<=(r.length:Int)*85070591730234615865843651857942052864:=by omega
      omega)
    rw[e1,anc];refine FM N env r (k+1) w q (s+m.eF.toInt*v.toInt) W Q ?_ ?_
    ·rw[e2,hm,hc];omega
    ·rw[e2];generalize (v.toInt.natAbs:Int)*m.eF.toInt.natAbs=z at*;omega
   |false=>
    rw[cond_false,yX,anc,yX,anc];rw[zg,if_neg (by decide)]at hm;obtain⟨w,e1,W,e2⟩:=L8 N q Q (a:=(v.toInt.natAbs:Int)) (b:=(m.eF.toInt.natAbs:Int)) (by omega) (by omega) (by omega) (by omega) (by
      unfold kr;generalize (v.toInt.natAbs:Int)*m.eF.toInt.natAbs=z at*;have:0<=(r.length:Int)*85070591730234615865843651857942052864:=by omega
      omega)
    rw[e1,anc];refine FM N env r (k+1) p w (s+m.eF.toInt*v.toInt) P W ?_ ?_
    ·rw[e2,hm,hc];omega
    ·rw[e2];generalize (v.toInt.natAbs:Int)*m.eF.toInt.natAbs=z at*;omega
theorem ahK(N:Nat)(hN:2147483648<N)(l:bj)(env:an3 aL)(hl:l.xL.length<=4611686018427387904):Mc N l env=some (cW l env):=by
 unfold Mc;rw[W7,show MA N l=some (bif iB l then 0 else 1) by unfold MA;rw[Ce N (by omega) l (anw hl (by decide)),anc];cases iB l<;>rfl,anc];cases hb:iB l with
 |false=>rfl
 |true=>
  simp only[Bool.not_true,cond_false];rw[cond_true,show((0:Int) !=0)=false from rfl,cond_false];have hK:=me l.xK;have Z:D6 xo:=⟨by decide,by decide,by decide,by decide,by decide,by decide,by decide,by decide,by decide,by decide,by decide,by decide⟩;have z0:dv xo=0:=by decide
  obtain⟨w,e1,W,e2⟩:=L8 N xo Z (a:=(l.xK.toInt.natAbs:Int)) (b:=1) (by omega) (by omega) (by decide) (by decide) (by rw[z0];unfold kr;omega);rw[z0]at e2;by_cases h:l.xK.toInt<0
  ·rw[anW h,cond_true,yX,anc,e1,anc];exact FM N env l.xL 0 xo w l.xK.toInt Z W (by rw[z0];omega) (by rw[z0];omega)
  ·rw[anX h,cond_false,yX,anc,e1,anc];exact FM N env l.xL 0 w xo l.xK.toInt W Z (by rw[z0];omega) (by rw[z0];omega)
def Bp(wrap:Bool)(h n:Int):Int:=bif wrap then(n+h)%(2*h)-h else max (-h) (min (h-1) n)
theorem aha(P:Int->Prop)(h:∀k:Fin 30,P (2^(k.val+1))){b:Int}(J:2<=b)(h2:b<=31):P (2^(b-1).toNat):=by
 have:=h ⟨(b-2).toNat,by omega⟩
 rwa [show(b-2).toNat+1=(b-1).toNat by omega]at this
theorem akE{w:Bool}{h n:Int}(hp:0<h)(J: -h<=n)(h2:n<=h-1):Bp w h n=n:=by
 unfold Bp;cases w
 ·simp only[cond_false];omega
 ·simp only[cond_true];rw[Int.emod_eq_of_lt (by omega) (by omega)];omega
theorem XO{h u n:Int}(hu:u*(2*h)=18446744073709551616)(hu0:0<u)(hh:0<h):
 (((n*u)%18446744073709551616+9223372036854775808)%18446744073709551616-9223372036854775808)/ u=(n+h)%(2*h)-h:=by
 have h2:u*h=9223372036854775808:=by have:u*(2*h)=2*(u*h):=by rw[Int.mul_left_comm]
                                     omega
 rw[Int.emod_add_emod,<-hu];have e:n*u+9223372036854775808=u*(n+h):=by rw[Int.mul_add,h2,Int.mul_comm]
 rw[e,Int.mul_emod_mul_of_pos _ _ hu0,<-h2,<-Int.mul_sub,Int.mul_ediv_cancel_left _ (by omega)]
theorem abE{n d:Int}(hd:0<d):n.tdiv d=if 0<=n then n / d else-((-n)/ d):=by
 split
 ·exact Int.tdiv_eq_ediv_of_nonneg (by assumption)
 ·have:n= -(-n):=by omega
  conv=>lhs;rw[this]
  rw[Int.neg_tdiv,Int.tdiv_eq_ediv_of_nonneg (by omega)]
theorem akB{m d:Int}(hd:0<d)(hm:0<m):(-m)/ d=if m%d=0 then-(m / d)else-(m / d)-1:=by
 have J:=Int.mul_ediv_add_emod m d;have h2:=Int.emod_nonneg m (show d≠0 by omega);have h3:=Int.emod_lt_of_pos m hd;split
 ·rename_i h
  exact((Int.ediv_emod_unique hd).2 ⟨(by rw[Int.mul_neg];omega:(0:Int)+d*(-(m / d))= -m),by omega,by omega⟩).1
 ·exact((Int.ediv_emod_unique hd).2 ⟨(by rw[Int.mul_sub,Int.mul_neg];omega:(d-m%d)+d*(-(m / d)-1)= -m),by omega,by omega⟩).1
theorem ai5{n d:Int}(hd:0<d):(bif decide (n.tdiv d*d>n)then n.tdiv d-1 else n.tdiv d)=n / d:=by
 rw[abE hd];by_cases h:0<=n
 ·rw[if_pos h,anX (by have:=Int.ediv_mul_le n (show d≠0 by omega);omega)];rfl
 ·rw[if_neg h];obtain⟨m,rfl⟩:∃m,n= -m:=⟨-n,by omega⟩;rw[Int.neg_neg,akB hd (by omega),Int.neg_mul];have J:=Int.mul_ediv_add_emod m d;have h2:=Int.emod_nonneg m (show d≠0 by omega);rw[Int.mul_comm]at J;split
  ·rw[anX (by omega)];rfl
  ·rw[anW (by omega)];rfl
theorem UJ{n d:Int}(hd:0<d):(bif decide (n.tmod d<0)then n.tdiv d-1 else n.tdiv d)=n / d:=by
 rw[<-ai5 hd];have h:n.tmod d=n-n.tdiv d*d:=by have:=Int.mul_tdiv_add_tmod n d;rw[Int.mul_comm]at this;omega
 rw[h]
 congr 1
 exact decide_eq_decide.2 (by omega)
def Bj(a b:Int):Int:=bif decide (b<0)then(-a)/(-b)else a / b
theorem acd{a b:Int}(hb:b≠0):(bif a.tmod b !=0&&(decide (a<0) !=decide (b<0))then a.tdiv b-1 else a.tdiv b)=Bj a b:=by
 have key:∀a b:Int,0<b->(bif a.tmod b !=0&&(decide (a<0) !=false)then a.tdiv b-1 else a.tdiv b)=a / b:=λa b hb=>by
  rw[<-UJ hb]
  congr 1
  have hm:0<=a->0<=a.tmod b:=λh=>Int.tmod_nonneg _ h;have kx:a<0->a.tmod b<=0:=λh=>by
   have:a= -(-a):=by omega
   rw[this,Int.neg_tmod];have:=Int.tmod_nonneg b (show 0<=-a by omega);omega
  by_cases h:a<0
  ·rw[anW h];have:=kx h;by_cases h0:a.tmod b=0
   ·rw[h0];rfl
   ·rw[anW (by omega),bne_iff_ne.2 h0];rfl
  ·rw[anX h];have:=hm (by omega);rw[anX (show ¬a.tmod b<0 by omega)];cases (a.tmod b !=0)<;>rfl
 unfold Bj;by_cases h:b<0
 ·rw[anW h];simp only[cond_true];rw[<-key (-a) (-b) (by omega),Int.neg_tmod,Int.tmod_neg,Int.neg_tdiv_neg]
  congr 1
  have hz:(-(a.tmod b) !=0)=(a.tmod b !=0):=by
   by_cases h0:a.tmod b=0
   ·rw[h0];rfl
   ·rw[bne_iff_ne.2 h0,bne_iff_ne.2 (show-(a.tmod b)≠0 by omega)]
  rw[hz];by_cases h0:a=0
  ·subst h0;simp
  ·by_cases ha:a<0
   ·rw[anW ha,anX (show ¬-a<0 by omega)];rfl
   ·rw[anX ha,anW (show-a<0 by omega)];rfl
 ·rw[anX h];simp only[cond_false];exact key a b (by omega)
def AS(a b:Nat)(neg:Bool)(how:Int):Bool:=(a%b==0||how==3)||((how==1&& !neg)||(how==2&&neg))||(how==4&&(decide (2*(a%b)<b)||(2*(a%b)==b&&a / b%2==0)))
def m7(a b:Nat)(neg:Bool)(how:Int):Nat:=bif AS a b neg how then a / b else a / b+1
def j8(n d:Int)(how:Int):Int:=
 bif n%d==0||how==1 then n / d else bif how==2 then n / d+1 else bif how==3 then(bif decide (n<0)then n / d+1 else n / d)
 else bif decide (n%d>d-n%d)||(n%d==d-n%d&&n / d%2 !=0)then n / d+1 else n / d
theorem amY{a b:Nat}(hb:0<b)(hr:a%b≠0):(-(a:Int))/(b:Int)= -((a / b:Nat):Int)-1/\(-(a:Int))%(b:Int)=(b:Int)-((a%b:Nat):Int):=by
 have J:a%b<b:=Nat.mod_lt _ hb;have h2:(b:Int)*((a / b:Nat):Int)+((a%b:Nat):Int)=(a:Int):=by rw[<-Int.natCast_mul,<-Int.natCast_add,Nat.div_add_mod]
 refine(Int.ediv_emod_unique (by omega)).2 ⟨?_,by omega,by omega⟩;rw[Int.mul_sub,Int.mul_neg];omega
theorem afa{a b:Nat}(hb:0<b)(hr:a%b=0):(-(a:Int))/(b:Int)= -((a / b:Nat):Int)/\(-(a:Int))%(b:Int)=0:=by
 have h2:(b:Int)*((a / b:Nat):Int)+((a%b:Nat):Int)=(a:Int):=by rw[<-Int.natCast_mul,<-Int.natCast_add,Nat.div_add_mod]
 refine(Int.ediv_emod_unique (by omega)).2 ⟨?_,by omega,by omega⟩;rw[Int.mul_neg];omega
theorem afe{a b:Nat}(hb:0<b){how:Int}(h0:1<=how)(h3:how<=4):((m7 a b false how:Nat):Int)=j8 (a:Int) (b:Int) how:=by
 unfold m7 AS j8;have e1:(a:Int)%(b:Int)=((a%b:Nat):Int):=(Int.natCast_emod a b).symm;have e2:(a:Int)/(b:Int)=((a / b:Nat):Int):=(Int.natCast_ediv a b).symm;rw[e1,e2];have hl:=Nat.mod_lt a hb;generalize a%b=r at*;generalize a / b=q at*;rcases (by omega:how=1\/how=2\/how=3\/how=4)with rfl|rfl|rfl|rfl<;>simp only[cond_eq_ite]<;>simp<;>(repeat' split)<;>omega
theorem aeB{a b:Nat}(hb:0<b)(ha:0<a){how:Int}(h0:1<=how)(h3:how<=4): -((m7 a b true how:Nat):Int)=j8 (-(a:Int)) (b:Int) how:=by
 unfold m7 AS j8;have hl:=Nat.mod_lt a hb;by_cases hr:a%b=0
 ·obtain⟨e1,e2⟩:=afa hb hr;rw[e1,e2,hr];rfl
 ·obtain⟨e1,e2⟩:=amY hb hr;rw[e1,e2];generalize a%b=r at*;generalize a / b=q at*;rcases (by omega:how=1\/how=2\/how=3\/how=4)with rfl|rfl|rfl|rfl<;>simp only[cond_eq_ite]<;>simp<;>(repeat' split)<;>omega
def rl(n d how:Int):Int:=bif decide (d<0)then j8 (-n) (-d) how else j8 n d how
theorem alI(d how:Int):j8 0 d how=0:=by unfold j8;simp
theorem ajX{n d:Int}(hd:d≠0){how:Int}(h0:1<=how)(h3:how<=4):
 (bif decide (n<0) !=decide (d<0)then-((m7 n.natAbs d.natAbs true how:Nat):Int)else((m7 n.natAbs d.natAbs false how:Nat):Int))=rl n d how:=by
 have key:∀n d:Int,0<d->(bif decide (n<0)then-((m7 n.natAbs d.natAbs true how:Nat):Int)else((m7 n.natAbs d.natAbs false how:Nat):Int))=j8 n d how:=λn d hd=>by
  by_cases h:n<0
  ·rw[anW h];simp only[cond_true];rw[aeB (by omega) (by omega) h0 h3,show-((n.natAbs:Nat):Int)=n by omega,show((d.natAbs:Nat):Int)=d by omega]
  ·rw[anX h];simp only[cond_false];rw[afe (by omega) h0 h3,show((n.natAbs:Nat):Int)=n by omega,show((d.natAbs:Nat):Int)=d by omega]
 unfold rl;by_cases h:d<0
 ·rw[anW h];simp only[cond_true];by_cases hn:n=0
  ·subst hn;rw[show(decide ((0:Int)<0) !=true)=true from rfl,Int.neg_zero,alI];unfold m7 AS;simp
  ·rw[<-key (-n) (-d) (by omega),Int.natAbs_neg,Int.natAbs_neg]
   congr 1
   by_cases ha:n<0
   ·rw[anW ha,anX (show ¬-n<0 by omega)];rfl
   ·rw[anX ha,anW (show-n<0 by omega)];rfl
 ·rw[anX h];simp only[cond_false];rw[<-key n d (by omega)];cases decide (n<0)<;>rfl
theorem ahP{n d how B:Int}(hd:0<d)(hB:0<=B)(J: -B<=n)(h2:n<=B): -B<=j8 n d how/\j8 n d how<=B+1:=by
 have h3: -B<=n / d:=by
  refine Int.le_ediv_of_mul_le hd ?_;have:B*1<=B*d:=Int.mul_le_mul_of_nonneg_left (by omega) hB;rw[Int.neg_mul];omega
 have h4:n / d<=B:=by
  have:n / d<=n\/n / d<=0:=by
   by_cases h:0<=n
   ·exact .inl (Int.ediv_le_self _ h)
   ·exact .inr (Int.le_of_lt (Int.ediv_neg_of_neg_of_pos (by omega) hd))
  omega
 unfold j8;simp only[cond_eq_ite]
 (repeat' split)<;>omega
theorem ahT{n d:Nat}(hd:0<d):Nat.gcd (n / Nat.gcd n d) (d / Nat.gcd n d)=1:=Nat.gcd_div_gcd_div_gcd_of_pos_right hd
def iZ(t:aF):Int:=2^(t.bX-1).toNat
def mN(t:aF):Int:=2^t.bS.toNat
def nx(t:aF)(n:Int):ax:=⟨Int64.ofInt (Bp (t.cu==2) (iZ t) n),1⟩
def lC(n d:Int):Nat:=Nat.gcd n.natAbs d.natAbs
def EY(n d:Int):Int:=bif decide (n<0) !=decide (d<0)then-((n.natAbs / lC n d:Nat):Int)else((n.natAbs / lC n d:Nat):Int)
def lI(n d:Int):ax×Int:=
 bif d==0 then(cB,4)else bif decide (2147483647<n.natAbs / lC n d)||decide (2147483647<d.natAbs / lC n d)then(cB,3)
 else(⟨Int64.ofInt (EY n d),Int64.ofInt ((d.natAbs / lC n d:Nat):Int)⟩,0)
def B8(a b:Int):Int:=bif decide (a<b)then-1 else bif decide (a>b)then 1 else 0
def qg(t:aF)(a b:ax):Int:=
 bif c7 t&&(dD t a&&dD t b)then bif t.bk==1 then B8 (a.xN.toInt*b.xD.toInt) (b.xN.toInt*a.xD.toInt)else B8 a.xN.toInt b.xN.toInt else 0
def Ox(op:Int)(t:aF)(a b:Int):ax×Int:=
 bif op==4 then(nx t (a+b),0)else bif op==5 then(nx t (a-b),0)else bif op==6 then(nx t (j8 (a*b) (mN t) t.ct),0)
 else bif op==8 then(nx t (-a),0)else bif b==0 then(cB,4)else(nx t (rl (a*mN t) b t.ct),0)
def yf(op a b:Int):ax×Int:=
 bif op==7&&b==0 then(cB,4)
 else
  let n:=bif op==4 then a+b else bif op==5 then a-b else bif op==6 then a*b else bif op==7 then Bj a b else-a
  bif decide (-2147483647<=n)&&decide (n<=2147483647)then(⟨Int64.ofInt n,1⟩,0)else(cB,3)
def yx(op:Int)(a b:ax):ax×Int:=
 bif op==4 then lI (a.xN.toInt*b.xD.toInt+b.xN.toInt*a.xD.toInt) (a.xD.toInt*b.xD.toInt)
 else bif op==5 then lI (a.xN.toInt*b.xD.toInt-b.xN.toInt*a.xD.toInt) (a.xD.toInt*b.xD.toInt)
 else bif op==6 then lI (a.xN.toInt*b.xN.toInt) (a.xD.toInt*b.xD.toInt)
 else bif op==7 then lI (a.xN.toInt*b.xD.toInt) (a.xD.toInt*b.xN.toInt)
 else(⟨-a.xN,a.xD⟩,0)
def ot(op:Int)(t:aF)(a b:ax):ax×Int:=
 bif decide (op<4)||decide (op>10)then(cB,1)else bif !c7 t then(cB,10)
 else bif !dD t a||(!(op==8)&& !dD t b)then(cB,1)
 else bif op==9 then(bif decide (qg t a b>0)then b else a,0)else bif op==10 then(bif decide (qg t a b<0)then b else a,0)
 else bif t.bk==2 then Ox op t a.xN.toInt b.xN.toInt else bif t.bk==3 then yf op a.xN.toInt b.xN.toInt else yx op a b
def wA(t:aF)(v:ax):ax:=bif t.bk==2 then(lI v.xN.toInt (mN t)).1 else v
def JQ(from_ BC:aF)(v:ax):ax×Int:=
 bif !c7 from_|| !c7 BC then(cB,10)else bif !dD from_ v then(cB,1)
 else
  let x:=wA from_ v
  bif BC.bk==3 then(⟨Int64.ofInt (x.xN.toInt / x.xD.toInt),1⟩,0)else bif BC.bk==2 then(nx BC (j8 (x.xN.toInt*mN BC) x.xD.toInt BC.ct),0)else(x,0)
structure C3(t:aF):Prop where
 b1:2<=t.bX
 b2:t.bX<=31
 f1:0<=t.bS
 f2:t.bS<=30
 r1:1<=t.ct
 r2:t.ct<=4
 o:t.cu=1\/t.cu=2
theorem mW{t:aF}(h:c7 t=true)(hk:t.bk=2):C3 t:=by
 unfold c7 at h;rw[hk]at h;have h':(decide (2<=t.bX)&&(decide (t.bX<=31)&&(decide (0<=t.bS)&&(decide (t.bS<=30)&&(decide (1<=t.ct)&&(decide (t.ct<=4)&&(t.cu==1||t.cu==2)))))))=true:=h;simp only[ang,decide_eq_true_eq,Bool.or_eq_true,beq_iff_eq]at h';obtain⟨J,h2,h3,h4,h5,h6,h7⟩:=h';exact⟨J,h2,h3,h4,h5,h6,h7⟩
theorem kinds{t:aF}(h:c7 t=true):t.bk=1\/t.bk=2\/t.bk=3:=by
 unfold c7 at h;by_cases J:t.bk=1
 ·exact .inl J
 ·by_cases h2:t.bk=2
  ·exact .inr (.inl h2)
  ·by_cases h3:t.bk=3
   ·exact .inr (.inr h3)
   ·simp [J,h2,h3]at h
theorem N2{t:aF}(f:C3 t):2<=iZ t/\iZ t<=1073741824:=
 aha (λx=>2<=x/\x<=1073741824) (by decide) f.b1 f.b2
theorem Sk(P:Int->Prop)(h:∀k:Fin 31,P (2^k.val)){b:Int}(J:0<=b)(h2:b<=30):P (2^b.toNat):=
 h ⟨b.toNat,by omega⟩
theorem aau{t:aF}(f:C3 t):1<=mN t/\mN t<=1073741824:=
 Sk (λx=>1<=x/\x<=1073741824) (by decide) f.f1 f.f2
structure U5(t:aF)(v:ax):Prop where
 d:v.xD.toInt=1
 n1: -iZ t<=v.xN.toInt
 n2:v.xN.toInt<=iZ t-1
theorem sH{t:aF}{v:ax}(h:dD t v=true)(hk:t.bk=2):U5 t v:=by
 unfold dD at h;rw[hk]at h;have h':(v.xD.toInt==1&&(decide (-(2^(t.bX-1).toNat)<=v.xN.toInt)&&decide (v.xN.toInt<2^(t.bX-1).toNat)))=true:=h;simp only[ang,decide_eq_true_eq,beq_iff_eq]at h';obtain⟨J,h2,h3⟩:=h';exact⟨J,h2,by unfold iZ;omega⟩
structure jz(v:ax):Prop where
 n1: -2147483647<=v.xN.toInt
 n2:v.xN.toInt<=2147483647
 d1:1<=v.xD.toInt
 d2:v.xD.toInt<=2147483647
 g:Nat.gcd v.xN.toInt.natAbs v.xD.toInt.toNat=1
theorem sM{t:aF}{v:ax}(h:dD t v=true)(hk:t.bk≠2):jz v:=by
 unfold dD at h;rw[beq_false_of_ne hk]at h;simp only[cond_false,ang,decide_eq_true_eq]at h;obtain⟨J,h2,h3,h4,h5⟩:=h;refine⟨h2,J,h3,h4,?_⟩;cases Jr:t.bk==3 with
 |true=>
  rw[Jr]at h5;have h6:v.xD.toInt=1:=by simpa using h5
  rw[h6];exact Nat.gcd_one_right _
 |false=>rw[Jr]at h5;simpa using h5
theorem adH{t:aF}{v:ax}(h:dD t v=true)(hk:t.bk=3):v.xD.toInt=1:=by
 unfold dD at h;rw[hk]at h;have h':(decide (v.xN.toInt<=2147483647)&&(decide (-2147483647<=v.xN.toInt)&&(decide (1<=v.xD.toInt)&&(decide (v.xD.toInt<=2147483647)&&(v.xD.toInt==1)))))=true:=h;simp only[ang,beq_iff_eq]at h';exact h'.2.2.2.2
theorem ox{n:Int}(J: -9223372036854775808<=n)(h2:n<=9223372036854775807):(Int64.ofInt n).toInt=n:=Int64.toInt_ofInt_of_le (by omega) (by omega)
structure abt(n d:Int)(v:ax):Prop where
 n1: -2147483647<=v.xN.toInt
 n2:v.xN.toInt<=2147483647
 d1:1<=v.xD.toInt
 d2:v.xD.toInt<=2147483647
 g:Nat.gcd v.xN.toInt.natAbs v.xD.toInt.toNat=1
 en:v.xN.toInt=EY n d
 ed:v.xD.toInt=((d.natAbs / lC n d:Nat):Int)
theorem ai0{n d:Int}{v:ax}(h:lI n d=(v,0)):abt n d v:=by
 unfold lI at h;by_cases hd:d=0
 ·subst hd;cases h
 ·rw[beq_false_of_ne hd]at h;simp only[cond_false]at h;cases hc:(decide (2147483647<n.natAbs / lC n d)||decide (2147483647<d.natAbs / lC n d))with
  |true=>rw[hc]at h;cases h
  |false=>
   rw[hc]at h;cases h
   rw[an2,decide_eq_false_iff_not,decide_eq_false_iff_not]at hc;have hg:0<lC n d:=Nat.gcd_pos_of_pos_right _ (by omega);have hq:0<d.natAbs / lC n d:=Nat.div_pos (Nat.le_of_dvd (by omega) (Nat.gcd_dvd_right _ _)) hg;have hN:(EY n d).natAbs=n.natAbs / lC n d:=by
     unfold EY;cases (decide (n<0) !=decide (d<0))
     ·exact Int.natAbs_natCast _
     ·exact(Int.natAbs_neg _).trans (Int.natAbs_natCast _)
   have e1:=ox (n:=EY n d) (by omega) (by omega);have e2:=ox (n:=((d.natAbs / lC n d:Nat):Int)) (by omega) (by omega);refine⟨?_,?_,?_,?_,?_,e1,e2⟩
   ·show _<=(Int64.ofInt _).toInt;rw[e1];omega
   ·show(Int64.ofInt _).toInt<=_;rw[e1];omega
   ·show _<=(Int64.ofInt _).toInt;rw[e2];omega
   ·show(Int64.ofInt _).toInt<=_;rw[e2];omega
   ·show Nat.gcd (Int64.ofInt _).toInt.natAbs (Int64.ofInt _).toInt.toNat=1;rw[e1,e2,hN,anG];exact ahT (by omega)
theorem aiz{n S:Int}(J: -1073741824<=n)(h2:n<=1073741824)(s1:1<=S)(s2:S<=1073741824):∃v,lI n S=(v,0):=by
 unfold lI;rw[beq_false_of_ne (show S≠0 by omega)];have a1:n.natAbs / lC n S<=n.natAbs:=Nat.div_le_self _ _;have a2:S.natAbs / lC n S<=S.natAbs:=Nat.div_le_self _ _;rw[anX (show ¬2147483647<n.natAbs / lC n S by omega),anX (show ¬2147483647<S.natAbs / lC n S by omega)];exact⟨_,rfl⟩
theorem ahJ{a b:ax}(J:a.xN.toInt=b.xN.toInt)(h2:a.xD.toInt=b.xD.toInt):a=b:=by
 cases a;cases b
 congr 1
 ·exact Int64.toInt_inj.1 J
 ·exact Int64.toInt_inj.1 h2
theorem agZ{t:aF}{v:ax}(ht:c7 t=true)(hv:dD t v=true):jz (wA t v):=by
 unfold wA;rcases kinds ht with hk|hk|hk
 ·rw[hk];exact sM hv (by omega)
 ·rw[hk];have F:=mW ht hk;have A:=sH hv hk;have hH:=N2 F;have hS:=aau F;obtain⟨x,hx⟩:=aiz (n:=v.xN.toInt) (S:=mN t) (by have:=A.n1;omega) (by have:=A.n2;omega) hS.1 hS.2;have L:=ai0 hx;show jz (lI v.xN.toInt (mN t)).1;rw[hx];exact⟨L.n1,L.n2,L.d1,L.d2,L.g⟩
 ·rw[hk];exact sM hv (by omega)
theorem OC{a b:Int64}(J: -9223372036854775808<=a.toInt+b.toInt)(h2:a.toInt+b.toInt<=9223372036854775807):(a+b).toInt=a.toInt+b.toInt:=by rw[age,IntKind.wrap_i64];omega
theorem Du{a b:Int64}(J: -9223372036854775808<=a.toInt-b.toInt)(h2:a.toInt-b.toInt<=9223372036854775807):(a-b).toInt=a.toInt-b.toInt:=by rw[ald,IntKind.wrap_i64];omega
theorem Tf{a b:Int64}(J: -9223372036854775808<=a.toInt*b.toInt)(h2:a.toInt*b.toInt<=9223372036854775807):(a*b).toInt=a.toInt*b.toInt:=by rw[aeJ,IntKind.wrap_i64];omega
theorem Pl{a:Int64}(J: -9223372036854775807<=a.toInt):(-a).toInt= -a.toInt:=by
 have:=Int64.toInt_lt a;rw[Int64.toInt_neg,Int.bmod_def];omega
theorem LX{a b A B:Int}(ha: -A<=a)(Uy:a<=A)(hb: -B<=b)(fK:b<=B): -(A*B)<=a*b/\a*b<=A*B:=by
 have J:a.natAbs<=A.natAbs:=by omega
 have h2:b.natAbs<=B.natAbs:=by omega
 have h3:(a*b).natAbs<=(A*B).natAbs:=by rw[Int.natAbs_mul,Int.natAbs_mul];exact Nat.mul_le_mul J h2
 have h4:0<=A*B:=Int.mul_nonneg (by omega) (by omega);omega
theorem afU:∀n:Fin 31,IntKind.u64.wrap (n.val:Int)=(n.val:Int)/\(Int64.ofInt ((1:Int)*2^(min n.val (IntKind.bits .i64)))).toInt=2^n.val/\min n.val (IntKind.bits .i64)=n.val:=by decide+kernel
theorem Ki{f:Int}(J:0<=f)(h2:f<=30):IntKind.u64.wrap f=f/\(Int64.ofInt ((1:Int)*2^(min f.toNat (IntKind.bits .i64)))).toInt=2^f.toNat/\min f.toNat (IntKind.bits .i64)=f.toNat:=by
 obtain⟨n,rfl⟩:∃n:Nat,f=n:=⟨f.toNat,by omega⟩;have:=afU ⟨n,by omega⟩
 simpa using this
theorem afg:∀n:Fin 30,(decide ((0:Int)<=(IntKind.u64.wrap (aP ((64:Int)-((n.val+2:Nat):Int))))))=true/\min ((IntKind.u64.wrap (aP ((64:Int)-((n.val+2:Nat):Int))))).toNat (IntKind.bits .u64)=62-n.val/\
 min ((IntKind.u64.wrap (aP ((64:Int)-((n.val+2:Nat):Int))))).toNat (IntKind.bits .i64)=62-n.val/\(2:Int)^(62-n.val)*(2*2^(n.val+1))=18446744073709551616/\(0:Int)<2^(62-n.val):=by decide+kernel
theorem akq{b:Int}(J:2<=b)(h2:b<=31):∃k:Nat,(decide ((0:Int)<=(IntKind.u64.wrap (aP ((64:Int)-b)))))=true/\min ((IntKind.u64.wrap (aP ((64:Int)-b)))).toNat (IntKind.bits .u64)=k/\
 min ((IntKind.u64.wrap (aP ((64:Int)-b)))).toNat (IntKind.bits .i64)=k/\(2:Int)^k*(2*2^(b-1).toNat)=18446744073709551616/\(0:Int)<2^k:=by
 obtain⟨n,rfl⟩:∃n:Nat,b=n:=⟨b.toNat,by omega⟩;have:=afg ⟨n-2,by omega⟩;simp only[show n-2+2=n by omega,show n-2+1=n-1 by omega]at this;rw[show((n:Int)-1).toNat=n-1 by omega];exact⟨_,this⟩
theorem Q0(n:Int64):Int64.ofInt n.toInt=n:=Oe (by rw[Dp,IntKind.wrap_i64];have:=me n;omega)
theorem Pb{q:Int64}{z:Int}(h:q.toInt=z):q=Int64.ofInt z:=by rw[<-h,Q0]
theorem yF(N:Nat){t:aF}(F:C3 t)(n:Int64):oT N t n=some (nx t n.toInt):=by
 obtain⟨f1,f2,f3,f4,f5,f6⟩:=Nt F.b1 F.b2;obtain⟨k,u1,u2,u3,u4,u5⟩:=akq F.b1 F.b2;have hH:=N2 F;unfold oT QZ DU D4 yO;rw[gy,anc,anc,mg,anW F.b1,anW F.b2];simp only[Bool.and_self,cond_true];rw[f1,u1];simp only[cond_true,anc];rw[f3,f4,u2,u3]
 change _=some (⟨Int64.ofInt (Bp (t.cu==2) (iZ t) n.toInt),1⟩:ax)
 have qL:(-(Int64.ofInt ((1:Int)*2^(min ((IntKind.u64.wrap (aP (t.bX-(1:Int))))).toNat (IntKind.bits .i64)))))=Int64.ofInt (-iZ t):=Pb f3;have qO:((Int64.ofInt ((1:Int)*2^(min ((IntKind.u64.wrap (aP (t.bX-(1:Int))))).toNat (IntKind.bits .i64))))-(1:Int64))=Int64.ofInt (iZ t-1):=Pb f4;rw[qL,qO];rw[mg,gy];have hr:(decide (-(2^(t.bX-1).toNat)<=n.toInt)&&decide (n.toInt<=2^(t.bX-1).toNat-1))=(decide (-iZ t<=n.toInt)&&decide (n.toInt<=iZ t-1)):=rfl;have hm:(t.cu !=1&&t.cu !=2)=false:=by rcases F.o with h|h<;>rw[h]<;>rfl
 rw[hm];simp only[anc,cond_false];rw[gy,hr];by_cases J: -iZ t<=n.toInt
 ·by_cases h2:n.toInt<=iZ t-1
  ·rw[anW J,anW h2,akE (by omega) J h2,Q0];rfl
  ·rw[anW J,anX h2];simp only[Bool.and_false,cond_false];rcases F.o with ho|ho
   ·rw[ho,anX (show ¬n.toInt< -2^(t.bX-1).toNat from λh=>by have:n.toInt< -iZ t:=h;omega)];simp only[anY,cond_true,anc,cond_false];rw[show((1:Int)==2)=false from rfl];unfold Bp;simp only[cond_false];rw[show max (-iZ t) (min (iZ t-1) n.toInt)=iZ t-1 by omega]
   ·rw[ho];show some (⟨Int64.ofInt (((Int64.ofInt _).toInt).fdiv (2^k)),1⟩:ax)=_;rw[Dp,IntKind.wrap_i64,mo,mo,Int.fdiv_eq_ediv_of_nonneg _ (by omega),Int.mul_emod,Int.emod_emod,<-Int.mul_emod,XO u4 u5 (by unfold iZ at hH;omega)];rfl
 ·rw[anX J];simp only[Bool.false_and,cond_false];rcases F.o with ho|ho
  ·have aI:n.toInt< -iZ t:=by omega
   rw[ho,anW (show n.toInt< -2^(t.bX-1).toNat from aI)];simp only[anY,cond_true,anc];rw[show((1:Int)==2)=false from rfl];unfold Bp;simp only[cond_false];rw[show max (-iZ t) (min (iZ t-1) n.toInt)= -iZ t by omega];rfl
  ·rw[ho];show some (⟨Int64.ofInt (((Int64.ofInt _).toInt).fdiv (2^k)),1⟩:ax)=_;rw[Dp,IntKind.wrap_i64,mo,mo,Int.fdiv_eq_ediv_of_nonneg _ (by omega),Int.mul_emod,Int.emod_emod,<-Int.mul_emod,XO u4 u5 (by unfold iZ at hH;omega)];rfl
theorem agm(N:Nat)(hN:2147483648<N){t:aF}(v:ax)(ht:c7 t=true)(hk:t.bk=2):rC N t v=some (dD t v):=by
 have h:=qf N hN t v ht;unfold lX at h;rw[pE,ht,anc,hk]at h;have h':Option.bind (rC N t v) (λx=>some x)=some (dD t v):=h;cases hx:rC N t v with
 |none=>rw[hx]at h';cases h'
 |some b=>rw[hx]at h';exact h'
def iF:aF:=⟨1,0,0,0,0⟩
theorem aad:c7 iF=true:=rfl
theorem oJ(N:Nat)(hN:2147483648<N)(v:ax):kE N v=some (dD iF v):=by
 have h:=qf N hN iF v aad;unfold lX at h;rw[pE,aad,anc]at h;have h':Option.bind (kE N v) (λx=>some x)=some (dD iF v):=h;cases hx:kE N v with
 |none=>rw[hx]at h';cases h'
 |some b=>rw[hx]at h';exact h'
theorem jz.ok{v:ax}(h:jz v):dD iF v=true:=by
 unfold dD;show(decide (v.xN.toInt<=2147483647)&&(decide (-2147483647<=v.xN.toInt)&&(decide (1<=v.xD.toInt)&&(decide (v.xD.toInt<=2147483647)&&(Nat.gcd v.xN.toInt.natAbs v.xD.toInt.toNat==1)))))=true;rw[anW h.n2,anW h.n1,anW h.d1,anW h.d2,h.g];rfl
theorem Zd(N:Nat)(hN:2147483648<N){t:aF}(ht:c7 t=true)(hk:t.bk=2):∀(l:an3 ax)(k:Nat),(∀v∈l,dD t v=true)->IX N t l k=some 0
 |[],_,_=>rfl
 |v::l,k,h=>by
  rw[IX,agm N hN v ht hk,h v ank];exact Zd N hN ht hk l (k+1) λx hx=>h x (ann _ hx)
theorem Za(N:Nat){t:aF}(ht:c7 t=true)(hk:t.bk=2):ur N t=some 0:=by
 have F:=mW ht hk;have ho:(t.cu==1||t.cu==2)=true:=by rcases F.o with h|h<;>rw[h]<;>rfl
 rw[Qv N t (by rw[hk];rfl),anW F.b1,anW F.b2,anW F.f1,anW F.f2,anW F.r1,anW F.r2,ho];rfl
theorem Xg(N:Nat)(hN:2147483648<N){t:aF}(ht:c7 t=true)(hk:t.bk=2){l:an3 ax}(h:∀v∈l,dD t v=true):qH N t l=some 0:=by
 unfold qH;rw[Za N ht hk,anc];exact Zd N hN ht hk l 0 h
theorem ab2{a b:Nat}(hb:0<b)(ha:a<=9223372036854775808)(jY:b<=9223372036854775808)(neg:Bool)(how:Int):sV (a:Int) (b:Int) neg how=((m7 a b neg how:Nat):Int):=by
 have hq:a / b<=a:=Nat.div_le_self _ _;have hr:a%b<b:=Nat.mod_lt _ hb;have e1:IntKind.u64.wrap ((a:Int).tdiv (b:Int))=((a / b:Nat):Int):=by rw[<-Int.ofNat_tdiv,mo];generalize a / b=q at*;omega
 have e2:(a:Int).tmod (b:Int)=((a%b:Nat):Int):=(Int.ofNat_tmod a b).symm;have e3:IntKind.u64.wrap (2*((a%b:Nat):Int))=((2*(a%b):Nat):Int):=by rw[mo];generalize a%b=q at*;omega
 have e4:IntKind.u64.wrap (((a / b:Nat):Int)+1)=((a / b+1:Nat):Int):=by rw[mo];generalize a / b=q at*;omega
 have e5:((a / b:Nat):Int).tmod 2=((a / b%2:Nat):Int):=(Int.ofNat_tmod (a / b) 2).symm;unfold sV ic m7 AS;simp only[e1,e2,e3,e4,e5];have c1:(((a%b:Nat):Int)==0)=(a%b==0):=rm _ 0;have c2:decide (((2*(a%b):Nat):Int)<(b:Int))=decide (2*(a%b)<b):=mR (by omega);have c3:(((2*(a%b):Nat):Int)==(b:Int))=(2*(a%b)==b):=rm _ _;have c4:(((a / b%2:Nat):Int)==0)=(a / b%2==0):=rm _ 0;rw[c1,c2,c3,c4];generalize ((a%b==0||how==3)||((how==1&& !neg)||(how==2&&neg))||(how==4&&(decide (2*(a%b)<b)||(2*(a%b)==b&&a / b%2==0))))=z;cases z<;>rfl
theorem TW(N:Nat)(v:Int64):Fv N v=some ((v.toInt.natAbs:Nat):Int):=by
 unfold Fv;have:=me v;by_cases h:v.toInt<0
 ·rw[anW h];simp only[cond_true,mo]
  congr 1
  omega
 ·rw[anX h];simp only[cond_false,mo]
  congr 1
  omega
theorem ajf{a b:Nat}(neg:Bool)(how:Int):m7 a b neg how<=a+1:=by
 have hq:a / b<=a:=Nat.div_le_self _ _;unfold m7;cases AS a b neg how
 ·simp only[cond_false];omega
 ·simp only[cond_true];omega
theorem Q4(N:Nat)(n d:Int64){how:Int}(J:1<=how)(h4:how<=4)(b1: -4611686018427387904<=n.toInt)(b2:n.toInt<=4611686018427387904):
 Bz N n d how=some (bif d.toInt==0 then(0,4)else(Int64.ofInt (rl n.toInt d.toInt how),0)):=by
 unfold Bz Dg;rw[mg,gy,anW J,anW h4];simp only[Bool.and_self,anc,cond_true];by_cases hd:d.toInt=0
 ·rw[hd];rfl
 ·have Ai:=me d;rw[beq_false_of_ne hd];simp only[cond_false];rw[TW,TW];unfold Mg;simp only[anc];rw[show(((d.toInt.natAbs:Nat):Int) !=0)=true by rw[bne_iff_ne];omega];simp only[cond_true,anc];rw[ab2 (by omega) (by omega) (by omega)];have key:=ajX (n:=n.toInt) (d:=d.toInt) hd J h4;have hb:=ajf (a:=n.toInt.natAbs) (b:=d.toInt.natAbs);cases hs:(decide (n.toInt<0)==decide (d.toInt<0))with
  |true=>
   have cv:(decide (n.toInt<0) !=decide (d.toInt<0))=false:=by unfold bne;rw[hs];rfl
   rw[cv]at key;simp only[cond_false]at key;have:=hb false how;simp only[Bool.not_true,cond_true];rw[mg,anX (show ¬(9223372036854775808:Int)<=((m7 n.toInt.natAbs d.toInt.natAbs false how:Nat):Int) by omega)];simp only[cond_false];rw[key]
  |false=>
   have cv:(decide (n.toInt<0) !=decide (d.toInt<0))=true:=by unfold bne;rw[hs];rfl
   rw[cv]at key;simp only[cond_true]at key;have:=hb true how;simp only[Bool.not_false,cond_false];rw[<-key]
   congr 2
   refine Oe ?_;rw[Dp,Dp,mo,IntKind.wrap_i64,IntKind.wrap_i64];omega
theorem uk{t:aF}(F:C3 t){v:ax}(V:U5 t v): -1073741824<=v.xN.toInt/\v.xN.toInt<=1073741824:=by
 have:=N2 F;have:=V.n1;have:=V.n2;omega
structure Fx(N:Nat)(t:aF)(a b:ax):Prop where
 hN:2147483648<N
 ht:c7 t=true
 hk:t.bk=2
 ha:dD t a=true
 hb:dD t b=true
theorem Fx.fy{N:Nat}{t:aF}{a b:ax}(h:Fx N t a b):qH N t [a,b]=some 0:=Xg N h.hN h.ht h.hk λv hv=>by
 simp only[anJ,anV,or_false]at hv;rcases hv with rfl|rfl
 ·exact h.ha
 ·exact h.hb
theorem alm{N:Nat}{t:aF}{a:ax}(h:Fx N t a a):Cn N t a=some (nx t (-a.xN.toInt),0):=by
 have B:=uk (mW h.ht h.hk) (sH h.ha h.hk);unfold Cn MF Pu;rw[h.fy];show Option.bind (Option.bind (oT N t (-a.xN)) (λv6=>some (v6,0))) _=_;rw[yF N (mW h.ht h.hk),Pl (by omega)];rfl
theorem ajT{N:Nat}{t:aF}{a b:ax}(h:Fx N t a b):BV N t a b=some (nx t (a.xN.toInt+b.xN.toInt),0):=by
 have B:=uk (mW h.ht h.hk) (sH h.ha h.hk);have C:=uk (mW h.ht h.hk) (sH h.hb h.hk);unfold BV Nf L4;rw[h.fy];show Option.bind (Option.bind (oT N t (a.xN+b.xN)) (λv6=>some (v6,0))) _=_;rw[yF N (mW h.ht h.hk),OC (by omega) (by omega)];rfl
theorem acg{N:Nat}{t:aF}{a b:ax}(h:Fx N t a b):CR N t a b=some (nx t (a.xN.toInt-b.xN.toInt),0):=by
 have B:=uk (mW h.ht h.hk) (sH h.ha h.hk);have C:=uk (mW h.ht h.hk) (sH h.hb h.hk);unfold CR Pp NO;rw[h.fy];show Option.bind (Option.bind (oT N t (a.xN-b.xN)) (λv6=>some (v6,0))) _=_;rw[yF N (mW h.ht h.hk),Du (by omega) (by omega)];rfl
theorem Lb{n d how:Int}(hd:0<d)(J: -4611686018427387904<=n)(h2:n<=4611686018427387904):(Int64.ofInt (j8 n d how)).toInt=j8 n d how:=by
 have:=ahP (how:=how) hd (B:=4611686018427387904) (by decide) J h2;exact ox (by omega) (by omega)
theorem abS{n d how:Int}(hd:d≠0)(J: -4611686018427387904<=n)(h2:n<=4611686018427387904):(Int64.ofInt (rl n d how)).toInt=rl n d how:=by
 unfold rl;by_cases h:d<0
 ·rw[anW h];exact Lb (by omega) (by omega) (by omega)
 ·rw[anX h];exact Lb (by omega) J h2
theorem XF{n d how:Int}(hd:0<d):rl n d how=j8 n d how:=by unfold rl;rw[anX (show ¬d<0 by omega)];rfl
theorem aht{N:Nat}{t:aF}{a b:ax}(h:Fx N t a b):CE N t a b=some (nx t (j8 (a.xN.toInt*b.xN.toInt) (mN t) t.ct),0):=by
 have F:=mW h.ht h.hk;have B:=uk F (sH h.ha h.hk);have C:=uk F (sH h.hb h.hk);have M:=LX B.1 B.2 C.1 C.2;have S:=aau F;obtain⟨s1,s2,s3⟩:=Ki F.f1 F.f2;unfold CE OI LI;have e:=Tf (a:=a.xN) (b:=b.xN) (by omega) (by omega);have vz:(Int64.ofInt ((1:Int)*2^(min (t.bS).toNat (IntKind.bits .i64)))).toInt=mN t:=s2;rw[h.fy,anW F.f1,Q4 N _ _ F.r1 F.r2 (by rw[e];omega) (by rw[e];omega),vz,e,beq_false_of_ne (show mN t≠0 by omega)];simp only[anc,cond_true,cond_false,bne_self_eq_false];rw[yF N F,XF (by omega),Lb (by omega) (by omega) (by omega)];rfl
theorem aaF{n:Int64}{f:Int}(J:0<=f)(h2:f<=30)(b1: -4294967296<=n.toInt)(b2:n.toInt<=4294967296):
 (Int64.ofInt (n.toInt*2^(min f.toNat (IntKind.bits .i64)))).toInt=n.toInt*2^f.toNat/\-4611686018427387904<=n.toInt*2^f.toNat/\n.toInt*2^f.toNat<=4611686018427387904:=by
 obtain⟨s1,s2,s3⟩:=Ki J h2;have S:=Sk (λx=>1<=x/\x<=1073741824) (by decide) J h2;have M:=LX b1 b2 (show-1073741824<=2^f.toNat by omega) S.2;rw[s3];exact⟨ox (by omega) (by omega),by omega,by omega⟩
theorem adR{N:Nat}{t:aF}{a b:ax}(h:Fx N t a b):B7 N t a b=some (bif b.xN.toInt==0 then(cB,4)else(nx t (rl (a.xN.toInt*mN t) b.xN.toInt t.ct),0)):=by
 have F:=mW h.ht h.hk;have B:=uk F (sH h.ha h.hk);obtain⟨e,e1,e2⟩:=aaF (n:=a.xN) F.f1 F.f2 (by omega) (by omega);unfold B7 Ro Lp;rw[h.fy,anW F.f1,Q4 N _ _ F.r1 F.r2 (by rw[e];omega) (by rw[e];omega),e];by_cases hb:b.xN.toInt=0
 ·rw[hb];rfl
 ·rw[beq_false_of_ne hb];simp only[anc,cond_true,cond_false,bne_self_eq_false];rw[yF N F,abS hb e1 e2];rfl
theorem E9(N:Nat)(hN:9223372036854775808<N)(n d:Int64):vb N n d=some (lI n.toInt d.toInt):=by
 unfold vb lI;have hn:=me n;have hdd:=me d;by_cases hd:d.toInt=0
 ·rw[hd];rfl
 ·rw[beq_false_of_ne hd];simp only[cond_false];rw[M3,M3];unfold CL;simp only[anc];rw[L9 N N _ _ (by omega)];simp only[anc];have hg:0<Nat.gcd n.toInt.natAbs d.toInt.natAbs:=Nat.gcd_pos_of_pos_right _ (by omega);rw[show(((Nat.gcd n.toInt.natAbs d.toInt.natAbs:Nat):Int) !=0)=true by rw[bne_iff_ne];omega]
  change _=some (bif decide (2147483647<n.toInt.natAbs / Nat.gcd n.toInt.natAbs d.toInt.natAbs)||decide (2147483647<d.toInt.natAbs / Nat.gcd n.toInt.natAbs d.toInt.natAbs)then(cB,3)else(⟨Int64.ofInt (bif decide (n.toInt<0) !=decide (d.toInt<0)then-((n.toInt.natAbs / Nat.gcd n.toInt.natAbs d.toInt.natAbs:Nat):Int)else((n.toInt.natAbs / Nat.gcd n.toInt.natAbs d.toInt.natAbs:Nat):Int)),Int64.ofInt ((d.toInt.natAbs / Nat.gcd n.toInt.natAbs d.toInt.natAbs:Nat):Int)⟩,0))
  generalize hgg:Nat.gcd n.toInt.natAbs d.toInt.natAbs=g at*;have a1:n.toInt.natAbs / g<=n.toInt.natAbs:=Nat.div_le_self _ _;have a2:d.toInt.natAbs / g<=d.toInt.natAbs:=Nat.div_le_self _ _;have e1:IntKind.u64.wrap ((n.toInt.natAbs:Int).tdiv (g:Int))=((n.toInt.natAbs / g:Nat):Int):=by rw[<-Int.ofNat_tdiv,mo];generalize n.toInt.natAbs / g=q at*;omega
  have e2:IntKind.u64.wrap ((d.toInt.natAbs:Int).tdiv (g:Int))=((d.toInt.natAbs / g:Nat):Int):=by rw[<-Int.ofNat_tdiv,mo];generalize d.toInt.natAbs / g=q at*;omega
  simp only[cond_true];rw[e1,e2,l5,anc,mR (p:=((n.toInt.natAbs / g:Nat):Int)>2147483647) (q:=2147483647<n.toInt.natAbs / g) (by omega),mR (p:=((d.toInt.natAbs / g:Nat):Int)>2147483647) (q:=2147483647<d.toInt.natAbs / g) (by omega)];cases hc:(decide (2147483647<n.toInt.natAbs / g)||decide (2147483647<d.toInt.natAbs / g))with
  |true=>rfl
  |false=>
   rw[an2,decide_eq_false_iff_not,decide_eq_false_iff_not]at hc;unfold bne;cases (decide (n.toInt<0)==decide (d.toInt<0))with
   |true=>rfl
   |false=>
    simp only[cond_false,Bool.not_false,cond_true];clear e1 e2;generalize n.toInt.natAbs / g=p at*;generalize d.toInt.natAbs / g=q at*
    congr 3
    refine Oe ?_;rw[Pl (by rw[ox]<;>omega),ox (by omega) (by omega),ox (by omega) (by omega)]
theorem En{a b:Int}(ha: -2147483647<=a)(Uy:a<=2147483647)(hb: -2147483647<=b)(fK:b<=2147483647): -4611686014132420609<=a*b/\a*b<=4611686014132420609:=by
 have:=LX ha Uy hb fK;omega
theorem jz.d0{v:ax}(h:jz v): -2147483647<=v.xD.toInt:=by have:=h.d1;omega
theorem nk{a b:Int64}(J: -2147483647<=a.toInt)(h2:a.toInt<=2147483647)(h3: -2147483647<=b.toInt)(h4:b.toInt<=2147483647):(a*b).toInt=a.toInt*b.toInt:=by
 have:=En J h2 h3 h4;exact Tf (by omega) (by omega)
theorem amo{a b:ax}(A:jz a)(B:jz b):(a.xN*b.xD+b.xN*a.xD).toInt=a.xN.toInt*b.xD.toInt+b.xN.toInt*a.xD.toInt:=by
 have p:=En A.n1 A.n2 B.d0 B.d2;have q:=En B.n1 B.n2 A.d0 A.d2;rw[OC]<;>rw[nk A.n1 A.n2 B.d0 B.d2,nk B.n1 B.n2 A.d0 A.d2]<;>omega
theorem adL{a b:ax}(A:jz a)(B:jz b):(a.xN*b.xD-b.xN*a.xD).toInt=a.xN.toInt*b.xD.toInt-b.xN.toInt*a.xD.toInt:=by
 have p:=En A.n1 A.n2 B.d0 B.d2;have q:=En B.n1 B.n2 A.d0 A.d2;rw[Du]<;>rw[nk A.n1 A.n2 B.d0 B.d2,nk B.n1 B.n2 A.d0 A.d2]<;>omega
theorem ah0{N:Nat}(hN:9223372036854775808<N){a b:ax}(A:jz a)(B:jz b):Cy N a b=some (lI (a.xN.toInt*b.xD.toInt+b.xN.toInt*a.xD.toInt) (a.xD.toInt*b.xD.toInt)):=by
 unfold Cy;rw[oJ N (by omega),oJ N (by omega),A.ok,B.ok,E9 N hN,amo A B,nk A.d0 A.d2 B.d0 B.d2];rfl
theorem afT{N:Nat}(hN:9223372036854775808<N){a b:ax}(A:jz a)(B:jz b):Dr N a b=some (lI (a.xN.toInt*b.xD.toInt-b.xN.toInt*a.xD.toInt) (a.xD.toInt*b.xD.toInt)):=by
 unfold Dr;rw[oJ N (by omega),oJ N (by omega),A.ok,B.ok,E9 N hN,adL A B,nk A.d0 A.d2 B.d0 B.d2];rfl
theorem ail{N:Nat}(hN:9223372036854775808<N){a b:ax}(A:jz a)(B:jz b):FF N a b=some (lI (a.xN.toInt*b.xN.toInt) (a.xD.toInt*b.xD.toInt)):=by
 unfold FF;rw[oJ N (by omega),oJ N (by omega),A.ok,B.ok,E9 N hN,nk A.n1 A.n2 B.n1 B.n2,nk A.d0 A.d2 B.d0 B.d2];rfl
theorem amU{N:Nat}(hN:9223372036854775808<N){a b:ax}(A:jz a)(B:jz b):Db N a b=some (lI (a.xN.toInt*b.xD.toInt) (a.xD.toInt*b.xN.toInt)):=by
 unfold Db;rw[oJ N (by omega),oJ N (by omega),A.ok,B.ok,E9 N hN,nk A.n1 A.n2 B.d0 B.d2,nk A.d0 A.d2 B.n1 B.n2];rfl
theorem amh(N:Nat)(n:Int64):pN N n=some (decide (-2147483647<=n.toInt)&&decide (n.toInt<=2147483647)):=by
 unfold pN;rw[mg,gy];rfl
theorem Wv{a b:Int}: -(a.natAbs:Int)<=a.tdiv b/\a.tdiv b<=(a.natAbs:Int):=by
 have h:(a.tdiv b).natAbs<=a.natAbs:=by rw[Int.natAbs_tdiv];exact Nat.div_le_self _ _
 omega
theorem aah{a b:Int}(hb:b≠0): -(a.natAbs:Int)<=a.tmod b/\a.tmod b<=(a.natAbs:Int):=by
 have h:(a.tmod b).natAbs<=a.natAbs:=by rw[Int.natAbs_tmod];exact Nat.mod_le _ _
 omega
theorem afS(N:Nat)(op:Int)(a b:Int64)(J: -2147483647<=a.toInt)(h2:a.toInt<=2147483647)(h3: -2147483647<=b.toInt)(h4:b.toInt<=2147483647)(ho:op=4\/op=5\/op=6\/op=7):
 Fk N op a b=some (yf op a.toInt b.toInt):=by
 have eA:=OC (a:=a) (b:=b) (by omega) (by omega);have eS:=Du (a:=a) (b:=b) (by omega) (by omega);have eM:=nk J h2 h3 h4;have fin:∀(z:Int64)(n:Int),z.toInt=n->((pN N z).bind λv=>bif v then some ((⟨z,(1:Int64)⟩:ax),(0:Int))else some (cB,(3:Int)))=some (bif decide (-2147483647<=n)&&decide (n<=2147483647)then(⟨Int64.ofInt n,1⟩,0)else(cB,3)):=λz n hz=>by
  subst hz;rw[amh,anc,Q0];cases (decide (-2147483647<=z.toInt)&&decide (z.toInt<=2147483647))<;>rfl
 unfold Fk yf;rcases ho with rfl|rfl|rfl|rfl
 ·exact fin _ _ eA
 ·exact fin _ _ eS
 ·exact fin _ _ eM
 ·show(bif b.toInt==0 then some (cB,(4:Int))else _)=some (bif true&&b.toInt==0 then(cB,4)else bif decide (-2147483647<=Bj a.toInt b.toInt)&&decide (Bj a.toInt b.toInt<=2147483647)then(⟨Int64.ofInt (Bj a.toInt b.toInt),1⟩,0)else(cB,3));by_cases hb:b.toInt=0
  ·rw[hb];rfl
  ·have t1:=Wv (a:=a.toInt) (b:=b.toInt);have t2:=aah (a:=a.toInt) hb;have q1:(Int64.ofInt (a.toInt.tmod b.toInt)).toInt=a.toInt.tmod b.toInt:=ox (by omega) (by omega);have q2:(Int64.ofInt (a.toInt.tdiv b.toInt)).toInt=a.toInt.tdiv b.toInt:=ox (by omega) (by omega);have q3:((Int64.ofInt (a.toInt.tdiv b.toInt))-(1:Int64)).toInt=a.toInt.tdiv b.toInt-1:=by
    rw[Du]<;>rw[q2,show(1:Int64).toInt=1 from rfl]<;>omega
   have key:=acd (a:=a.toInt) hb;rw[beq_false_of_ne hb,bne_iff_ne.2 hb,q1];simp only[cond_false,cond_true,Bool.and_false];rw[gy,anc];have hx:(!(decide (a.toInt<0)==decide (b.toInt<0)))=(decide (a.toInt<0) !=decide (b.toInt<0)):=rfl;rw[hx];cases hz:(a.toInt.tmod b.toInt !=0&&(decide (a.toInt<0) !=decide (b.toInt<0)))with
   |true=>rw[hz]at key;exact fin _ _ (q3.trans key)
   |false=>rw[hz]at key;exact fin _ _ (q2.trans key)
theorem adN(N:Nat)(a b:Int64):zp N a b=some (B8 a.toInt b.toInt):=by
 unfold zp B8;cases decide (a.toInt<b.toInt)
 ·cases decide (a.toInt>b.toInt)<;>rfl
 ·rfl
theorem W9(N:Nat)(hN:2147483648<N)(t:aF)(a b:ax)(ht:c7 t=true):Ek N t a b=some (qg t a b):=by
 unfold Ek qg;rw[qf N hN t a ht,qf N hN t b ht,ht];cases ha:dD t a with
 |false=>rfl
 |true=>
  cases hb:dD t b with
  |false=>rfl
  |true=>
   simp only[anc,cond_true,Bool.not_true,cond_false,Bool.and_self];cases hk:t.bk==1 with
   |true=>
    have gM:t.bk=1:=by simpa using hk
    have A:=sM ha (by omega);have B:=sM hb (by omega);simp only[cond_true];unfold QN;rw[oJ N hN,oJ N hN,A.ok,B.ok,adN,nk A.n1 A.n2 B.d0 B.d2,nk B.n1 B.n2 A.d0 A.d2];rfl
   |false=>
    simp only[cond_false];unfold B8;cases decide (a.xN.toInt<b.xN.toInt)
    ·cases decide (a.xN.toInt>b.xN.toInt)<;>rfl
    ·rfl
theorem afX(N:Nat)(hN:9223372036854775808<N){op:Int}{t:aF}{a b:ax}(ht:c7 t=true)(ha:dD t a=true)(hb:dD t b=true)(ho:op=4\/op=5\/op=6\/op=7):
 Lj N op t a b=some (bif t.bk==2 then Ox op t a.xN.toInt b.xN.toInt else bif t.bk==3 then yf op a.xN.toInt b.xN.toInt else yx op a b):=by
 unfold Lj;rcases kinds ht with hk|hk|hk
 ·have A:=sM ha (by omega);have B:=sM hb (by omega);rw[hk];rcases ho with rfl|rfl|rfl|rfl
  ·show Option.bind (Cy N a b) _=_;rw[ah0 hN A B];rfl
  ·show Option.bind (Dr N a b) _=_;rw[afT hN A B];rfl
  ·show Option.bind (FF N a b) _=_;rw[ail hN A B];rfl
  ·show Option.bind (Db N a b) _=_;rw[amU hN A B];rfl
 ·have X:Fx N t a b:=⟨by omega,ht,hk,ha,hb⟩;rw[hk];rcases ho with rfl|rfl|rfl|rfl
  ·show Option.bind (BV N t a b) _=_;rw[ajT X];rfl
  ·show Option.bind (CR N t a b) _=_;rw[acg X];rfl
  ·show Option.bind (CE N t a b) _=_;rw[aht X];rfl
  ·show Option.bind (B7 N t a b) _=_;rw[adR X];rfl
 ·have A:=sM ha (by omega);have B:=sM hb (by omega);rw[hk];show Option.bind (Fk N op a.xN b.xN) _=_;rw[afS N op _ _ A.n1 A.n2 B.n1 B.n2 ho];rfl
theorem agE(N:Nat)(hN:2147483648<N){t:aF}{a:ax}(ht:c7 t=true)(ha:dD t a=true)(b:Int):I7 N t a=some (bif t.bk==2 then Ox 8 t a.xN.toInt b else bif t.bk==3 then yf 8 a.xN.toInt b else yx 8 a a):=by
 unfold I7;rcases kinds ht with hk|hk|hk
 ·rw[hk];rfl
 ·rw[hk];show Option.bind (Cn N t a) _=_;rw[alm ⟨hN,ht,hk,ha,ha⟩];rfl
 ·have A:=sM ha (by omega);have D:=adH ha hk;have e:(-a.xN).toInt= -a.xN.toInt:=Pl (by have:=A.n1;omega);rw[hk];unfold yf;rw[show((8:Int)==7&&b==0)=false from rfl,show((8:Int)==4)=false from rfl,show((8:Int)==5)=false from rfl,show((8:Int)==6)=false from rfl,show((8:Int)==7)=false from rfl,show((3:Int)==2)=false from rfl,show((3:Int)==3)=true from rfl];simp only[cond_false,cond_true];rw[anW (show-2147483647<=-a.xN.toInt by have:=A.n2;omega),anW (show-a.xN.toInt<=2147483647 by have:=A.n1;omega)];simp only[Bool.and_self,cond_true]
  congr 2
  exact ahJ (by rw[e];exact(ox (by have:=A.n2;omega) (by have:=A.n1;omega)).symm) D
theorem Y6(N:Nat)(hN:2147483648<N){t:aF}{a b:ax}(ht:c7 t=true)(op:Int):zB N t a b op true=some (bif op==9 then(bif decide (qg t a b>0)then b else a)else(bif decide (qg t a b<0)then b else a),0):=by
 unfold zB;rw[W9 N hN t a b ht];simp only[cond_true,anc];generalize qg t a b=c;cases h9:op==9 with
 |true=>
  by_cases hc:c>0
  ·rw[anW hc,bne_iff_ne.2 (show c≠0 by omega)];rfl
  ·rw[anX hc];rfl
 |false=>
  by_cases hc:c<0
  ·rw[anW hc,anX (show ¬c>0 by omega),bne_iff_ne.2 (show c≠0 by omega)];rfl
  ·rw[anX hc];by_cases h0:c>0
   ·rw[anW h0];rfl
   ·obtain rfl:c=0:=by omega
    rfl
theorem ake(a b c:ax):yx 8 a b=yx 8 a c:=by
 unfold yx;rw[show((8:Int)==4)=false from rfl,show((8:Int)==5)=false from rfl,show((8:Int)==6)=false from rfl,show((8:Int)==7)=false from rfl];simp only[cond_false]
theorem Pz(N:Nat)(hN:9223372036854775808<N)(op:Int)(t:aF)(a b:ax):wQ N op t a b=some (ot op t a b):=by
 have qp:2147483648<N:=Nat.lt_trans (by decide) hN;unfold wQ ot;rw[l5,anc,pE,anc];by_cases h4:op<4
 ·rw[anW h4];rfl
 by_cases bE:op<=10
 ·rw[anX h4,anX (show ¬op>10 by omega)];simp only[Bool.or_self,cond_false];cases ht:c7 t with
  |false=>rfl
  |true=>
   simp only[cond_true,Bool.not_true,cond_false,bne_self_eq_false];rw[qf N qp t a ht,qf N qp t b ht];cases ha:dD t a with
   |false=>rfl
   |true=>
    simp only[anc,cond_true,Bool.not_true,Bool.false_or];rw[zA,gy,anc];by_cases h8:op=8
    ·subst h8;rw[agE N qp ht ha b.xN.toInt,ake a a b];rfl
    ·rw[beq_false_of_ne h8];simp only[Bool.not_false,Bool.true_and,cond_false];cases hb:dD t b with
     |false=>rfl
     |true=>
      simp only[Bool.not_true,cond_false];by_cases h9:op=9
      ·subst h9;rw[show((9:Int)==9)=true from rfl,Y6 N qp ht];rfl
      ·rw[beq_false_of_ne h9];simp only[cond_false];by_cases J:op=10
       ·subst J;rw[show((10:Int)==10)=true from rfl,Y6 N qp ht];rfl
       ·rw[beq_false_of_ne J];unfold zB;simp only[cond_false];rw[afX N hN ht ha hb (by omega)];rfl
 ·rw[anW (show op>10 by omega),Bool.or_true];rfl
theorem agP(N:Nat)(hN:9223372036854775808<N){t:aF}{v:ax}(ht:c7 t=true)(hv:dD t v=true):F4 N t v=some (wA t v):=by
 unfold F4 wA;cases hk:t.bk==2 with
 |false=>rfl
 |true=>
  have gM:t.bk=2:=by simpa using hk
  have F:=mW ht gM;obtain⟨s1,s2,s3⟩:=Ki F.f1 F.f2;have vz:(Int64.ofInt ((1:Int)*2^(min (t.bS).toNat (IntKind.bits .i64)))).toInt=mN t:=s2;simp only[cond_true];unfold N8;rw[Xg N (by omega) ht gM (l:=[v]) (by intro x hx;simp only[anJ,anV,or_false]at hx;subst hx;exact hv),anW F.f1,E9 N hN,vz];rfl
theorem aik(N:Nat)(hN:2147483648<N){v:ax}(V:jz v):DP N v=some (Int64.ofInt (v.xN.toInt / v.xD.toInt)):=by
 unfold DP KJ;have hd:=V.d1;have t1:=Wv (a:=v.xN.toInt) (b:=v.xD.toInt);have t2:=aah (a:=v.xN.toInt) (show v.xD.toInt≠0 by omega);have n1:=V.n1;have n2:=V.n2;rw[oJ N hN,V.ok,bne_iff_ne.2 (show v.xD.toInt≠0 by omega),ox (by omega) (by omega)];simp only[anc,cond_true];have key:=UJ (n:=v.xN.toInt) (d:=v.xD.toInt) (by omega);have q2:(Int64.ofInt (v.xN.toInt.tdiv v.xD.toInt)).toInt=v.xN.toInt.tdiv v.xD.toInt:=ox (by omega) (by omega);cases hz:decide (v.xN.toInt.tmod v.xD.toInt<0)with
 |true=>
  rw[hz]at key;simp only[cond_true]at key ⊢;rw[<-key]
  congr 1
  refine Pb ?_;rw[Du]<;>rw[q2,show(1:Int64).toInt=1 from rfl]<;>omega
 |false=>
  rw[hz]at key;simp only[cond_false]at key ⊢;rw[<-key]
theorem ahs(N:Nat)(hN:2147483648<N){t:aF}{v:ax}(ht:c7 t=true)(hk:t.bk=2)(V:jz v):E4 N t v=some (nx t (j8 (v.xN.toInt*mN t) v.xD.toInt t.ct),0):=by
 have F:=mW ht hk;obtain⟨s1,s2,s3⟩:=Ki F.f1 F.f2;have n1:=V.n1;have n2:=V.n2;have d1:=V.d1;obtain⟨e,e1,e2⟩:=aaF (n:=v.xN) F.f1 F.f2 (by omega) (by omega);unfold E4 Nd Dg;rw[Za N ht hk,oJ N hN,V.ok,s1,mg,gy,anW F.r1,anW F.r2,anW F.f1,anX (show ¬t.bS<0 by have:=F.f1;omega),anX (show ¬t.bS>30 by have:=F.f2;omega)];simp only[anc,bne_self_eq_false,cond_false,cond_true,Bool.and_self,Bool.not_true];rw[Q4 N _ _ F.r1 F.r2 (by rw[e];omega) (by rw[e];omega),e,beq_false_of_ne (show v.xD.toInt≠0 by omega)];simp only[anc,cond_false,bne_self_eq_false];rw[yF N F,XF (by omega),Lb (by omega) e1 e2];rfl
theorem ad4(N:Nat)(hN:9223372036854775808<N)(t u:aF)(v:ax):Ky N t u v=some (JQ t u v):=by
 unfold Ky JQ;rw[pE,pE];cases ht:c7 t with
 |false=>rfl
 |true=>
  cases hu:c7 u with
  |false=>rfl
  |true=>
   simp only[anc,cond_true,bne_self_eq_false,cond_false,Bool.not_true,Bool.or_self];rw[qf N (by omega) t v ht];cases hv:dD t v with
   |false=>rfl
   |true=>
    simp only[anc,cond_true,Bool.not_true,cond_false];have V:=agZ ht hv;rw[agP N hN ht hv,anc];rcases kinds hu with hk|hk|hk
    ·rw[hk];rfl
    ·rw[hk];show Option.bind (E4 N u (wA t v)) _=_;rw[ahs N (by omega) hu hk V];rfl
    ·rw[hk];show Option.bind (DP N (wA t v)) _=_;rw[aik N (by omega) V];rfl
def w6(d:an3 Int):Bool:=decide (d.length<=6)&&(d.all (λn=>decide (1<=n))&&decide (d.foldl (·*·) 1<=4096))
theorem Yn{d:an3 Int}:d.all (λn=>decide (1<=n))=true↔∀n∈d,1<=n:=by rw[anF];simp
theorem F7(d:an3 Int)(a:Int):d.foldl (·*·) a=a*d.foldl (·*·) 1:=by
 induction d generalizing a with
 |nil=>simp
 |cons x d ih=>rw[List.foldl_cons,List.foldl_cons,ih (a*x),ih (1*x),Int.one_mul,Int.mul_assoc]
theorem DE{d:an3 Int}(h:∀n∈d,1<=n):1<=d.foldl (·*·) 1:=by
 induction d with
 |nil=>simp
 |cons x d ih=>
  rw[List.foldl_cons,Int.one_mul,F7];have J:=h x ank;have h2:=ih λn hn=>h n (ann _ hn);have:=Int.mul_le_mul J h2 (by decide) (by omega);omega
theorem vv{n:Int}(J: -9223372036854775808<=n)(h2:n<=9223372036854775807):aP n=n:=by unfold aP;rw[IntKind.wrap_i64];omega
theorem agq{s n:Int}(hs:1<=s)(wz:s<=4096):decide (n>IntKind.i64.wrap ((4096:Int).tdiv s))=decide (4096<s*n):=by
 have e:(4096:Int).tdiv s=4096 / s:=Int.tdiv_eq_ediv_of_nonneg (by decide);have J:0<=4096/ s:=Int.ediv_nonneg (by decide) (by omega);have h2:(4096:Int)/ s<=4096:=Int.ediv_le_self s (by decide);rw[e,show IntKind.i64.wrap ((4096:Int)/ s)=4096 / s from vv (by omega) (by omega)];refine decide_eq_decide.2 ?_;rw[gt_iff_lt,Int.ediv_lt_iff_lt_mul (by omega),Int.mul_comm]
theorem X4(N:Nat):∀(d:an3 Int)(k:Nat)(s:Int),1<=s->s<=4096->(∀n∈d,1<=n)->AH N d k s=some (bif decide (d.foldl (·*·) s<=4096)then 0 else 2)
 |[],k,s,J,h2,h=>by unfold AH;rw[List.foldl_nil,anW h2];rfl
 |n::d,k,s,J,h2,h=>by
  unfold AH;rw[show(s !=0)=true by rw[bne_iff_ne];omega,cond_true,agq J h2,List.foldl_cons];have hn:=h n ank;have hd:∀m∈d,1<=m:=λm hm=>h m (ann _ hm);have Ov:1<=s*n:=by have:=Int.mul_le_mul J hn (by decide) (by omega);omega
  by_cases hc:4096<s*n
  ·rw[anW hc,cond_true,anX]
   ·rfl
   ·rw[F7];have:=Int.mul_le_mul (Int.le_refl (s*n)) (DE hd) (by decide) (by omega);omega
  ·rw[anX hc,cond_false,vv (by omega) (by omega)];exact X4 N d (k+1) (s*n) Ov (by omega) hd
theorem YK(N:Nat)(v:an3 Int):∀(d:an3 Int)(k:Nat),(v=d\/True)->GC N v d k=bif d.all (λn=>decide (1<=n))then AH N v 0 1 else some 1
 |[],k,_=>rfl
 |n::d,k,_=>by
  unfold GC;rw[anZ,YK N v d (k+1) (.inr trivial)];by_cases h:n<1
  ·rw[anW h,anX (show ¬1<=n by omega)];rfl
  ·rw[anX h,anW (show 1<=n by omega)];rfl
theorem TF(N:Nat)(d:an3 Int):∃e,Dj N d=some e/\(e !=0)= !w6 d:=by
 unfold Dj w6;by_cases h:d.length<=6
 ·rw[anX (show ¬(d.length:Int)>6 by omega),cond_false,anW h,Bool.true_and,YK N d d 0 (.inr trivial)];cases ha:d.all (λn=>decide (1<=n))with
  |false=>exact⟨1,rfl,rfl⟩
  |true=>
   rw[cond_true,X4 N d 0 1 (by decide) (by decide) (Yn.1 ha),Bool.true_and];refine⟨_,rfl,?_⟩;cases decide (d.foldl (·*·) 1<=4096)<;>rfl
 ·rw[anW (show(d.length:Int)>6 by omega),anX h];exact⟨2,rfl,rfl⟩
theorem Wc(N:Nat):∀(d:an3 Int)(k:Nat)(s:Int),1<=s->(∀n∈d,1<=n)->d.foldl (·*·) s<=4096->I5 N d k s=some (d.foldl (·*·) s)
 |[],k,s,_,_,_=>rfl
 |n::d,k,s,J,h,hb=>by
  unfold I5;rw[List.foldl_cons]at hb ⊢;have hn:=h n ank;have hd:∀m∈d,1<=m:=λm hm=>h m (ann _ hm);have Ov:1<=s*n:=by have:=Int.mul_le_mul J hn (by decide) (by omega);omega
  have hle:s*n<=4096:=by
   rw[F7]at hb;have:=Int.mul_le_mul (Int.le_refl (s*n)) (DE hd) (by decide) (by omega);omega
  simp only;rw[vv (by omega) (by omega)];exact Wc N d (k+1) (s*n) Ov hd hb
structure VX(d:List Int):Prop where
 len:d.length<=6
 pos:∀n∈d,1<=n
 le:d.foldl (·*·) 1<=4096
theorem O7{d:an3 Int}(h:w6 d=true):VX d:=by
 unfold w6 at h;simp only[ang,decide_eq_true_eq]at h;exact⟨h.1,Yn.1 h.2.1,h.2.2⟩
theorem aiy(N:Nat){d:an3 Int}(h:w6 d=true):ID N d=some (d.foldl (·*·) 1):=by
 obtain⟨e,J,h2⟩:=TF N d;unfold ID;rw[J,anc,h2,h];exact Wc N d 0 1 (by decide) (O7 h).pos (O7 h).le
def kf(t:aR):Bool:=c7 t.aB&&(w6 t.aU&&(((t.dJ.length:Int)==t.aU.foldl (·*·) 1)&&t.dJ.all (dD t.aB)))
theorem Y1(N:Nat)(hN:2147483648<N)(t:aR)(ht:c7 t.aB=true):∀(l:an3 ax)(k:Nat),GO N t l k=some (bif l.all (dD t.aB)then 0 else 1)
 |[],k=>rfl
 |v::l,k=>by
  unfold GO;rw[qf N hN _ _ ht,anc,anZ];cases dD t.aB v with
  |true=>rw[cond_true,Y1 N hN t ht l (k+1),Bool.true_and]
  |false=>rfl
theorem TI(N:Nat)(hN:2147483648<N)(t:aR):∃e,DA N t=some e/\(e !=0)= !kf t:=by
 unfold DA kf;rw[pE,anc];cases ht:c7 t.aB with
 |false=>exact⟨10,rfl,rfl⟩
 |true=>
  rw[cond_true,show((0:Int) !=0)=false from rfl,cond_false,Bool.true_and];obtain⟨e,J,h2⟩:=TF N t.aU;rw[J,anc,h2];cases hs:w6 t.aU with
  |false=>
   refine⟨e,rfl,?_⟩;rw[h2,hs];rfl
  |true=>
   rw[Bool.not_true,cond_false,aiy N hs,anc,Bool.true_and];cases hl:((t.dJ.length:Int)==t.aU.foldl (·*·) 1)with
   |false=>
    refine⟨1,?_,rfl⟩;rw[show((t.dJ.length:Int) !=t.aU.foldl (·*·) 1)=true by unfold bne;rw[hl];rfl];rfl
   |true=>
    rw[show((t.dJ.length:Int) !=t.aU.foldl (·*·) 1)=false by unfold bne;rw[hl];rfl,cond_false,Y1 N hN t ht];refine⟨_,rfl,?_⟩;rw[Bool.true_and];cases t.dJ.all (dD t.aB)<;>rfl
def ib:an3 aJ->an4->an5 aR
 |[],_=>none
 |x::r,s=>bif bL x.au==bL s then some x.dY else ib r s
theorem Pq:∀{l:an3 aJ}{s:an4}{t:aR},ib l s=some t->∃x∈l,x.dY=t/\bL x.au=bL s
 |[],s,t,h=>by cases h
 |x::r,s,t,h=>by
  unfold ib at h;cases hb:(bL x.au==bL s)with
  |true=>rw[hb]at h;cases h;exact⟨x,ank,rfl,by simpa using hb⟩
  |false=>
   rw[hb]at h;obtain⟨y,J,h2⟩:=Pq (l:=r) h;exact⟨y,ann _ J,h2⟩
theorem YD(N:Nat)(s:an4):∀(l:an3 aJ)(k:Nat),(ib l s=none->Bq N s l k=some (-1))/\(∀t,ib l s=some t->∃i x,Bq N s l k=some ((k+i:Nat):Int)/\l[i]?=some x/\x.dY=t)
 |[],k=>⟨λ_=>rfl,λv h=>by cases h⟩
 |b::r,k=>by
  obtain⟨J,h2⟩:=YD N s r (k+1);unfold ib Bq LY;simp only[anc];cases hb:(bL b.au==bL s)with
  |true=>exact⟨λh=>(by cases h),λv h=>by cases h;exact⟨0,b,rfl,rfl,rfl⟩⟩
  |false=>
   simp only[cond_false];refine⟨J,λv h=> ?_⟩;obtain⟨i,c,q1,q2,q3⟩:=h2 v h;exact⟨i+1,c,by rw[q1];congr 2;omega,q2,q3⟩
theorem QV(N:Nat)(l:an3 aJ)(s:an4):uy N l s=some (match ib l s with|none=>(mE,false)|some t=>(t,true)):=by
 obtain⟨J,h2⟩:=YD N s l 0;unfold uy;rw[show Py N l s=Bq N s l 0 from rfl];cases hf:ib l s with
 |none=>rw[J hf];rfl
 |some t=>
  obtain⟨i,x,q1,q2,q3⟩:=h2 t hf;rw[q1,anc,anz,anX (by omega),cond_false,anW (by omega),cond_true,anG,q2,anc,q3]
def ji(mem:an3 aJ)(s:an4):Except Int aR:=match ib mem s with
 |none=> .error 9
 |some t=>bif kf t then .ok t else .error 1
def sQ(e:ar):Prop:=∀x∈dB e,oc x=true/\oh x=true
theorem sQ.arg{e x:ar}(h:sQ e)(hx:x∈e.bM):sQ x:=λy hy=>h y (E8 hx hy)
theorem sQ.len{e:ar}(h:sQ e):(e.bM.length:Int)=nm e.ay:=by
 have:=(h e ank).1;unfold oc at this;rw[ang,beq_iff_eq]at this;exact this.1
theorem sQ.op{e:ar}(h:sQ e):1<=e.ay/\e.ay<=18:=by
 have:=(h e ank).2;unfold oh at this;simp only[ang,decide_eq_true_eq]at this;exact⟨this.1,this.2.1⟩
theorem S5:∀l:an3 ar,lr l=0->∀x∈l,nf x=0
 |[],_,x,hx=>by cases hx
 |y::l,h,x,hx=>by
  rw[lr]at h;cases e:nf y !=0 with
  |true=>rw[e,cond_true]at h;rw[h]at e;cases e
  |false=>
   rw[e,cond_false]at h;rcases anJ.1 hx with rfl|hx
   ·exact jq e
   ·exact S5 l h x hx
theorem L5{e:ar}(h:mD e=0):∀x∈dB e,nf x=0:=λx hx=>by
 unfold mD at h;cases J:decide (40<jh 40 e)with
 |true=>rw[J]at h;cases h
 |false=>
  cases h2:decide (2000<(dB e).length)with
  |true=>rw[J,h2]at h;cases h
  |false=>rw[J,h2]at h;exact S5 (dB e) h x hx
theorem Mp{x:ar}(h:nf x=0):oh x=true/\se x=true/\oc x=true/\nQ x=true/\tB x=true:=by
 unfold nf at h;cases p:oh x<;>cases q:se x<;>cases r:oc x<;>cases s:nQ x<;>cases t:tB x<;>rw[p,q,r,s,t]at h<;>first|exact⟨rfl,rfl,rfl,rfl,rfl⟩|(exact absurd h (by decide))
theorem ak8{e:ar}(h:mD e=0):sQ e:=λx hx=>⟨(Mp (L5 h x hx)).2.2.1,(Mp (L5 h x hx)).1⟩
section
variable {α:Type}
theorem aiK{l:an3 α}(h:(l.length:Int)=1):∃a,l=[a]:=by
 match l,h with
 |[a],_=>exact⟨a,rfl⟩
 |[],h=>simp at h
 |a::b::l,h=>simp at h;omega
theorem alK{l:an3 α}(h:(l.length:Int)=2):∃a b,l=[a,b]:=by
 match l,h with
 |[a,b],_=>exact⟨a,b,rfl⟩
 |[],h=>simp at h
 |[a],h=>simp at h
 |a::b::c::l,h=>simp at h;omega
theorem akK{l:an3 α}(h:(l.length:Int)=3):∃a b c,l=[a,b,c]:=by
 match l,h with
 |[a,b,c],_=>exact⟨a,b,c,rfl⟩
 |[],h=>simp at h
 |[a],h=>simp at h
 |[a,b],h=>simp at h
 |a::b::c::d::l,h=>simp at h;omega
end
def vq(a b:an5 (aF×Int)):Prop:=∃t t' x,a=some (t,x)/\b=some (t',x)/\(x=0->t=t')
theorem XC{α:Type}(f:α->Int)(x:α):fQ f [x]=f x:=by
 rw[fQ,fQ];cases e:f x !=0 with
 |true=>rfl
 |false=>exact(jq e).symm
theorem agX{op:Int}(J:1<=op)(h2:op<=18):(op=1\/op=2\/op=3\/op=8\/op=11\/op=12)\/(op=4\/op=5\/op=6\/op=7\/op=9\/op=10)\/(op=13\/op=14\/op=15)\/(op=16\/op=17\/op=18):=by omega
section
variable {N:Nat} {m:an3 (an4×Int)} {vars:an3 an4} {p p':aV}
theorem aes(hV:VN m (vars++p'.bn))(hP:p.aW=p'.aW)(xA:p.aN=p'.aN)(Bh:lT p.aW)(oD:gO p.aN)(e:ar)(J:1<=e.ay)(h2:e.ay<=18)(acc:an3 aF)(hl:(acc.length:Int)=nm e.ay)
 (r1:ar->aV->an3 (an4×Int)->an5 (aF×Int)) (r2:aV->an3 an4->ar->an5 (aF×Int)) (k:Nat):
 vq (vr N e p m r1 [] k acc) (oK N e p' vars r2 [] k acc):=by
 rw[vr,oK];unfold Is Cg Fe BP;rcases agX J h2 with(h|h|h|h|h|h)|(h|h|h|h|h|h)|(h|h|h)|(h|h|h)
 ·rw[h];exact⟨_,_,_,rfl,rfl,λ_=>rfl⟩
 ·rw[h,Pn N hV,Qq,XC];exact⟨_,_,_,rfl,rfl,λ_=>rfl⟩
 ·rw[h,af7 N hV p Bh oD,ZM N vars p' (xA▸oD),hP,xA];exact⟨_,_,_,rfl,rfl,λ_=>rfl⟩
 ·rw[h]at hl;obtain⟨a,rfl⟩:=aiK hl;rw[h];exact⟨_,_,_,rfl,rfl,λ_=>rfl⟩
 ·rw[h]at hl;obtain⟨a,b,c,rfl⟩:=akK hl;rw[h];show vq (Option.bind (bif _ then _ else _) _) (bif _ then _ else _);cases ((b.bk==c.bk)&&((b.bX==c.bX)&&((b.bS==c.bS)&&((b.ct==c.ct)&&((b.cu==c.cu)&&true)))))with
  |true=>exact⟨_,_,_,rfl,rfl,λ_=>rfl⟩
  |false=>exact⟨_,_,_,rfl,rfl,λh=>by cases h⟩
 ·rw[h];exact⟨_,_,_,rfl,rfl,λ_=>rfl⟩
 all_goals first
  |(rw[h];exact⟨_,_,_,rfl,rfl,λ_=>rfl⟩)
  |(rw[h]at hl
    obtain⟨a,b,rfl⟩:=alK hl;rw[h];show vq (Option.bind (bif _ then _ else _) _) (bif _ then _ else _);cases ((a.bk==b.bk)&&((a.bX==b.bX)&&((a.bS==b.bS)&&((a.ct==b.ct)&&((a.cu==b.cu)&&true)))))with
    |true=>exact⟨_,_,_,rfl,rfl,λ_=>rfl⟩
    |false=>exact⟨_,_,_,rfl,rfl,λh=>by cases h⟩)
theorem aaW(e:ar)(r1:ar->aV->an3 (an4×Int)->an5 (aF×Int))(r2:aV->an3 an4->ar->an5 (aF×Int)):
 ∀(l:an3 ar)(k:Nat)(acc:an3 aF),acc.length+l.length<=1000000000->(∀x∈l,vq (r1 x p m) (r2 p' vars x))->
  (∀(nu:an3 aF)(k':Nat),nu.length=acc.length+l.length->vq (vr N e p m r1 [] k' nu) (oK N e p' vars r2 [] k' nu))->
  vq (vr N e p m r1 l k acc) (oK N e p' vars r2 l k acc)
 |[],k,acc,_,_,he=>he acc k rfl
 |x::l,k,acc,hb,hx,he=>by
  rw[vr,oK];obtain⟨t,t',z,e1,e2,e3⟩:=hx x ank;rw[e1,e2,anc,anc];dsimp only;cases hz:z !=0 with
  |true=>exact⟨_,_,_,rfl,rfl,λ_=>rfl⟩
  |false=>
   obtain rfl:=e3 (jq hz);simp only[anh]at hb;rw[fJ (by omega)];exact aaW e r1 r2 l (k+1) (acc++[t]) (by simp only[anf,anh,anq];omega) (λy hy=>hx y (ann _ hy)) λnu k' h'=>he nu k' (by simp only[anf,anh,anq]at*;omega)
theorem SK(hV:VN m (vars++p'.bn))(hP:p.aW=p'.aW)(xA:p.aN=p'.aN)(Bh:lT p.aW)(oD:gO p.aN):
 ∀(d:Nat)(e:ar),SizeOf.sizeOf e<d->sQ e->vq (xC N d e p m) (A4 N d p' vars e)
 |0,_,h,_=>absurd h (anH _)
 |d+1,e,h,hr=>by
  rw[xC,A4];have hlen:=hr.len;have h3:(e.bM.length:Int)<=3:=by
    rw[hlen];unfold nm;cases (e.ay==1||(e.ay==2||e.ay==3))<;>cases (e.ay==8||(e.ay==12||e.ay==18))<;>cases e.ay==11<;>decide
  refine aaW e _ _ e.bM 0 [] (by simp only[anq];omega) (λx hx=>SK hV hP xA Bh oD d x (by have:=nw hx;omega) (hr.arg hx)) λnu k' h'=> ?_;exact aes hV hP xA Bh oD e hr.op.1 hr.op.2 nu (by rw[h',<-hlen];simp only[anq,anz]) _ _ k'
end
theorem ajU{m:an3 (an4×Int)}{V W:an3 an4}(h:VN m V)(e:∀s,cH W s=cH V s)(hl:V.length<=W.length):VN m W:=⟨λs=>by rw[h.val,e],anw h.len hl⟩
theorem V8(N:Nat)(e:ar)(p:aV):∀(l:an3 an4)(k:Nat)(m:an3 (an4×Int))(V:an3 an4),VN m V->V.length+l.length<1000000000->∃m' k',VN m' (V++l)/\vy N e p l k m=vy N e p [] k' m'
 |[],k,m,V,h,_=>⟨m,k,by rw[anA];exact h,rfl⟩
 |s::l,k,m,V,h,hb=>by
  simp only[anh]at hb;rw[vy,show Nat.blt m.length 9223372036854775807=true from Nat.ble_eq_true_of_le (by have:=h.len;omega),cond_true];obtain⟨m',k',J,h2⟩:=V8 N e p l (k+1) _ _ (h.add s 3 rfl) (by simp only[anf,anh,anq];omega);exact⟨m',k',by rw[anv]at J;exact J,h2⟩
theorem Yk(N:Nat)(e:ar)(p:aV)(vars:an3 an4):∀(l:an3 an4)(k:Nat)(m:an3 (an4×Int))(V:an3 an4),VN m V->V.length+l.length<1000000000->∃m',VN m' (V++l)/\KZ N e p vars l k m=vy N e p vars 0 m'
 |[],k,m,V,h,_=>⟨m,by rw[anA];exact h,rfl⟩
 |s::l,k,m,V,h,hb=>by
  simp only[anh]at hb;rw[KZ,show Nat.blt m.length 9223372036854775807=true from Nat.ble_eq_true_of_le (by have:=h.len;omega),cond_true];obtain⟨m',J,h2⟩:=Yk N e p vars l (k+1) _ _ (h.add s 1 rfl) (by simp only[anf,anh,anq];omega);exact⟨m',by rw[anv]at J;exact J,h2⟩
theorem ala(N:Nat)(hN:2147483648<N)(p p':aV)(vars:an3 an4)(e:ar)(hs:SizeOf.sizeOf e<N)(h:na e)(hS:p.bn=p'.bn)(hP:p.aW=p'.aW)(xA:p.aN=p'.aN)(Bh:lT p.aW)(oD:gO p.aN)
 (hl:p.bn.length+vars.length<1000000000):∃t x,GS N p vars e=some (t,x)/\xB N p' vars e=some (t,x)/\(x=0->mD e=0):=by
 unfold GS xB;rw[akc N hN e h,Z2 N hN e hs h,anc,anc];cases hv:mD e !=0 with
 |true=>exact⟨_,_,rfl,rfl,λh0=>h0⟩
 |false=>
  have hv:=jq hv;simp only[cond_false];rw[Vu,JS,anc,anc];cases eB e with
  |true=>exact⟨_,_,rfl,rfl,λh0=>by cases h0⟩
  |false=>
   simp only[cond_false];obtain⟨m1,J,e1⟩:=Yk N e p vars p.bn 0 [] [] ⟨λ_=>rfl,anp _⟩ (by simp only[anq];omega);obtain⟨m2,k2,h2,e2⟩:=V8 N e p vars 0 m1 _ J (by simp only[anq,List.nil_append];omega);rw[e1,e2,vy];have hV:VN m2 (vars++p'.bn):=ajU h2 (λs=>by rw[List.nil_append,lv,lv,hS,Bool.or_comm]) (by rw[hS];simp only[anf,List.nil_append];omega);unfold Ow La;obtain⟨t,t',x,a1,a2,a3⟩:=SK (N:=N) hV hP xA Bh oD N e hs (ak8 hv);rw[a1,a2,anc,anc];dsimp only;cases hx:x !=0 with
   |true=>exact⟨_,_,rfl,rfl,λ_=>hv⟩
   |false=>obtain rfl:=a3 (jq hx);exact⟨_,_,rfl,rfl,λ_=>hv⟩
theorem O9{y:ar}:∀{l:an3 ar},y∈mw l->∃x∈l,y∈dB x
 |[],h=>by rw[mw]at h;cases h
 |x::l,h=>by
  rw[BG]at h;rcases anR.1 h with h|h
  ·exact⟨x,ank,h⟩
  ·obtain⟨z,J,h2⟩:=O9 h;exact⟨z,ann _ J,h2⟩
theorem ae1{t t':aF}{x:Int}(h:wj t x=(t',0)):x=0:=congrArg Prod.snd h
theorem aaM(N:Nat)(e:ar)(p:aV)(vars:an3 an4)(rec:aV->an3 an4->ar->an5 (aF×Int)):
 ∀(l:an3 ar)(k:Nat)(acc:an3 aF)(t:aF),oK N e p vars rec l k acc=some (t,0)->
  (∀x∈l,∃t',rec p vars x=some (t',0))/\∃k' nu,oK N e p vars rec [] k' nu=some (t,0)
 |[],k,acc,t,h=>⟨λ_ hx=>(by cases hx),k,acc,h⟩
 |x::l,k,acc,t,h=>by
  rw[oK]at h;cases hr:rec p vars x with
  |none=>rw[hr]at h;cases h
  |some q=>
   rw[hr,anc]at h;cases hz:q.2 !=0 with
   |true=>rw[hz,cond_true]at h;rw[(Prod.mk.inj (anx h)).2]at hz;cases hz
   |false=>
    rw[hz,cond_false]at h;cases hb:Nat.ble ((acc.length+1)*40) 140737488355328 with
    |false=>rw[hb]at h;cases h
    |true=>
     rw[hb,cond_true]at h;obtain⟨J,h2⟩:=aaM N e p vars rec l (k+1) (acc++[q.1]) t h;refine⟨λy hy=> ?_,h2⟩;rcases anJ.1 hy with rfl|hy
     ·exact⟨q.1,by rw[hr,<-jq hz]⟩
     ·exact J y hy
theorem TG(N:Nat)(p:aV)(vars:an3 an4)(oD:gO p.aN):∀(d:Nat)(e:ar)(t:aF),A4 N d p vars e=some (t,0)->∀y∈dB e,(y.ay=3->xk (vars++p.bn) p.aW p.aN y=0)/\(y.ay=2->nS (vars++p.bn) y.bq=0)
 |0,e,t,h=>by cases h
 |d+1,e,t,h=>by
  rw[A4]at h;obtain⟨J,k',nu,h2⟩:=aaM N e p vars _ _ _ _ _ h;intro y hy;rcases anJ.1 hy with rfl|hy
  ·refine⟨λgV=> ?_,λgV=> ?_⟩
   ·rw[oK,gV,ZM N vars p oD]at h2;exact ae1 (anx h2)
   ·rw[oK,gV,Qq,XC]at h2;have h3:=congrArg Prod.snd (anx h2);exact h3
  ·obtain⟨x,hx,hy⟩:=O9 hy;obtain⟨t',h3⟩:=J x hx;exact TG N p vars oD d x t' h3 y hy
theorem aiQ(N:Nat)(p:aV)(vars:an3 an4)(oD:gO p.aN)(e:ar)(t:aF)(h:xB N p vars e=some (t,0)):∀y∈dB e,(y.ay=3->xk (vars++p.bn) p.aW p.aN y=0)/\(y.ay=2->nS (vars++p.bn) y.bq=0):=by
 unfold xB at h;cases e1:IN N e with
 |none=>rw[e1]at h;cases h
 |some a=>
  rw[e1,anc]at h;cases J:a !=0 with
  |true=>rw[J,cond_true]at h;rw[(Prod.mk.inj (anx h)).2]at J;cases J
  |false=>
   rw[J,cond_false,JS,anc]at h;cases h2:eB e with
   |true=>rw[h2]at h;cases h
   |false=>
    rw[h2,cond_false]at h;cases e3:La N p vars e with
    |none=>rw[e3]at h;cases h
    |some q=>
     rw[e3,anc]at h;cases h4:q.2 !=0 with
     |true=>rw[h4,cond_true]at h;rw[(Prod.mk.inj (anx h)).2]at h4;cases h4
     |false=>exact TG N p vars oD N e q.1 (by unfold La at e3;rw[e3,<-jq h4])
structure Bd(N:Nat)(p:aV):Prop where
 s:p.bn.length<=1000
 w:p.dS.length<=1000
 q:p.aW.length<=1000
 d:p.aN.length<=1000
 o:p.du.length<=1000
 P:lT p.aW
 D:gO p.aN
 W:∀c∈p.dS,lQ 1000000000 c.bq
 E:∀d∈p.aN,na d.bO/\SizeOf.sizeOf d.bO<N
def RP(d:bx):an3 an4:=(d.aU++d.bV).map (·.au)
structure pV(p:aV)(k:Nat)(d:bx):Prop where
 par:cH (p.aW.map (·.au)) d.au=false
 body:mD d.bO=0
 ajW:qY p.bn [] (d.aU++d.bV)=0
 reads:∀y∈dB d.bO,y.ay=3->xk (RP d++p.bn) p.aW (p.aN.take k) y=0
 AE:∀y∈dB d.bO,y.ay=2->nS (RP d++p.bn) y.bq=0
 len:d.aU.length<=6/\d.bV.length<=6
 acZ:cH ((p.aN.take k).map (·.au)) d.au=false
theorem WV{D:an3 bx}(h:gO D)(k:Nat):gO (D.take k):=⟨λd hd=>h.len d (List.mem_of_mem_take hd),λd hd=>h.kg d (List.mem_of_mem_take hd)⟩
section
variable {N:Nat} {p:aV}
theorem aeO(hN:2147483648<N)(B:Bd N p){m:an3 (an4×Int)}{T:an3 an4}{k:Nat}{d:bx}(h:KN m p.bn T)(hd:p.aN[k]?=some d)(hT:T.length<=1000000)(hq:∀s,cH (p.aW.map (·.au)++(p.aN.take k).map (·.au)) s=true->cH T s=true):
 ∃x m',HU N (k:Int) p m=some (x,m')/\vL N p (k:Int) (p.bn++T)=some x/\(x=0->KN m' p.bn (T++[d.au])/\pV p k d):=by
 have jI:=HR hd;have ana:=B.D.len d jI;have hlen:d.aU.length+d.bV.length<1000000000:=by omega
 have Yz:∀x∈d.aU++d.bV,jR x.dH:=λx hx=>(B.D.kg d jI x hx).ok;have hs:=B.s;unfold HU vL;rw[show decide ((0:Int)<=(k:Int))=true from anW (by omega),anG,hd,cond_true,cond_true,anc,anc,
  Pr N (by omega) _ 2 p h (by omega),zW N (by omega),anc,anc,alx,HY,anc,anc,vO,vO]
 dsimp only;cases e:iE (p.bn++T) d.au !=0 with
 |true=>exact⟨_,_,rfl,rfl,λh0=>by rw[h0]at e;cases e⟩
 |false=>
  have e0:=jq e;have k1:=h.Y8 (L2 e0).2;rw[e0];simp only[cond_false,anY,cond_true];cases c7 d.aB with
  |false=>exact⟨_,_,rfl,rfl,λh0=>by cases h0⟩
  |true=>
   simp only[cond_true];rw[show(bif !decide (d.aU.length<=6)then some true else some !decide (d.bV.length<=6))=some (!(decide (d.aU.length<=6)&&decide (d.bV.length<=6))) by cases decide (d.aU.length<=6)<;>cases decide (d.bV.length<=6)<;>rfl,anc];cases e6:decide (d.aU.length<=6)&&decide (d.bV.length<=6)with
   |false=>exact⟨_,_,rfl,rfl,λh0=>by cases h0⟩
   |true=>
    rw[ang,decide_eq_true_eq,decide_eq_true_eq]at e6;simp only[cond_true,Bool.not_true,cond_false];rw[fJ (by omega),fJ (by omega),adC N (by omega) d p k1 Yz hlen,ZB N (by omega) _ _ Yz (by simp only[anf];omega)];simp only[anc,cond_true,bne_self_eq_false,cond_false];cases ea:qY p.bn [] (d.aU++d.bV) !=0 with
    |true=>exact⟨_,_,rfl,rfl,λh0=>by rw[h0]at ea;cases ea⟩
    |false=>
     simp only[cond_false];rw[akA,Vh,anc,anc];cases ef:uF d !=0 with
     |true=>exact⟨_,_,rfl,rfl,λh0=>by rw[h0]at ef;cases ef⟩
     |false=>
      simp only[cond_false];have hk:k<p.aN.length:=by
       by_cases hk:k<p.aN.length
       ·exact hk
       ·rw[anL (by omega)]at hd;cases hd
      rw[show decide (k<=p.aN.length)=true from anW (by omega),cond_true,cond_true,aeE N d hlen,SN N d hlen,anc,anc,anO];obtain⟨t,x,a1,a2,a3⟩:=ala N hN ⟨p.bn,p.dS,p.aW,p.aN.take k,p.du⟩ ⟨p.bn,[],p.aW,p.aN.take k,[]⟩ ((d.aU++d.bV).map (·.au)) d.bO (B.E d jI).2 (B.E d jI).1 rfl rfl rfl B.P (WV B.D k)
        (by simp only[anj,anf];omega)
      rw[a1,a2,anc,anc];dsimp only;cases ex:x !=0 with
      |true=>exact⟨_,_,rfl,rfl,λh0=>by rw[h0]at ex;cases ex⟩
      |false=>
       have x0:=jq ex;simp only[cond_false];cases ((t.bk==d.aB.bk)&&((t.bX==d.aB.bX)&&((t.bS==d.aB.bS)&&((t.ct==d.aB.ct)&&((t.cu==d.aB.cu)&&true)))))with
       |false=>exact⟨_,_,rfl,rfl,λh0=>by cases h0⟩
       |true=>
        have fk:cH (p.aW.map (·.au)++(p.aN.take k).map (·.au)) d.au=false:=by
         cases eq:cH (p.aW.map (·.au)++(p.aN.take k).map (·.au)) d.au with
         |false=>rfl
         |true=>
          have:=(L2 e0).2;rw[lv,hq _ eq,Bool.or_true]at this;cases this
        rw[lv,an2]at fk;rw[x0]at a2;have tr:=aiQ N _ _ (WV B.D k) d.bO t a2;exact⟨_,_,rfl,rfl,λ_=>⟨k1,fk.1,a3 x0,jq ea,λy hy=>(tr y hy).1,λy hy=>(tr y hy).2,e6,fk.2⟩⟩
def wo(p:aV):Bool:=decide (p.bn.length<=64)&&(decide (p.aW.length<=64)&&(decide (p.aN.length<=64)&&(decide (p.du.length<=64)&&decide (p.dS.length<=256))))
theorem abi:Kj N p=some (wo p):=by
 unfold Kj wo;simp only[FP];rw[show decide (((max (max (max p.bn.length p.aW.length) p.aN.length) p.du.length:Nat):Int)<=64)=decide (max (max (max p.bn.length p.aW.length) p.aN.length) p.du.length<=64)from vi _ 64,show decide ((p.dS.length:Int)<=256)=decide (p.dS.length<=256)from vi _ 256];rw[show decide (max (max (max p.bn.length p.aW.length) p.aN.length) p.du.length<=64)=(decide (p.bn.length<=64)&&(decide (p.aW.length<=64)&&(decide (p.aN.length<=64)&&decide (p.du.length<=64)))) by
  rw[Bool.eq_iff_iff];simp only[ang,decide_eq_true_iff];omega]
 cases decide (p.bn.length<=64)<;>cases decide (p.aW.length<=64)<;>cases decide (p.aN.length<=64)<;>cases decide (p.du.length<=64)<;>rfl
theorem OP:(bif (decide ((p.bn.length:Int)>64))then some true else(bif (decide ((p.aW.length:Int)>64))then some true else(bif (decide ((p.aN.length:Int)>64))then some true else(bif (decide ((p.du.length:Int)>64))then some true else some (decide ((p.dS.length:Int)>256))))))=some (!wo p):=by
 unfold wo;rw[show ∀n:Nat,decide ((n:Int)>64)= !decide (n<=64)from λn=>kN n 64];rw[show decide ((p.aW.length:Int)>64)= !decide (p.aW.length<=64)from kN _ 64,show decide ((p.aN.length:Int)>64)= !decide (p.aN.length<=64)from kN _ 64,show decide ((p.du.length:Int)>64)= !decide (p.du.length<=64)from kN _ 64,show decide ((p.dS.length:Int)>256)= !decide (p.dS.length<=256)from kN _ 256];cases decide (p.bn.length<=64)<;>cases decide (p.aW.length<=64)<;>cases decide (p.aN.length<=64)<;>cases decide (p.du.length<=64)<;>rfl
def qU:an3 an4->an3 an4->Int
 |_,[]=>0
 |S,s::l=>bif iE S s !=0 then iE S s else qU (S++[s]) l
theorem NV(hN:16<N):∀(l:an3 an4)(k:Nat)(m:an3 (an4×Int))(S:an3 an4),KN m S []->S.length+l.length<=1000->
 ∃m',KN m' (S++l) []/\Gw N p l k m=bif qU S l !=0 then some (0,qU S l)else Eg N p m' p.dS 0
 |[],k,m,S,h,_=>⟨m,by rw[anA];exact h,rfl⟩
 |s::l,k,m,S,h,hb=>by
  simp only[anh]at hb;rw[Gw,Pr N hN s 1 p h (by simp only[anq];omega),anc,anA,qU];dsimp only;cases e:iE S s !=0 with
  |true=>
   obtain⟨m',J,_⟩:=NV hN l k _ _ (h.o8 s) (by simp only[anf,anh,anq];omega);refine⟨m',by rw[anv]at J;exact J,?_⟩;simp only[cond_true];rw[e];rfl
  |false=>
   rw[jq e];obtain⟨m',J,h2⟩:=NV hN l (k+1) _ _ (h.o8 s) (by simp only[anf,anh,anq];omega);exact⟨m',by rw[anv]at J;exact J,h2⟩
theorem RM{α:Type}{L l:an3 α}{x:α}{k:Nat}(h:L.drop k=x::l):L.take (k+1)=L.take k++[x]:=by
 have:=cE h;rw[List.take_add_one,this];rfl
theorem uz{α:Type}{L l:an3 α}{x:α}{k:Nat}(h:L.drop k=x::l):L.drop (k+1)=l:=by
 rw[<-List.drop_drop,h];rfl
theorem Tp{α:Type}{L l:an3 α}{x:α}{k:Nat}(h:L.drop k=x::l):k<L.length:=by
 by_cases hk:k<L.length
 ·exact hk
 ·rw[List.drop_eq_nil_of_le (by omega)]at h;cases h
theorem IT(hN:16<N):∀(l:an3 an4)(k:Nat),p.bn.drop k=l->Kq N p l k=some (qU (p.bn.take k) l)
 |[],_,_=>rfl
 |s::l,k,h=>by
  rw[Kq,anG,show decide (k<=p.bn.length)=true from anW (by have:=Tp h;omega),cond_true,anO,zW N hN,anc,qU,IT hN l (k+1) (uz h),RM h];cases iE (p.bn.take k) s !=0<;>rfl
theorem UU(hN:16<N){m:an3 (an4×Int)}(h:KN m p.bn []):∀(l:an3 gL)(k:Nat),(∀c∈l,lQ 1000000000 c.bq)->
 Eg N p m l k=bif fQ (λc=>iu p.bn c.bq) l !=0 then some (1,fQ (λc=>iu p.bn c.bq) l)else AT N p p.aW 0 2 m
 |[],_,_=>rfl
 |c::l,k,hc=>by
  have ok:jR c.bq:=(hc c ank).ok;have e1:IA N c p m=some (iu p.bn c.bq):=by
   unfold IA PC;rw[Hv N hN _ ok,anc,anc,Rl N hN _ p ok h];unfold iu;cases iB c.bq<;>rfl
  rw[Eg,e1,anc,fQ,UU hN h l (k+1) λy hy=>hc y (ann _ hy)];cases e:iu p.bn c.bq !=0 with
  |true=>simp only[cond_true];rw[e];rfl
  |false=>rfl
theorem I9(hN:16<N)(hs:p.bn.length<=1000):∀(l:an3 gL)(k:Nat),(∀c∈l,lQ 1000000000 c.bq)->
 CB N p l k=bif fQ (λc=>iu p.bn c.bq) l !=0 then some (1,fQ (λc=>iu p.bn c.bq) l)else sZ N p p.aW 0 p.bn 2
 |[],_,_=>by
  rw[CB,fJ (by omega)];rfl
 |c::l,k,hc=>by
  rw[CB,QG N hN _ (hc c ank).ok,anc,fQ,I9 hN hs l (k+1) λy hy=>hc y (ann _ hy)];cases e:iu p.bn c.bq !=0 with
  |true=>simp only[cond_true];rw[e];rfl
  |false=>rfl
theorem ZN(hN:16<N)(hs:p.bn.length<=1000):∀(l:an3 eH)(k:Nat)(at_:Int)(m:an3 (an4×Int))(T:an3 an4),KN m p.bn T->lT l->T.length+l.length<=1000->
 (∃a x,x≠0/\AT N p l k at_ m=some (a,x)/\sZ N p l k (p.bn++T) at_=some (a,x))\/
 ∃at' m',KN m' p.bn (T++l.map (·.au))/\AT N p l k at_ m=zi N p p.aN 0 at' m'/\sZ N p l k (p.bn++T) at_=om N p p.aN 0 (p.bn++(T++l.map (·.au))) at'
 |[],k,at_,m,T,h,_,_=> .inr ⟨at_,m,by rw[List.map_nil,anA];exact h,rfl,by rw[List.map_nil,anA];rfl⟩
 |x::l,k,at_,m,T,h,hl,hb=>by
  simp only[anh]at hb;obtain⟨m1,e1,e2⟩:=afx N hN x p (λy hy=>(hl.kg x ank y hy).ok) h (by omega);rw[AT,sZ,e1,V0 N hN x p.bn T (λy hy=>(hl.kg x ank y hy).ok),anc,anc];dsimp only;cases e:uG p.bn T x !=0 with
  |true=>exact .inl ⟨_,_,λh0=>(by rw[h0]at e;cases e),rfl,rfl⟩
  |false=>
   simp only[cond_false];rw[fJ (by simp only[anf];omega),cond_true,anv];have:=ZN hN hs l (k+1) (aP (at_+1)) m1 (T++[x.au]) (e2 (jq e)) ⟨λy hy=>hl.len y (ann _ hy),λy hy=>hl.kg y (ann _ hy)⟩ (by simp only[anf,anh,anq];omega);rw[anv]at this;exact this
theorem YV(hN:2147483648<N)(B:Bd N p):∀(l:an3 bx)(k:Nat)(at_:Int)(m:an3 (an4×Int))(T:an3 an4),p.aN.drop k=l->KN m p.bn T->(∀s,cH (p.aW.map (·.au)++(p.aN.take k).map (·.au)) s=true->cH T s=true)->T.length+l.length<=10000->
 (∃a x,x≠0/\zi N p l k at_ m=some (a,x)/\om N p l k (p.bn++T) at_=some (a,x))\/
 ((∀i d,k<=i->p.aN[i]?=some d->pV p i d)/\∃at' m',KN m' p.bn (T++l.map (·.au))/\zi N p l k at_ m=EX N m' p p.du 0 at'/\om N p l k (p.bn++T) at_=qa N p p.du 0 at')
 |[],k,at_,m,T,hd,h,_,_=>by
  refine .inr ⟨λi d hi hx=> ?_,at_,m,by rw[List.map_nil,anA];exact h,rfl,rfl⟩
  ·have:p.aN.length<=k:=by
    by_cases hk:p.aN.length<=k
    ·exact hk
    ·have:=congrArg List.length hd;simp at this;omega
   rw[anL (by omega)]at hx;cases hx
 |d::l,k,at_,m,T,hd,h,hq,hb=>by
  simp only[anh]at hb;have hs:=B.s;obtain⟨x,m1,e1,e2,e3⟩:=aeO hN B h (cE hd) (by omega) hq;rw[zi,om,e1,e2,anc,anc];dsimp only;cases e:x !=0 with
  |true=>exact .inl ⟨_,_,λh0=>(by rw[h0]at e;cases e),rfl,rfl⟩
  |false=>
   obtain⟨k1,g1⟩:=e3 (jq e);simp only[cond_false];rw[fJ (by simp only[anf];omega),cond_true,anv];have:=YV hN B l (k+1) (aP (at_+1)) m1 (T++[d.au]) (uz hd) k1 (λs hs=>by
    rw[RM hd,List.map_append,<-anv,lv]at hs;rw[lv];rcases Bool.or_eq_true _ _▸hs with hs|hs
    ·rw[hq s hs];rfl
    ·rw[show cH [d.au] s=true from hs,Bool.or_true]) (by simp only[anf,anh,anq];omega)
   rw[anv]at this;rcases this with this|⟨g,this⟩
   ·exact .inl this
   ·refine .inr ⟨λi d' hi hx=> ?_,this⟩;by_cases ny:i=k
    ·subst ny;rw[cE hd]at hx;cases hx;exact g1
    ·exact g i d' (by omega) hx
theorem DT{α:Type}(f:α->an4)(s:an4):∀l:an3 α,cH (l.map f) s=(l.find? λx=>bL (f x)==bL s).isSome
 |[]=>rfl
 |x::l=>by
  rw[anE,List.find?_cons,show cH (f x::l.map f) s=(bL (f x)==bL s||cH (l.map f) s)from an0,DT f s l];cases bL (f x)==bL s<;>rfl
theorem M0(P:an3 eH)(D:an3 bx)(s:an4):(dI P D s).2.2=cH (P.map (·.au)++D.map (·.au)) s:=by
 unfold dI;rw[lv,DT,DT];show _=(_||(D.find? (lg s)).isSome);cases P.find? λx=>bL x.au==bL s with
 |some x=>rfl
 |none=>cases D.find? (lg s)<;>rfl
theorem V4(hD:gO p.aN){m:an3 (an4×Int)}(h:KN m p.bn (p.aW.map (·.au)++p.aN.map (·.au))):∀(l:an3 an4)(k:Nat)(at_:Int),p.du.drop k=l->
 ∃a x,EX N m p l k at_=some (a,x)/\qa N p l k at_=some (a,x)
 |[],_,_,_=>⟨_,_,rfl,rfl⟩
 |s::l,k,at_,hd=>by
  rw[EX,qa,h.ne2,Ch N p s hD,anc,M0,anG,show decide (k<=p.du.length)=true from anW (by have:=Tp hd;omega),anO,aiG,AI,anc,anc];cases cH (p.aW.map (·.au)++p.aN.map (·.au)) s with
  |false=>exact⟨_,_,rfl,rfl⟩
  |true=>
   cases cH (p.du.take k) s with
   |true=>exact⟨_,_,rfl,rfl⟩
   |false=>exact V4 hD h l (k+1) (aP (at_+1)) (uz hd)
theorem ae8(hN:2147483648<N)(B:Bd N p):∃a x,Hf N p=some (a,x)/\x8 N p=some (a,x)/\(x=0->∀i d,p.aN[i]?=some d->pV p i d):=by
 have hs:=B.s;have hq:=B.q;have hd:=B.d;unfold Hf x8 H5;rw[abi,OP,anc,anc];cases wo p with
 |false=>exact⟨_,_,rfl,rfl,λh=>by cases h⟩
 |true=>
  simp only[cond_true,Bool.not_true,cond_false];obtain⟨m1,k1,e1⟩:=NV (N:=N) (p:=p) (by omega) p.bn 0 [] [] KN.nil (by simp only[anq];omega);rw[List.nil_append]at k1;rw[e1,IT (by omega) p.bn 0 rfl,anc,List.take_zero];cases ez:qU [] p.bn !=0 with
  |true=>exact⟨_,_,rfl,rfl,λh0=>by rw[h0]at ez;cases ez⟩
  |false=>
   simp only[cond_false];rw[UU (by omega) k1 _ _ B.W,I9 (by omega) hs _ _ B.W];cases ew:fQ (λc=>iu p.bn c.bq) p.dS !=0 with
   |true=>exact⟨_,_,rfl,rfl,λh0=>by rw[h0]at ew;cases ew⟩
   |false=>
    simp only[cond_false];have pb:=ZN (N:=N) (p:=p) (by omega) hs p.aW 0 2 m1 [] k1 B.P (by simp only[anq];omega);rw[anA,List.nil_append]at pb;rcases pb with⟨a,x,hx,e1,e2⟩|⟨at',m2,k2,e1,e2⟩
    ·exact⟨a,x,e1,e2,λh0=>absurd h0 hx⟩
    ·rw[e1,e2];rcases YV hN B p.aN 0 at' m2 _ rfl k2 (λs h=>by rw[List.take_zero,List.map_nil,anA]at h;exact h) (by simp only[anj];omega)with⟨a,x,hx,e1,e2⟩|⟨g,Fb,m3,k3,e1,e2⟩
     ·exact⟨a,x,e1,e2,λh0=>absurd h0 hx⟩
     ·rw[e1,e2];obtain⟨a,x,e1,e2⟩:=V4 (N:=N) B.D k3 p.du 0 Fb rfl;exact⟨a,x,e1,e2,λ_ i d h=>g i d (Nat.zero_le _) h⟩
end
theorem Xq:∀{l:an3 aJ}{s s':an4},bL s=bL s'->ib l s=ib l s'
 |[],_,_,_=>rfl
 |x::r,s,s',h=>by unfold ib;rw[h,Xq (l:=r) h]
structure CK(mem:List aJ)(kv:List (ByteArray×aR)):Prop where
 ok:∀p∈kv,ib mem p.1=some p.2/\kf p.2=true
 nd:(kv.map λp=>bL p.1).Nodup
theorem CK.nil(mem:an3 aJ):CK mem []:=⟨λp h=>(by cases h),by simp⟩
theorem aar{α:Type}:∀{l m:an3 α},l.Nodup->(∀x∈l,x∈m)->l.length<=m.length
 |[],m,_,_=>Nat.zero_le _
 |x::l,m,h,hs=>by
  have hx:=hs x ank;obtain⟨a,b,rfl⟩:=List.append_of_mem hx;rw[List.nodup_cons]at h;have:=aar (l:=l) (m:=a++b) h.2 λy hy=>by
   have J:=hs y (ann _ hy);rw[anR,anJ]at J;rw[anR];rcases J with J|rfl|J
   ·exact .inl J
   ·exact absurd hy h.1
   ·exact .inr J
  simp only[anf,anh]at this ⊢;omega
theorem CK.len{mem:an3 aJ}{kv:an3 (an4×aR)}(h:CK mem kv):kv.length<=mem.length:=by
 have:=aar h.nd (m:=mem.map λx=>bL x.au) λy hy=>by
  obtain⟨p,hp,rfl⟩:=List.mem_map.1 hy;obtain⟨x,hx,_,e⟩:=Pq (h.ok p hp).1;exact List.mem_map.2 ⟨x,hx,e⟩
 simpa using this
theorem Sb{mem:an3 aJ}{s:an4}{d:aR}:∀{kv:an3 (an4×aR)},(∀p∈kv,ib mem p.1=some p.2/\kf p.2=true)->lR kv s=true->ib mem s=some (ga kv s d)/\kf (ga kv s d)=true
 |[],_,h=>by cases h
 |(k,t)::kv,hk,h=>by
  unfold lR at h;unfold ga;cases hb:(bL k==bL s)with
  |true=>
   rw[cond_true];have:=hk (k,t) ank;rw[beq_iff_eq]at hb;rw[<-Xq hb];exact this
  |false=>
   rw[hb]at h;simp only[cond_false,Bool.false_or]at h ⊢;exact Sb (λp hp=>hk p (ann _ hp)) h
theorem Uv{s:an4}:∀{kv:an3 (an4×aR)},lR kv s=false->bL s ∉ kv.map λp=>bL p.1
 |[],_,h=>by cases h
 |(k,t)::kv,hn,h=>by
  unfold lR at hn;rw[anE,anJ]at h;cases hb:(bL k==bL s)with
  |true=>rw[hb]at hn;simp at hn
  |false=>
   rw[hb]at hn;simp only[cond_false,Bool.false_or]at hn;rcases h with h|h
   ·rw[h]at hb;simp at hb
   ·exact Uv hn h
def m9{α β:Type}(r:Except Int α)(er:Int)(b:β)(f:α->β->Prop):Prop:=match r with
 | .ok x=>er=0/\f x b
 | .error z=>er=z/\z≠0
theorem Vv{mem:an3 aJ}{s:an4}{z:Int}(h:ji mem s= .error z):z≠0:=by
 unfold ji at h;split at h
 ·cases h;decide
 ·next t e=>
  cases hb:kf t<;>rw[hb]at h<;>cases h
  decide
theorem Pt{mem:an3 aJ}{s:an4}{t:aR}(h:ji mem s= .ok t):ib mem s=some t/\kf t=true:=by
 unfold ji at h;split at h
 ·cases h
 ·next t' e=>
  cases hb:kf t'<;>rw[hb]at h<;>cases h
  exact⟨e,hb⟩
theorem aaB(N:Nat)(hN:2147483648<N)(mem:an3 aJ)(hm:mem.length<=4611686018427387904)(s:an4)(kv:an3 (an4×aR))(hk:CK mem kv):
 ∃t er dE,Cr N s mem kv=some (t,er,dE)/\CK mem dE/\m9 (ji mem s) er t (λx y=>y=x):=by
 unfold Cr;cases hh:lR kv s with
 |true=>
  obtain⟨J,h2⟩:=Sb (d:=(⟨(⟨0,0,0,0,0⟩:aF),[],[]⟩:aR)) hk.ok hh;refine⟨_,_,_,rfl,hk,?_⟩;unfold ji;rw[J];simp only[h2,cond_true];exact⟨rfl,rfl⟩
 |false=>
  rw[cond_false,QV,anc];unfold ji;cases hf:ib mem s with
  |none=>exact⟨_,_,_,rfl,hk,rfl,by decide⟩
  |some t=>
   simp only[cond_true];obtain⟨e,J,h2⟩:=TI N hN t;rw[J,anc,h2];cases ht:kf t with
   |false=>exact⟨_,_,_,rfl,hk,rfl,by decide⟩
   |true=>
    have hl:=hk.len;rw[Bool.not_true,cond_false,show Nat.blt kv.length 9223372036854775807=true by rw[Nat.blt_eq];omega,cond_true];refine⟨_,_,_,rfl,⟨λp hp=> ?_,?_⟩,rfl,rfl⟩
    ·rcases anJ.1 hp with rfl|hp
     ·exact⟨hf,ht⟩
     ·exact hk.ok p hp
    ·rw[anE,List.nodup_cons];exact⟨Uv hh,hk.nd⟩
def qS(env:an3 aL):an3 bj->an3 Int->Int->Except Int Int
 |[],_,a=> .ok a
 |_::_,[],a=> .ok a
 |l::ls,d::ds,a=>bif (cW l env).2 !=0 then .error (cW l env).2 else bif decide ((cW l env).1.toInt<0)||decide ((cW l env).1.toInt>=d)then .error 12 else qS env ls ds (a*d+(cW l env).1.toInt)
theorem RR(d:Int)(ds:an3 Int):(d::ds).foldl (·*·) 1=d*ds.foldl (·*·) 1:=by rw[List.foldl_cons,Int.one_mul,F7]
theorem Rv{a n d p q:Int}(GV:0<=a)(ha:a<p)(mu:0<=n)(hn:n<d)(hq:1<=q)(hp:p*(d*q)<=4096):0<=a*d+n/\a*d+n<p*d/\(p*d)*q<=4096/\aP (aP (a*d)+n)=a*d+n:=by
 have J:0<=a*d:=Int.mul_nonneg GV (by omega);have h2:(a+1)*d<=p*d:=Int.mul_le_mul_of_nonneg_right (by omega) (by omega);rw[Int.add_mul,Int.one_mul]at h2;have h3:(p*d)*q<=4096:=by rw[Int.mul_assoc];exact hp
 have h4:(p*d)*1<=(p*d)*q:=Int.mul_le_mul_of_nonneg_left hq (by omega);refine⟨by omega,by omega,h3,?_⟩;rw[vv (n:=a*d) (by omega) (by omega),vv (by omega) (by omega)]
theorem Ym(N:Nat)(a:Int)(n:Int64)(d:Int):Es N a n d=some (bif decide (n.toInt<0)||decide (n.toInt>=d)then(0,12)else(aP (aP (a*d)+n.toInt),0)):=by
 unfold Es;cases decide (n.toInt<0)with
 |true=>rfl
 |false=>
  rw[cond_false,anc,Bool.false_or];cases decide (n.toInt>=d)<;>rfl
def af8(r:Except Int Int)(p:Int):Prop:=∀a,r= .ok a->0<=a/\a<p
theorem Uo(env:an3 aL):∀(ls:an3 bj)(ds:an3 Int)(a p:Int),0<=a->a<p->(∀n∈ds,1<=n)->ls.length=ds.length->p*ds.foldl (·*·) 1<=4096->af8 (qS env ls ds a) (p*ds.foldl (·*·) 1)
 |[],[],a,p,h0,J,_,_,_=>λb hb=>by cases hb;rw[List.foldl_nil,Int.mul_one];exact⟨h0,J⟩
 |[],_::_,a,p,_,_,_,hl,_=>by simp at hl
 |_::_,[],a,p,_,_,_,hl,_=>by simp at hl
 |l::ls,d::ds,a,p,h0,J,hd,hl,hp=>by
  intro b hb;unfold qS at hb;cases he:((cW l env).2 !=0)with
  |true=>rw[he]at hb;cases hb
  |false=>
   rw[he,cond_false]at hb;cases hc:(decide ((cW l env).1.toInt<0)||decide ((cW l env).1.toInt>=d))with
   |true=>rw[hc]at hb;cases hb
   |false=>
    rw[hc,cond_false]at hb;rw[an2,decide_eq_false_iff_not,decide_eq_false_iff_not]at hc;rw[RR]at hp ⊢;have hq:=DE λn hn=>hd n (ann _ hn);obtain⟨k1,k2,k3,_⟩:=Rv (n:=(cW l env).1.toInt) h0 J (by omega) (by omega) hq hp;have:=Uo env ls ds _ _ k1 k2 (λn hn=>hd n (ann _ hn)) (by simpa using hl) k3 b hb;rw[Int.mul_assoc]at this;exact this
def uj(n ext:Int):Int:=max 0 (min n (ext-1))
def gS(mem:an3 aJ)(env:an3 aL)(x:cC)(ext:Int):Except Int Int64:=match ji mem x.cG with
 | .error z=> .error z
 | .ok t=>bif t.aB.bk !=3 then .error 10 else bif (x.cM.length:Int) !=(t.aU.length:Int)then .error 11 else match qS env x.cM t.aU 0 with
   | .error z=> .error z
   | .ok a=>match t.dJ[a.toNat]? with
     |some v=> .ok (Int64.ofInt (uj v.xN.toInt ext))
     |none=> .error 1
theorem abX{n ext:Int}(J:1<=ext)(h2:ext<=4096):(if(if(aP (ext-(1:Int)))<n then(aP (ext-(1:Int)))else n)>0then(if(aP (ext-(1:Int)))<n then(aP (ext-(1:Int)))else n)else(0:Int))=uj n ext:=by
 rw[vv (by omega) (by omega)];unfold uj;split<;>split<;>omega
theorem aif{n ext:Int}(J:1<=ext)(h2:ext<=4096):(aP (uj n ext)==uj n ext)=true:=by
 rw[beq_iff_eq];exact vv (by unfold uj;omega) (by unfold uj;omega)
structure CQ(t:aR):Prop where
 ty:c7 t.aB=true
 sh:VX t.aU
 len:(t.dJ.length:Int)=t.aU.foldl (·*·) 1
 agd:∀v∈t.dJ,dD t.aB v=true
theorem LD{t:aR}(h:kf t=true):CQ t:=by
 unfold kf at h;simp only[ang,beq_iff_eq]at h;exact⟨h.1,O7 h.2.1,h.2.2.1,anF.1 h.2.2.2⟩
theorem CQ.get{t:aR}(h:CQ t){a:Int}(h0:0<=a)(J:a<t.aU.foldl (·*·) 1):∃v,t.dJ[a.toNat]?=some v/\v∈t.dJ:=by
 have hl:=h.len;have hi:a.toNat<t.dJ.length:=by omega
 exact⟨t.dJ[a.toNat],ani hi,List.getElem_mem hi⟩
theorem Ww(N:Nat)(hN:2147483648<N)(env:an3 aL)(v6:aR×Int×an3 (an4×aR))(hT:CQ v6.1)(ext:Int)(e1:1<=ext)(e2:ext<=4096):∀(ls:an3 bj)(k:Nat)(ds:an3 Int)(a p:Int),(∀l∈ls,l.xL.length<=4611686018427387904)->v6.1.aU.drop k=ds->ls.length=ds.length->0<=a->a<p->p*ds.foldl (·*·) 1=v6.1.aU.foldl (·*·) 1->
 Cl N v6 ext env ls k a=some (match qS env ls ds a with| .error z=>(0,z,v6.2.2)| .ok b=>match v6.1.dJ[b.toNat]? with|some v=>(Int64.ofInt (uj v.xN.toInt ext),0,v6.2.2)|none=>(0,1,v6.2.2))
 |[],k,ds,a,p,_,hd,hl,a0,a1,hp=>by
  cases ds with
  |cons=>simp at hl
  |nil=>
   rw[List.foldl_nil,Int.mul_one]at hp;obtain⟨v,hv,_⟩:=hT.get a0 (by omega);unfold Cl qS;rw[anW a0,cond_true,hv,anc,abX e1 e2,aif e1 e2,cond_true];simp only[hv]
 |l::ls,k,ds,a,p,hf,hd,hl,a0,a1,hp=>by
  cases ds with
  |nil=>simp at hl
  |cons d ds=>
   have e8:=cE hd;have Eb:∀n∈d::ds,1<=n:=λn hn=>hT.sh.pos n (List.mem_of_mem_drop (hd▸hn));unfold Cl qS;rw[Fa N hN l env (hf l ank),anc];cases he:((cW l env).2 !=0)with
   |true=>rfl
   |false=>
    rw[cond_false,cond_false,anG,e8,anc,Ym,anc];cases hc:(decide ((cW l env).1.toInt<0)||decide ((cW l env).1.toInt>=d))with
    |true=>rfl
    |false=>
     rw[cond_false,cond_false];rw[an2,decide_eq_false_iff_not,decide_eq_false_iff_not]at hc;rw[RR]at hp;have hq:=DE λn hn=>Eb n (ann _ hn);obtain⟨k1,k2,k3,k4⟩:=Rv (n:=(cW l env).1.toInt) (d:=d) a0 a1 (by omega) (by omega) hq (by rw[hp];exact hT.sh.le);simp only;rw[show((0:Int) !=0)=false from rfl,cond_false,k4];exact Ww N hN env v6 hT ext e1 e2 ls (k+1) ds _ (p*d) (λx hx=>hf x (ann _ hx)) (mB hd) (by simpa using hl) k1 k2 (by rw[Int.mul_assoc];exact hp)
theorem Uh{mem:an3 aJ}{env:an3 aL}{x:cC}{ext z:Int}(h:gS mem env x ext= .error z):z≠0:=by
 unfold gS at h;split at h
 ·next e=>cases h;exact Vv e
 ·next t e=>
  cases J:(t.aB.bk !=3)with
  |true=>rw[J]at h;cases h;decide
  |false=>
   rw[J,cond_false]at h;cases h2:((x.cM.length:Int) !=(t.aU.length:Int))with
   |true=>rw[h2]at h;cases h;decide
   |false=>
    rw[h2,cond_false]at h;split at h
    ·next e3=>
     cases h
     have gen:∀(ls:an3 bj)(ds:an3 Int)(a:Int),qS env ls ds a= .error z->z≠0:=by
      intro ls
      induction ls with
      |nil=>intro ds a h;cases h
      |cons l ls ih=>
       intro ds a h;cases ds with
       |nil=>cases h
       |cons d ds=>
        unfold qS at h;cases h4:((cW l env).2 !=0)with
        |true=>rw[h4]at h;cases h;simpa using h4
        |false=>
         rw[h4,cond_false]at h;cases h5:(decide ((cW l env).1.toInt<0)||decide ((cW l env).1.toInt>=d))with
         |true=>rw[h5]at h;cases h;decide
         |false=>rw[h5,cond_false]at h;exact ih _ _ h
     exact gen _ _ _ e3
    ·next b e3=>
     split at h
     ·cases h
     ·cases h;decide
theorem adm(N:Nat)(hN:2147483648<N)(mem:an3 aJ)(hm:mem.length<=4611686018427387904)(env:an3 aL)(x:cC)(hx:∀l∈x.cM,l.xL.length<=4611686018427387904)(ext:Int)(e1:1<=ext)(e2:ext<=4096)(kv:an3 (an4×aR))(hk:CK mem kv):
 ∃n er dE,F0 N env x ext mem kv=some (n,er,dE)/\CK mem dE/\m9 (gS mem env x ext) er n (λa b=>b=a):=by
 unfold F0;obtain⟨t,er,dE,J,h2,h3⟩:=aaB N hN mem hm x.cG kv hk;rw[J,anc];unfold gS;cases lJ:ji mem x.cG with
 |error z=>
  rw[lJ]at h3;obtain⟨rfl,hz⟩:=h3;simp only;rw[bne_iff_ne.2 hz,cond_true];exact⟨_,_,_,rfl,h2,rfl,hz⟩
 |ok t'=>
  rw[lJ]at h3;obtain⟨rfl,rfl⟩:=h3;simp only;rw[show((0:Int) !=0)=false from rfl,cond_false];have hT:=LD (Pt lJ).2;cases pO:(t.aB.bk !=3)with
  |true=>exact⟨_,_,_,rfl,h2,rfl,by decide⟩
  |false=>
   rw[cond_false,cond_false];cases qF:((x.cM.length:Int) !=(t.aU.length:Int))with
   |true=>exact⟨_,_,_,rfl,h2,rfl,by decide⟩
   |false=>
    rw[cond_false,cond_false];have hl:x.cM.length=t.aU.length:=by
      have:(x.cM.length:Int)=t.aU.length:=by simpa using qF
      omega
    rw[Ww N hN env (t,0,dE) hT ext e1 e2 x.cM 0 t.aU 0 1 hx rfl hl (by decide) (by decide) (Int.one_mul _)];have Ai:=Uo env x.cM t.aU 0 1 (by decide) (by decide) hT.sh.pos hl (by rw[Int.one_mul];exact hT.sh.le);cases hp:qS env x.cM t.aU 0 with
    |error z=>
     refine⟨_,_,_,rfl,h2,rfl,?_⟩;refine Uh (mem:=mem) (env:=env) (x:=x) (ext:=ext) ?_;unfold gS;rw[lJ];simp only[pO,qF,cond_false,hp]
    |ok b=>
     obtain⟨b0,b1⟩:=Ai b hp;rw[Int.one_mul]at b1;obtain⟨v,hv,_⟩:=hT.get b0 b1;simp only[hv];exact⟨_,_,_,rfl,h2,rfl,rfl⟩
def qN(mem:an3 aJ)(env:an3 aL)(x:cC)(kg:Int):Except Int Int64:=bif bL x.cG==bL (bs [])then(bif (cW x.bq env).2 !=0 then .error (cW x.bq env).2 else .ok (cW x.bq env).1)else gS mem env x kg
structure Tn(x:cC):Prop where
 l:x.bq.xL.length<=4611686018427387904
 a:∀l∈x.cM,l.xL.length<=4611686018427387904
theorem aeu{mem:an3 aJ}{env:an3 aL}{x:cC}{kg z:Int}(h:qN mem env x kg= .error z):z≠0:=by
 unfold qN at h;cases hb:(bL x.cG==bL (bs []))with
 |true=>
  rw[hb,cond_true]at h;cases he:((cW x.bq env).2 !=0)with
  |true=>rw[he]at h;cases h;simpa using he
  |false=>rw[he]at h;cases h
 |false=>rw[hb,cond_false]at h;exact Uh h
def mq(mem:an3 aJ)(env:an3 aL):an3 cC->an3 Int->Int->Except Int Int
 |[],_,a=> .ok a
 |_::_,[],a=> .ok a
 |x::xs,d::ds,a=>match qN mem env x d with
  | .error z=> .error z
  | .ok n=>bif decide (n.toInt<0)||decide (n.toInt>=d)then .error 12 else mq mem env xs ds (a*d+n.toInt)
theorem Wn(mem:an3 aJ)(env:an3 aL):∀(xs:an3 cC)(ds:an3 Int)(a z:Int),mq mem env xs ds a= .error z->z≠0
 |[],_,_,_,h=>by cases h
 |_::_,[],_,_,h=>by cases h
 |x::xs,d::ds,a,z,h=>by
  unfold mq at h;cases hx:qN mem env x d with
  |error y=>rw[hx]at h;cases h;exact aeu hx
  |ok n=>
   rw[hx]at h;simp only at h;cases hc:(decide (n.toInt<0)||decide (n.toInt>=d))with
   |true=>rw[hc]at h;cases h;decide
   |false=>rw[hc,cond_false]at h;exact Wn mem env xs ds _ z h
theorem aei{ds:an3 Int}(hd:∀n∈ds,1<=n){p d q:Int}(hp:1<=p)(J:1<=d)(hq:1<=q)(h:p*(d*q)<=4096):d<=4096:=by
 have h2:d*1<=d*q:=Int.mul_le_mul_of_nonneg_left hq (by omega);have h3:1*(d*q)<=p*(d*q):=Int.mul_le_mul_of_nonneg_right hp (by omega);omega
theorem WI(N:Nat)(hN:2147483648<N)(mem:an3 aJ)(hm:mem.length<=4611686018427387904)(env:an3 aL)(v5:aR×Int×an3 (an4×aR))(hT:CQ v5.1):∀(xs:an3 cC)(k:Nat)(ds:an3 Int)(a p:Int)(kv:an3 (an4×aR)),(∀x∈xs,Tn x)->v5.1.aU.drop k=ds->xs.length=ds.length->0<=a->a<p->p*ds.foldl (·*·) 1=v5.1.aU.foldl (·*·) 1->CK mem kv->
 ∃t er dE,pW N v5 env mem xs k a kv=some (t,er,dE)/\CK mem dE/\m9 (mq mem env xs ds a) er t (λb y=>∃v,v5.1.dJ[b.toNat]?=some v/\y=(⟨v,v5.1.aB⟩:eV))
 |[],k,ds,a,p,kv,_,hd,hl,a0,a1,hp,hk=>by
  cases ds with
  |cons=>simp at hl
  |nil=>
   rw[List.foldl_nil,Int.mul_one]at hp;obtain⟨v,hv,_⟩:=hT.get a0 (by omega);unfold pW mq;rw[anW a0,cond_true,hv,anc];exact⟨_,_,_,rfl,hk,rfl,v,hv,rfl⟩
 |x::xs,k,ds,a,p,kv,hf,hd,hl,a0,a1,hp,hk=>by
  cases ds with
  |nil=>simp at hl
  |cons d ds=>
   have e8:=cE hd;have Eb:∀n∈d::ds,1<=n:=λn hn=>hT.sh.pos n (List.mem_of_mem_drop (hd▸hn));have ve:=Eb d ank;have SX:=hp;rw[RR]at hp;have hq:=DE λn hn=>Eb n (ann _ hn);have hle:p*(d*ds.foldl (·*·) 1)<=4096:=by rw[hp];exact hT.sh.le
   have hd4:=aei (λn hn=>Eb n (ann _ hn)) (by omega) ve hq hle;have hx:=hf x ank;have key:∀(er:Int)(n:Int64)(mU:an3 (an4×aR)),CK mem mU->m9 (qN mem env x d) er n (λa b=>b=a)->
       ∃t Ys dE,zF N v5 k a (λcd fi=>pW N v5 env mem xs (k+1) cd fi) er n mU=some (t,Ys,dE)/\CK mem dE/\m9 (mq mem env (x::xs) (d::ds) a) Ys t (λb y=>∃v,v5.1.dJ[b.toNat]?=some v/\y=(⟨v,v5.1.aB⟩:eV)):=by
    intro er n mU jH Lh;unfold zF mq;cases Yt:qN mem env x d with
    |error z=>
     rw[Yt]at Lh;obtain⟨rfl,hz⟩:=Lh;rw[bne_iff_ne.2 hz,cond_true];exact⟨_,_,_,rfl,jH,rfl,hz⟩
    |ok m=>
     rw[Yt]at Lh;obtain⟨rfl,rfl⟩:=Lh;rw[show((0:Int) !=0)=false from rfl,cond_false,anG,e8,anc,Ym,anc];simp only;cases hc:(decide (n.toInt<0)||decide (n.toInt>=d))with
     |true=>exact⟨_,_,_,rfl,jH,rfl,by decide⟩
     |false=>
      rw[cond_false,cond_false];rw[an2,decide_eq_false_iff_not,decide_eq_false_iff_not]at hc;obtain⟨k1,k2,k3,k4⟩:=Rv (n:=n.toInt) (d:=d) a0 a1 (by omega) (by omega) hq hle;simp only;rw[show((0:Int) !=0)=false from rfl,cond_false,k4];exact WI N hN mem hm env v5 hT xs (k+1) ds _ (p*d) mU (λy hy=>hf y (ann _ hy)) (mB hd) (by simpa using hl) k1 k2 (by rw[Int.mul_assoc];exact hp) jH
   unfold pW;cases hb:(bL x.cG==bL (bs []))with
   |true=>
    rw[cond_true,Fa N hN _ _ hx.l,anc];refine key _ _ _ hk ?_;unfold qN;rw[hb,cond_true];cases he:((cW x.bq env).2 !=0)with
    |true=>exact⟨rfl,by simpa using he⟩
    |false=>exact⟨by simpa using he,rfl⟩
   |false=>
    rw[cond_false,anG,e8,anc];obtain⟨n,er,dE,J,h2,h3⟩:=adm N hN mem hm env x hx.a d ve hd4 kv hk;rw[J,anc];refine key _ _ _ h2 ?_;unfold qN;rw[hb,cond_false];exact h3
def vF(mem:an3 aJ)(env:an3 aL)(e:ar):Except Int (ax×aF):=match ji mem e.au with
 | .error z=> .error z
 | .ok t=>bif (e.xIdx.length:Int) !=(t.aU.length:Int)then .error 11 else match mq mem env e.xIdx t.aU 0 with
   | .error z=> .error z
   | .ok a=>match t.dJ[a.toNat]? with
     |some v=> .ok (v,t.aB)
     |none=> .error 1
def UZ:aF:=⟨3,0,0,0,0⟩
def rJ(mem:an3 aJ)(env:an3 aL)(e:ar):Except Int (ax×aF):=
 bif e.ay==1 then .ok (e.dF,e.aB)else bif e.ay==2 then(bif (cW e.bq env).2 !=0 then .error (cW e.bq env).2 else bif decide ((cW e.bq env).1.toInt>2147483647)||decide ((cW e.bq env).1.toInt< -2147483647)then .error 3 else .ok (⟨(cW e.bq env).1,1⟩,UZ))else vF mem env e
structure QW(e:ar):Prop where
 l:e.bq.xL.length<=4611686018427387904
 x:∀x∈e.xIdx,Tn x
theorem adM(N:Nat)(hN:2147483648<N)(mem:an3 aJ)(hm:mem.length<=4611686018427387904)(env:an3 aL)(e:ar)(hf:QW e)(kv:an3 (an4×aR))(hk:CK mem kv):
 ∃t er dE,Fm N env e mem kv=some (t,er,dE)/\CK mem dE/\m9 (vF mem env e) er t (λx y=>y=(⟨x.1,x.2⟩:eV)):=by
 unfold Fm;obtain⟨t,er,dE,J,h2,h3⟩:=aaB N hN mem hm e.au kv hk;rw[J,anc];unfold vF;cases lJ:ji mem e.au with
 |error z=>
  rw[lJ]at h3;obtain⟨rfl,hz⟩:=h3;simp only;rw[bne_iff_ne.2 hz,cond_true];exact⟨_,_,_,rfl,h2,rfl,hz⟩
 |ok t'=>
  rw[lJ]at h3;obtain⟨rfl,rfl⟩:=h3;simp only;rw[show((0:Int) !=0)=false from rfl,cond_false];have hT:=LD (Pt lJ).2;cases qF:((e.xIdx.length:Int) !=(t.aU.length:Int))with
  |true=>exact⟨_,_,_,rfl,h2,rfl,by decide⟩
  |false=>
   rw[cond_false,cond_false];have hl:e.xIdx.length=t.aU.length:=by
     have:(e.xIdx.length:Int)=t.aU.length:=by simpa using qF
     omega
   obtain⟨y,er,Ic,q1,q2,q3⟩:=WI N hN mem hm env (t,0,dE) hT e.xIdx 0 t.aU 0 1 dE hf.x rfl hl (by decide) (by decide) (Int.one_mul _) h2;rw[q1];refine⟨_,_,_,rfl,q2,?_⟩;cases hp:mq mem env e.xIdx t.aU 0 with
   |error z=>rw[hp]at q3;exact q3
   |ok b=>
    rw[hp]at q3;obtain⟨rfl,v,hv,rfl⟩:=q3;simp only at hv ⊢;rw[hv];exact⟨rfl,rfl⟩
theorem akv(N:Nat)(hN:2147483648<N)(mem:an3 aJ)(hm:mem.length<=4611686018427387904)(env:an3 aL)(e:ar)(hf:QW e)(kv:an3 (an4×aR))(hk:CK mem kv):
 ∃t er dE,Hz N env e mem kv=some (t,er,dE)/\CK mem dE/\m9 (rJ mem env e) er t (λx y=>y=(⟨x.1,x.2⟩:eV)):=by
 unfold Hz rJ;cases J:(e.ay==1)with
 |true=>exact⟨_,_,_,rfl,hk,rfl,rfl⟩
 |false=>
  rw[cond_false,cond_false];cases h2:(e.ay==2)with
  |true=>
   rw[cond_true,cond_true,Fa N hN _ _ hf.l,anc];unfold Ka;cases he:((cW e.bq env).2 !=0)with
   |true=>
    have hz:(cW e.bq env).2≠0:=by simpa using he
    rw[show((cW e.bq env).2==0)=false by rw[beq_eq_false_iff_ne];exact hz,cond_false,anc,cond_false];exact⟨_,_,_,rfl,hk,rfl,hz⟩
   |false=>
    have hz:(cW e.bq env).2=0:=by simpa using he
    rw[hz,show((0:Int)==0)=true from rfl,cond_true,cond_false];cases hc:decide ((cW e.bq env).1.toInt>2147483647)with
    |true=>exact⟨_,_,_,rfl,hk,rfl,by decide⟩
    |false=>
     rw[cond_false,anc,Bool.false_or];cases Od:decide ((cW e.bq env).1.toInt< -2147483647)with
     |true=>exact⟨_,_,_,rfl,hk,rfl,by decide⟩
     |false=>exact⟨_,_,_,rfl,hk,rfl,rfl⟩
  |false=>
   rw[cond_false,cond_false];obtain⟨t,er,dE,q1,q2,q3⟩:=adM N hN mem hm env e hf kv hk;rw[q1,anc];exact⟨_,_,_,rfl,q2,q3⟩
theorem aeq{mem:an3 aJ}{env:an3 aL}{e:ar}(J:e.ay=1->c7 e.aB=true/\dD e.aB e.dF=true){x:ax×aF}(h:rJ mem env e= .ok x):c7 x.2=true/\dD x.2 x.1=true:=by
 unfold rJ at h;cases k1:(e.ay==1)with
 |true=>
  rw[k1,cond_true]at h;cases h;exact J (by simpa using k1)
 |false=>
  rw[k1,cond_false]at h;cases k2:(e.ay==2)with
  |true=>
   rw[k2,cond_true]at h;cases he:((cW e.bq env).2 !=0)with
   |true=>rw[he]at h;cases h
   |false=>
    rw[he,cond_false]at h;cases hc:(decide ((cW e.bq env).1.toInt>2147483647)||decide ((cW e.bq env).1.toInt< -2147483647))with
    |true=>rw[hc]at h;cases h
    |false=>
     rw[hc,cond_false]at h;cases h;rw[an2,decide_eq_false_iff_not,decide_eq_false_iff_not]at hc;refine⟨rfl,?_⟩;unfold dD UZ;simp only;rw[show((3:Int)==2)=false from rfl,cond_false,show((3:Int)==3)=true from rfl,cond_true,anW (show(cW e.bq env).1.toInt<=2147483647 by omega),anW (show-2147483647<=(cW e.bq env).1.toInt by omega)];rfl
  |false=>
   rw[k2,cond_false]at h;unfold vF at h;cases lJ:ji mem e.au with
   |error z=>rw[lJ]at h;cases h
   |ok t=>
    rw[lJ]at h;simp only at h;have hT:=LD (Pt lJ).2;cases qF:((e.xIdx.length:Int) !=(t.aU.length:Int))with
    |true=>rw[qF]at h;cases h
    |false=>
     rw[qF,cond_false]at h;cases hp:mq mem env e.xIdx t.aU 0 with
     |error z=>rw[hp]at h;cases h
     |ok c=>
      rw[hp]at h;simp only at h;cases hv:t.dJ[c.toNat]? with
      |none=>rw[hv]at h;cases h
      |some v=>rw[hv]at h;cases h;exact⟨hT.ty,hT.agd v (anr hv)⟩
def kP(a b:aF):Bool:=(a.bk==b.bk)&&((a.bX==b.bX)&&((a.bS==b.bS)&&((a.ct==b.ct)&&((a.cu==b.cu)&&true))))
theorem acp{a b:aF}:kP a b=true↔a=b:=by
 unfold kP;simp only[ang,beq_iff_eq,Bool.and_true];constructor
 ·rintro⟨J,h2,h3,h4,h5⟩;cases a;cases b;simp_all
 ·rintro rfl;exact⟨rfl,rfl,rfl,rfl,rfl⟩
def pZ(t:aF)(r:ax×Int):Except Int (ax×aF):=bif r.2 !=0 then .error r.2 else .ok (r.1,t)
def K8(op c:Int):Bool:=bif op==13 then decide (c<0)else bif op==14 then decide (c<=0)else c==0
def ju{α β:Type}(r:Except Int α)(f:α->Except Int β):Except Int β:=match r with
 | .ok x=>f x
 | .error z=> .error z
mutual
def ff(mem:an3 aJ)(env:an3 aL)(e:ar):Except Int (ax×aF):=
 bif decide (e.ay<=3)then rJ mem env e else
 match h:e.bM with
 |[a]=>ju (ff mem env a) λx=>bif e.ay==12 then pZ e.aB (JQ x.2 e.aB x.1)else pZ x.2 (ot 8 x.2 x.1 x.1)
 |[a,b]=>ju (ff mem env a) λx=>ju (ff mem env b) λy=>bif kP x.2 y.2 then pZ x.2 (ot e.ay x.2 x.1 y.1)else .error 10
 |[c,a,b]=>ju (kK mem env c) λt=>bif t then ff mem env a else ff mem env b
 |_=> .error 1
termination_by SizeOf.sizeOf e
decreasing_by all_goals (exact nw (by rw[h];simp))
def kK(mem:an3 aJ)(env:an3 aL)(e:ar):Except Int Bool:=
 match h:e.bM with
 |[a]=>ju (kK mem env a) λt=> .ok (!t)
 |[a,b]=>bif decide (e.ay<16)then ju (ff mem env a) λx=>ju (ff mem env b) λy=>(bif kP x.2 y.2 then .ok (K8 e.ay (qg x.2 x.1 y.1))else .error 10)else ju (kK mem env a) λs=>ju (kK mem env b) λt=> .ok (bif e.ay==16 then s&&t else s||t)
 |_=> .error 1
termination_by SizeOf.sizeOf e
decreasing_by all_goals (exact nw (by rw[h];simp))
end
theorem PH{mem:an3 aJ}{env:an3 aL}{e:ar}(h:e.ay<=3):ff mem env e=rJ mem env e:=by
 rw[ff,anW h,cond_true]
theorem HE{mem:an3 aJ}{env:an3 aL}{e a:ar}(h:¬e.ay<=3)(ha:e.bM=[a]):ff mem env e=ju (ff mem env a) λx=>bif e.ay==12 then pZ e.aB (JQ x.2 e.aB x.1)else pZ x.2 (ot 8 x.2 x.1 x.1):=by
 rw[ff,anX h,cond_false];split<;>simp_all
theorem aaf{mem:an3 aJ}{env:an3 aL}{e a b:ar}(h:¬e.ay<=3)(ha:e.bM=[a,b]):ff mem env e=ju (ff mem env a) λx=>ju (ff mem env b) λy=>bif kP x.2 y.2 then pZ x.2 (ot e.ay x.2 x.1 y.1)else .error 10:=by
 rw[ff,anX h,cond_false];split<;>simp_all
theorem VW{mem:an3 aJ}{env:an3 aL}{e c a b:ar}(h:¬e.ay<=3)(ha:e.bM=[c,a,b]):ff mem env e=ju (kK mem env c) λt=>bif t then ff mem env a else ff mem env b:=by
 rw[ff,anX h,cond_false];split<;>simp_all
theorem aaS{mem:an3 aJ}{env:an3 aL}{e a:ar}(ha:e.bM=[a]):kK mem env e=ju (kK mem env a) λt=> .ok (!t):=by
 rw[kK];split<;>simp_all
theorem J8{mem:an3 aJ}{env:an3 aL}{e a b:ar}(ha:e.bM=[a,b]):kK mem env e=bif decide (e.ay<16)then ju (ff mem env a) λx=>ju (ff mem env b) λy=>(bif kP x.2 y.2 then .ok (K8 e.ay (qg x.2 x.1 y.1))else .error 10)else ju (kK mem env a) λs=>ju (kK mem env b) λt=> .ok (bif e.ay==16 then s&&t else s||t):=by
 rw[kK];split<;>simp_all
structure Ev(e:ar):Prop where
 v:∀y∈dB e,nf y=0
 f:∀y∈dB e,QW y
theorem Ev.arg{e x:ar}(h:Ev e)(hx:x∈e.bM):Ev x:=⟨λy hy=>h.v y (E8 hx hy),λy hy=>h.f y (E8 hx hy)⟩
theorem Ev.here{e:ar}(h:Ev e):nf e=0:=h.v e ank
structure Ct(e:ar):Prop where
 lo:1<=e.ay
 hi:e.ay<=18
 Uc:(e.bM.length:Int)=nm e.ay
 lit:e.ay=1->c7 e.aB=true/\dD e.aB e.dF=true
 cast:e.ay=12->c7 e.aB=true
 want:∀(i:Nat)(x:ar),e.bM[i]?=some x->eB x=kD e.ay i
theorem Zp(op:Int):∀(l:an3 ar)(k:Nat),uZ op k l=true->∀(i:Nat)(x:ar),l[i]?=some x->eB x=kD op (k+i)
 |[],_,_,i,x,hx=>by simp at hx
 |y::l,k,h,i,x,hx=>by
  unfold uZ at h;rw[ang,beq_iff_eq]at h;cases i with
  |zero=>cases hx;exact h.1
  |succ i=>
   rw[show k+(i+1)=k+1+i by omega];exact Zp op l (k+1) h.2 i x hx
theorem Ev.n{e:ar}(h:Ev e):Ct e:=by
 obtain⟨J,h2,h3,h4,h5⟩:=Mp h.here;unfold oh at J;unfold oc at h3;unfold nQ at h4;unfold tB at h5;simp only[ang,decide_eq_true_eq,beq_iff_eq]at J h3 h4 h5;refine⟨J.1,J.2.1,h3.1,λh=> ?_,λh=> ?_,λi x hx=> ?_⟩
 ·have k4:=h4.1;have k5:=h5.1;rw[h]at k4 k5;exact⟨by simpa using k4,by simpa using k5⟩
 ·have k4:=h4.1;rw[h]at k4
  simpa using k4
 ·have:=Zp e.ay e.bM 0 h4.2 i x hx
  rwa [anz]at this
theorem T6{e:ar}(h:Ct e):eB e=decide (13<=e.ay):=by
 unfold eB;rw[anW h.hi,Bool.and_true]
theorem NH{α:Type}{l:an3 α}(h:(l.length:Int)=1):∃a,l=[a]:=by
 match l,h with
 |[a],_=>exact⟨a,rfl⟩
 |[],h=>simp at h
 |_::_::_,h=>simp only[anh]at h;omega
theorem Xk{α:Type}{l:an3 α}(h:(l.length:Int)=2):∃a b,l=[a,b]:=by
 match l,h with
 |[a,b],_=>exact⟨a,b,rfl⟩
 |[],h=>simp at h
 |[_],h=>simp at h
 |_::_::_::_,h=>simp only[anh]at h;omega
theorem ahj{α:Type}{l:an3 α}(h:(l.length:Int)=3):∃a b c,l=[a,b,c]:=by
 match l,h with
 |[a,b,c],_=>exact⟨a,b,c,rfl⟩
 |[],h=>simp at h
 |[_],h=>simp at h
 |[_,_],h=>simp at h
 |_::_::_::_::_,h=>simp only[anh]at h;omega
inductive Kd(e:ar):Prop
 |leaf (h:e.ay<=3)
 |cast (a:ar) (h:e.bM=[a]) (ho:e.ay=12)
 |neg (a:ar) (h:e.bM=[a]) (ho:e.ay=8)
 |bin (a b:ar) (h:e.bM=[a,b]) (ho:4<=e.ay/\e.ay<=10/\e.ay≠8)
 |ite (c a b:ar) (h:e.bM=[c,a,b]) (ho:e.ay=11)
inductive Kc(e:ar):Prop
 |not (a:ar) (h:e.bM=[a]) (ho:e.ay=18)
 |cmp (a b:ar) (h:e.bM=[a,b]) (ho:13<=e.ay/\e.ay<=15)
 |log (a b:ar) (h:e.bM=[a,b]) (ho:e.ay=16\/e.ay=17)
theorem kd{e:ar}(h:Ct e)(hc:eB e=false):Kd e:=by
 rw[T6 h,decide_eq_false_iff_not]at hc;have hl:=h.lo;have hn:=h.Uc;by_cases h3:e.ay<=3
 ·exact .leaf h3
 ·unfold nm at hn;rw[show(e.ay==1)=false by rw[beq_eq_false_iff_ne];omega,show(e.ay==2)=false by rw[beq_eq_false_iff_ne];omega,show(e.ay==3)=false by rw[beq_eq_false_iff_ne];omega]at hn;simp only[Bool.or_false,Bool.false_or,cond_false]at hn;by_cases h8:e.ay=8
  ·rw[h8]at hn;obtain⟨a,ha⟩:=NH (l:=e.bM) hn;exact .neg a ha h8
  ·by_cases cl:e.ay=12
   ·rw[cl]at hn;obtain⟨a,ha⟩:=NH (l:=e.bM) hn;exact .cast a ha cl
   ·rw[show(e.ay==8)=false by rw[beq_eq_false_iff_ne];exact h8,show(e.ay==12)=false by rw[beq_eq_false_iff_ne];exact cl,show(e.ay==18)=false by rw[beq_eq_false_iff_ne];omega]at hn;simp only[Bool.or_false,Bool.false_or,cond_false]at hn;by_cases bD:e.ay=11
    ·rw[bD]at hn;obtain⟨a,b,c,ha⟩:=ahj (l:=e.bM) hn;exact .ite a b c ha bD
    ·rw[show(e.ay==11)=false by rw[beq_eq_false_iff_ne];exact bD,cond_false]at hn;obtain⟨a,b,ha⟩:=Xk hn;exact .bin a b ha ⟨by omega,by omega,h8⟩
theorem kc{e:ar}(h:Ct e)(hc:eB e=true):Kc e:=by
 rw[T6 h,decide_eq_true_eq]at hc;have hh:=h.hi;have hn:=h.Uc;unfold nm at hn;rw[show(e.ay==1)=false by rw[beq_eq_false_iff_ne];omega,show(e.ay==2)=false by rw[beq_eq_false_iff_ne];omega,show(e.ay==3)=false by rw[beq_eq_false_iff_ne];omega,show(e.ay==8)=false by rw[beq_eq_false_iff_ne];omega,show(e.ay==12)=false by rw[beq_eq_false_iff_ne];omega,show(e.ay==11)=false by rw[beq_eq_false_iff_ne];omega]at hn;simp only[Bool.or_false,Bool.false_or,cond_false]at hn;by_cases fU:e.ay=18
 ·rw[fU]at hn;obtain⟨a,ha⟩:=NH (l:=e.bM) hn;exact .not a ha fU
 ·rw[show(e.ay==18)=false by rw[beq_eq_false_iff_ne];exact fU,cond_false]at hn;obtain⟨a,b,ha⟩:=Xk hn;by_cases dm:e.ay<=15
  ·exact .cmp a b ha ⟨hc,dm⟩
  ·exact .log a b ha (by omega)
def Rm(r:Except Int (ax×aF))(er:Int)(t:eV):Prop:=m9 r er t λx y=>y.gW=x.1/\y.fv=x.2/\c7 x.2=true
def Ud(r:Except Int Bool)(er:Int)(b:Bool):Prop:=match r with
 | .ok x=>er=0/\b=x
 | .error z=>er=z/\z≠0/\b=false
theorem Mu{t:aF}{r:ax×Int}(ht:c7 t=true):Rm (pZ t r) r.2 (⟨r.1,t⟩:eV):=by
 unfold pZ;cases h:(r.2 !=0)with
 |true=>exact⟨rfl,by simpa using h⟩
 |false=>exact⟨by simpa using h,rfl,rfl,ht⟩
structure FX(N:Nat)(mem:List aJ)(env:List aL)(e:ar):Prop where
 v:eB e=false->∀(d:Nat)(kv:List (ByteArray×aR)),3*SizeOf.sizeOf e<=d->CK mem kv->∃t er dE,lD N d e env mem kv=some (t,er,dE)/\CK mem dE/\Rm (ff mem env e) er t
 h:eB e=true->∀(d:Nat)(kv:List (ByteArray×aR)),3*SizeOf.sizeOf e<=d->CK mem kv->∃b er dE,oW N d e env mem kv=some (b,er,dE)/\CK mem dE/\Ud (kK mem env e) er b
theorem alL(N:Nat)(env:an3 aL)(e:ar)(mem:an3 aJ)(kv:an3 (an4×aR))(d:Nat):lD N (d+1) e env mem kv=vP N env e mem kv (oW N d) (lD N d) (qc N d) (e.ay==1||(e.ay==2||e.ay==3)):=by
 rw[lD];cases J:(e.ay==1)with
 |true=>rfl
 |false=>
  cases h2:(e.ay==2)with
  |true=>rfl
  |false=>rfl
theorem als{e:ar}(h:Ct e):(e.ay==1||(e.ay==2||e.ay==3))=decide (e.ay<=3):=by
 have:=h.lo;by_cases h3:e.ay<=3
 ·rw[anW h3];have:e.ay=1\/e.ay=2\/e.ay=3:=by omega
  rcases this with h|h|h<;>rw[h]<;>rfl
 ·rw[anX h3,show(e.ay==1)=false by rw[beq_eq_false_iff_ne];omega,show(e.ay==2)=false by rw[beq_eq_false_iff_ne];omega,show(e.ay==3)=false by rw[beq_eq_false_iff_ne];omega];rfl
theorem ZR{N:Nat}{mem:an3 aJ}{env:an3 aL}{e a b:ar}(ha:e.bM=[a,b])(A:FX N mem env a)(B:FX N mem env b)(ca:eB a=false)(cb:eB b=false)(d:Nat)(kv:an3 (an4×aR))(hd:3*SizeOf.sizeOf a<=d/\3*SizeOf.sizeOf b<=d)(hk:CK mem kv):
 ∃x y er dE,vK N (d+1) e env mem kv=some (x,y,er,dE)/\CK mem dE/\m9 (ju (ff mem env a) λp=>ju (ff mem env b) λq=>bif kP p.2 q.2 then .ok (p,q)else .error 10) er (x,y) λp r=>r.1.gW=p.1.1/\r.1.fv=p.1.2/\r.2.gW=p.2.1/\r.2.fv=p.2.2/\c7 p.1.2=true:=by
 rw[vK,ha];simp only[List.getElem?_cons_zero,anQ,anc];obtain⟨t,er,mU,J,h2,h3⟩:=A.v ca d kv hd.1 hk;rw[J,anc];cases hv:ff mem env a with
 |error z=>
  rw[hv]at h3;obtain⟨rfl,hz⟩:=h3;simp only;rw[bne_iff_ne.2 hz,cond_true];exact⟨_,_,_,_,rfl,h2,rfl,hz⟩
 |ok p=>
  rw[hv]at h3;obtain⟨rfl,e1,e2,e3⟩:=h3;simp only;rw[show((0:Int) !=0)=false from rfl,cond_false];obtain⟨u,er,Ic,q1,q2,q3⟩:=B.v cb d mU hd.2 h2;rw[q1,anc];unfold Fw;cases hw:ff mem env b with
  |error z=>
   rw[hw]at q3;obtain⟨rfl,hz⟩:=q3;simp only;rw[show(er==0)=false by rw[beq_eq_false_iff_ne];exact hz,cond_false,anc,cond_false];exact⟨_,_,_,_,rfl,q2,rfl,hz⟩
  |ok q=>
   rw[hw]at q3;obtain⟨rfl,f1,f2,f3⟩:=q3;simp only;rw[show((0:Int)==0)=true from rfl,cond_true,anc];show ∃x y er dE,(bif !(kP t.fv u.fv)then _ else _)=_/\_/\m9 (bif kP p.2 q.2 then _ else _) _ _ _;rw[e2,f2];cases kP p.2 q.2 with
   |true=>exact⟨_,_,_,_,rfl,q2,rfl,e1,e2,f1,f2,e3⟩
   |false=>exact⟨_,_,_,_,rfl,q2,rfl,by decide⟩
theorem mch(N:Nat)(hN:9223372036854775808<N)(mem:an3 aJ)(hm:mem.length<=4611686018427387904)(env:an3 aL):∀(n:Nat)(e:ar),SizeOf.sizeOf e<=n->Ev e->FX N mem env e:=by
 intro n
 induction n with
 |zero=>intro e hs _;have:0<SizeOf.sizeOf e:=by cases e;simp;omega
        omega
 |succ n ih=>
  intro e hs hv;have E:=hv.n;have hX:0<SizeOf.sizeOf e:=by cases e;simp;omega
  have sub:∀x∈e.bM,FX N mem env x/\3*SizeOf.sizeOf x+3<=3*SizeOf.sizeOf e:=λx hx=>by
   have:=nw hx;exact⟨ih x (by omega) (hv.arg hx),by omega⟩
  constructor
  ·intro hc d kv hd hk;obtain⟨d,rfl⟩:∃d',d=d'+1:=⟨d-1,by omega⟩;rw[alL,als E];unfold vP;cases kd E hc with
   |leaf h3=>
    rw[anW h3,cond_true,PH h3];obtain⟨t,er,dE,J,h2,h4⟩:=akv N (by omega) mem hm env e (hv.f e ank) kv hk;rw[J,anc];refine⟨_,_,_,rfl,h2,?_⟩;cases hl:rJ mem env e with
    |error z=>rw[hl]at h4;exact h4
    |ok x=>
     rw[hl]at h4;obtain⟨rfl,rfl⟩:=h4;exact⟨rfl,rfl,rfl,(aeq E.lit hl).1⟩
   |cast a ha ho=>
    have h3:¬e.ay<=3:=by omega
    have CF:a∈e.bM:=by rw[ha];simp
    obtain⟨A,Bg⟩:=sub a CF;have ca:eB a=false:=by rw[E.want 0 a (by rw[ha];rfl),ho];rfl
    rw[anX h3,cond_false,show(e.ay==11)=false by rw[ho];rfl,cond_false,HE h3 ha,ho];obtain⟨d,rfl⟩:∃d',d=d'+1:=⟨d-1,by omega⟩;rw[qc,ha,ho];simp only[List.getElem?_cons_zero,anc,Int.reduceBEq,cond_false,cond_true];obtain⟨t,er,mU,J,h2,h4⟩:=A.v ca d kv (by omega) hk;rw[J,anc];cases pz:ff mem env a with
    |error z=>
     rw[pz]at h4;obtain⟨rfl,hz⟩:=h4;simp only;rw[bne_iff_ne.2 hz,cond_true,anc];exact⟨_,_,_,rfl,h2,rfl,hz⟩
    |ok p=>
     rw[pz]at h4;obtain⟨rfl,e1,e2,e3⟩:=h4;simp only;rw[show((0:Int) !=0)=false from rfl,cond_false,ad4 N hN,anc,anc,e1,e2];exact⟨_,_,_,rfl,h2,Mu (E.cast ho)⟩
   |neg a ha ho=>
    have h3:¬e.ay<=3:=by omega
    have CF:a∈e.bM:=by rw[ha];simp
    obtain⟨A,Bg⟩:=sub a CF;have ca:eB a=false:=by rw[E.want 0 a (by rw[ha];rfl),ho];rfl
    rw[anX h3,cond_false,show(e.ay==11)=false by rw[ho];rfl,cond_false,HE h3 ha,ho];obtain⟨d,rfl⟩:∃d',d=d'+1:=⟨d-1,by omega⟩;rw[qc,ha,ho];simp only[List.getElem?_cons_zero,anc,Int.reduceBEq,cond_false,cond_true];obtain⟨t,er,mU,J,h2,h4⟩:=A.v ca d kv (by omega) hk;rw[J,anc];cases pz:ff mem env a with
    |error z=>
     rw[pz]at h4;obtain⟨rfl,hz⟩:=h4;simp only;rw[bne_iff_ne.2 hz,cond_true,anc];exact⟨_,_,_,rfl,h2,rfl,hz⟩
    |ok p=>
     rw[pz]at h4;obtain⟨rfl,e1,e2,e3⟩:=h4;simp only;rw[show((0:Int) !=0)=false from rfl,cond_false,Pz N hN,anc,anc,e1,e2];exact⟨_,_,_,rfl,h2,Mu e3⟩
   |bin a b ha ho=>
    have h3:¬e.ay<=3:=by omega
    obtain⟨A,Bg⟩:=sub a (by rw[ha];simp);obtain⟨B,P0⟩:=sub b (by rw[ha];simp);have w0:kD e.ay 0=false:=by
     unfold kD;rw[show(e.ay==11)=false by rw[beq_eq_false_iff_ne];omega,show(e.ay==16)=false by rw[beq_eq_false_iff_ne];omega,show(e.ay==17)=false by rw[beq_eq_false_iff_ne];omega,show(e.ay==18)=false by rw[beq_eq_false_iff_ne];omega];rfl
    have w1:kD e.ay 1=false:=by
     unfold kD;rw[show(e.ay==11)=false by rw[beq_eq_false_iff_ne];omega,show(e.ay==16)=false by rw[beq_eq_false_iff_ne];omega,show(e.ay==17)=false by rw[beq_eq_false_iff_ne];omega,show(e.ay==18)=false by rw[beq_eq_false_iff_ne];omega];rfl
    have ca:eB a=false:=by rw[E.want 0 a (by rw[ha];rfl),w0]
    have cb:eB b=false:=by rw[E.want 1 b (by rw[ha];rfl),w1]
    rw[anX h3,cond_false,show(e.ay==11)=false by rw[beq_eq_false_iff_ne];omega,cond_false,aaf h3 ha];obtain⟨d,rfl⟩:∃d',d=d'+1+1:=⟨d-2,by omega⟩;rw[qc,show(e.ay==8)=false by rw[beq_eq_false_iff_ne];omega,cond_false,show(e.ay==12)=false by rw[beq_eq_false_iff_ne];omega,anc,cond_false];obtain⟨x,y,er,dE,J,h2,h4⟩:=ZR (e:=e) ha A B ca cb d kv ⟨by omega,by omega⟩ hk;rw[J,anc];cases pz:ff mem env a with
    |error z=>
     rw[pz]at h4;obtain⟨rfl,hz⟩:=h4;simp only;rw[bne_iff_ne.2 hz,cond_true,anc];exact⟨_,_,_,rfl,h2,rfl,hz⟩
    |ok p=>
     rw[pz]at h4;cases BY:ff mem env b with
     |error z=>
      rw[BY]at h4;obtain⟨rfl,hz⟩:=h4;simp only;rw[bne_iff_ne.2 hz,cond_true,anc];exact⟨_,_,_,rfl,h2,rfl,hz⟩
     |ok q=>
      rw[BY]at h4;show ∃t er dE,_=_/\_/\Rm (bif kP p.2 q.2 then pZ p.2 (ot e.ay p.2 p.1 q.1)else .error 10) er t;replace h4:m9 (bif kP p.2 q.2 then .ok (p,q)else .error 10) er (x,y) λp r=>r.1.gW=p.1.1/\r.1.fv=p.1.2/\r.2.gW=p.2.1/\r.2.fv=p.2.2/\c7 p.1.2=true:=h4;cases nr:kP p.2 q.2 with
      |false=>
       rw[nr]at h4;obtain⟨rfl,hz⟩:=h4;simp only;rw[bne_iff_ne.2 hz,cond_true,anc];exact⟨_,_,_,rfl,h2,rfl,hz⟩
      |true=>
       rw[nr]at h4;obtain⟨rfl,e1,e2,e3,e4,e5⟩:=h4;simp only at e1 e2 e3 e4 e5 ⊢;rw[show((0:Int) !=0)=false from rfl,cond_false,Pz N hN,anc,anc,e1,e2,e3];exact⟨_,_,_,rfl,h2,Mu e5⟩
   |ite c a b ha ho=>
    have h3:¬e.ay<=3:=by omega
    obtain⟨C,hsc⟩:=sub c (by rw[ha];simp);obtain⟨A,Bg⟩:=sub a (by rw[ha];simp);obtain⟨B,P0⟩:=sub b (by rw[ha];simp);have cc:eB c=true:=by rw[E.want 0 c (by rw[ha];rfl),ho];rfl
    have ca:eB a=false:=by rw[E.want 1 a (by rw[ha];rfl),ho];rfl
    have cb:eB b=false:=by rw[E.want 2 b (by rw[ha];rfl),ho];rfl
    rw[anX h3,cond_false,show(e.ay==11)=true by rw[ho];rfl,cond_true,VW h3 ha,ha];simp only[List.getElem?_cons_zero,anQ,anc];obtain⟨t,er,mU,J,h2,h4⟩:=C.h cc d kv (by omega) hk;rw[J,anc];cases hh:kK mem env c with
    |error z=>
     rw[hh]at h4;obtain⟨rfl,hz,rfl⟩:=h4;simp only;rw[bne_iff_ne.2 hz,cond_true];exact⟨_,_,_,rfl,h2,rfl,hz⟩
    |ok s=>
     rw[hh]at h4;obtain⟨rfl,rfl⟩:=h4;simp only;rw[show((0:Int) !=0)=false from rfl,cond_false];cases t with
     |true=>
      obtain⟨u,er,Ic,q1,q2,q3⟩:=A.v ca d mU (by omega) h2;rw[cond_true,q1,anc];exact⟨_,_,_,rfl,q2,q3⟩
     |false=>
      obtain⟨u,er,Ic,q1,q2,q3⟩:=B.v cb d mU (by omega) h2;rw[cond_false,q1,anc];exact⟨_,_,_,rfl,q2,q3⟩
  ·intro hc d kv hd hk;obtain⟨d,rfl⟩:∃d',d=d'+1+1:=⟨d-2,by omega⟩;rw[oW,DV];cases kc E hc with
   |not a ha ho=>
    obtain⟨A,Bg⟩:=sub a (by rw[ha];simp);have ca:eB a=true:=by rw[E.want 0 a (by rw[ha];rfl),ho];rfl
    rw[ha,ho,aaS ha,anX (by decide),cond_false];simp only[List.getElem?_cons_zero,anc];obtain⟨t,er,mU,J,h2,h4⟩:=A.h ca d kv (by omega) hk;rw[J,anc];cases hh:kK mem env a with
    |error z=>
     rw[hh]at h4;obtain⟨rfl,hz,rfl⟩:=h4;simp only;rw[bne_iff_ne.2 hz,cond_true,anc,cond_true,show(er==0)=false by rw[beq_eq_false_iff_ne];exact hz,cond_false,anc,anc];exact⟨_,_,_,rfl,h2,rfl,hz,rfl⟩
    |ok s=>
     rw[hh]at h4;obtain⟨rfl,rfl⟩:=h4;exact⟨_,_,_,rfl,h2,rfl,rfl⟩
   |cmp a b ha ho=>
    obtain⟨A,Bg⟩:=sub a (by rw[ha];simp);obtain⟨B,P0⟩:=sub b (by rw[ha];simp);have w:∀i,kD e.ay i=false:=λi=>by
     unfold kD;rw[show(e.ay==11)=false by rw[beq_eq_false_iff_ne];omega,show(e.ay==16)=false by rw[beq_eq_false_iff_ne];omega,show(e.ay==17)=false by rw[beq_eq_false_iff_ne];omega,show(e.ay==18)=false by rw[beq_eq_false_iff_ne];omega];rfl
    have ca:eB a=false:=by rw[E.want 0 a (by rw[ha];rfl),w]
    have cb:eB b=false:=by rw[E.want 1 b (by rw[ha];rfl),w]
    rw[anW (show e.ay<16 by omega),cond_true,J8 ha,anW (show e.ay<16 by omega),cond_true];obtain⟨d,rfl⟩:∃d',d=d'+1:=⟨d-1,by omega⟩;obtain⟨x,y,er,dE,J,h2,h4⟩:=ZR (e:=e) ha A B ca cb d kv ⟨by omega,by omega⟩ hk;rw[J,anc];cases pz:ff mem env a with
    |error z=>
     rw[pz]at h4;obtain⟨rfl,hz⟩:=h4;simp only;rw[bne_iff_ne.2 hz,cond_true,anc];exact⟨_,_,_,rfl,h2,rfl,hz,rfl⟩
    |ok p=>
     rw[pz]at h4;cases BY:ff mem env b with
     |error z=>
      rw[BY]at h4;obtain⟨rfl,hz⟩:=h4;simp only;rw[bne_iff_ne.2 hz,cond_true,anc];exact⟨_,_,_,rfl,h2,rfl,hz,rfl⟩
     |ok q=>
      rw[BY]at h4;show ∃b er dE,_=_/\_/\Ud (bif kP p.2 q.2 then .ok (K8 e.ay (qg p.2 p.1 q.1))else .error 10) er b;replace h4:m9 (bif kP p.2 q.2 then .ok (p,q)else .error 10) er (x,y) λp r=>r.1.gW=p.1.1/\r.1.fv=p.1.2/\r.2.gW=p.2.1/\r.2.fv=p.2.2/\c7 p.1.2=true:=h4;cases nr:kP p.2 q.2 with
      |false=>
       rw[nr]at h4;obtain⟨rfl,hz⟩:=h4;simp only;rw[bne_iff_ne.2 hz,cond_true,anc];exact⟨_,_,_,rfl,h2,rfl,hz,rfl⟩
      |true=>
       rw[nr]at h4;obtain⟨rfl,e1,e2,e3,e4,e5⟩:=h4;simp only at e1 e2 e3 e4 e5 ⊢;rw[show((0:Int) !=0)=false from rfl,cond_false,e1,e2,e3,W9 N (by omega) _ _ _ e5,anc];unfold OA K8;cases (e.ay==13)with
       |true=>exact⟨_,_,_,rfl,h2,rfl,rfl⟩
       |false=>
        cases (e.ay==14)with
        |true=>exact⟨_,_,_,rfl,h2,rfl,rfl⟩
        |false=>exact⟨_,_,_,rfl,h2,rfl,rfl⟩
   |log a b ha ho=>
    obtain⟨A,Bg⟩:=sub a (by rw[ha];simp);obtain⟨B,P0⟩:=sub b (by rw[ha];simp);have w:∀i,kD e.ay i=true:=λi=>by
     unfold kD;rcases ho with h|h<;>rw[h]<;>simp
    have ca:eB a=true:=by rw[E.want 0 a (by rw[ha];rfl),w]
    have cb:eB b=true:=by rw[E.want 1 b (by rw[ha];rfl),w]
    rw[anX (show ¬e.ay<16 by omega),cond_false,J8 ha,anX (show ¬e.ay<16 by omega),cond_false,ha];simp only[List.getElem?_cons_zero,anQ,anc];obtain⟨t,er,mU,J,h2,h4⟩:=A.h ca d kv (by omega) hk;rw[J,anc];cases hh:kK mem env a with
    |error z=>
     rw[hh]at h4;obtain⟨rfl,hz,rfl⟩:=h4;simp only;rw[bne_iff_ne.2 hz,cond_true,anc,cond_true,show(er==0)=false by rw[beq_eq_false_iff_ne];exact hz,cond_false,anc,anc];exact⟨_,_,_,rfl,h2,rfl,hz,rfl⟩
    |ok s=>
     rw[hh]at h4;obtain⟨rfl,rfl⟩:=h4;simp only;rw[show((0:Int) !=0)=false from rfl,cond_false,show(e.ay==18)=false by rw[beq_eq_false_iff_ne];omega,anc,cond_false];obtain⟨u,er,Ic,q1,q2,q3⟩:=B.h cb d mU (by omega) h2;rw[q1,anc];cases hg:kK mem env b with
     |error z=>
      rw[hg]at q3;obtain⟨rfl,hz,rfl⟩:=q3;simp only;rw[bne_iff_ne.2 hz,cond_true,anc];exact⟨_,_,_,rfl,q2,rfl,hz,rfl⟩
     |ok s2=>
      rw[hg]at q3;obtain⟨rfl,rfl⟩:=q3;simp only;rw[show((0:Int) !=0)=false from rfl,cond_false];unfold ju;simp only;cases (e.ay==16)<;>cases t<;>exact⟨_,_,_,rfl,q2,rfl,rfl⟩
structure zH(B:Nat)(x:cC):Prop where
 kY:x.bq.xL.length<=B
 at_:x.cM.length<=B
 AE:∀l∈x.cM,l.xL.length<=B
structure J3(B:Nat)(e:ar):Prop where
 kY:e.bq.xL.length<=B
 idx:e.xIdx.length<=B
 each:∀x∈e.xIdx,zH B x
 args:e.bM.length<=B
def ik(B:Nat)(e:ar):Prop:=∀y∈dB e,J3 B y
theorem ik.arg{B:Nat}{e x:ar}(h:ik B e)(hx:x∈e.bM):ik B x:=λy hy=>h y (E8 hx hy)
theorem zH.mono{A B:Nat}(h:A<=B){x:cC}(k:zH A x):zH B x:=⟨anw k.kY h,anw k.at_ h,λl hl=>anw (k.AE l hl) h⟩
theorem J3.mono{A B:Nat}(h:A<=B){e:ar}(k:J3 A e):J3 B e:=⟨anw k.kY h,anw k.idx h,λx hx=>(k.each x hx).mono h,anw k.args h⟩
abbrev qx:Nat:=140737488355328
theorem wX{a b:Nat}(h:a+b<=9223372036854775807):aP ((a:Int)+(b:Int))=((a+b:Nat):Int):=by
 rw[<-Int.natCast_add];exact IQ h
def Wt(m n:Nat)(Q:Prop)(r:an5 Int):Prop:=∃v:Nat,r=some (v:Int)/\n<=v/\v<=m+500000000000000/\(v<=m->Q)
theorem RJ(N:Nat)(m:Nat)(hm:m<=100000)(rec:ar->Int->an5 Int)(rH:ar->Prop)(hr:∀(x:ar)(q:Nat),q<=m->rH x->Wt q 1 (ik q x) (rec x (q:Int))):∀(l:an3 ar)(k v:Nat),v<=m+500000000000000->(∀x∈l,rH x)->
 Wt m v (v+l.length<=m/\∀x∈l,ik m x) (xr N (m:Int) rec l k (v:Int))/\Bx N (m:Int) rec l k (v:Int)=xr N (m:Int) rec l k (v:Int)
 |[],k,v,hv,_=>⟨⟨v,rfl,anp _,by omega,λh=>⟨h,λ_ h=>by cases h⟩⟩,rfl⟩
 |x::l,k,v,hv,hx=>by
  rw[xr,Bx,vi];by_cases h:v<=m
  ·rw[anW h,cond_true,cond_true,show aP ((m:Int)-(v:Int))=((m-v:Nat):Int) by rw[show(m:Int)-(v:Int)=((m-v:Nat):Int) by omega];exact IQ (by omega)];obtain⟨n,e1,e2,e3,e4⟩:=hr x (m-v) (Nat.sub_le _ _) (hx x ank);rw[e1,anc,anc];dsimp only;rw[wX (by omega)];by_cases hn:v+n<=m
   ·obtain⟨⟨u,f1,f2,f3,f4⟩,f5⟩:=RJ N m hm rec rH hr l (k+1) (v+n) (by omega) λy hy=>hx y (ann _ hy);refine⟨⟨u,f1,by omega,f3,λhu=> ?_⟩,f5⟩;obtain⟨g1,g2⟩:=f4 hu;refine⟨by simp only[anh];omega,λy hy=> ?_⟩;rcases anJ.1 hy with rfl|hy
    ·exact λz hz=>(e4 (by omega) z hz).mono (by omega)
    ·exact g2 y hy
   ·have stop:∀(l:an3 ar)(k:Nat),xr N (m:Int) rec l k ((v+n:Nat):Int)=some ((v+n:Nat):Int)/\Bx N (m:Int) rec l k ((v+n:Nat):Int)=some ((v+n:Nat):Int):=by
     intro l k;cases l with
     |nil=>exact⟨rfl,rfl⟩
     |cons y l=>rw[xr,Bx,vi,anX hn];exact⟨rfl,rfl⟩
    rw[(stop l (k+1)).1,(stop l (k+1)).2];exact⟨⟨v+n,rfl,by omega,by omega,λh=>absurd h hn⟩,rfl⟩
  ·rw[anX h];exact⟨⟨v,rfl,anp _,by omega,λh'=>absurd h' h⟩,rfl⟩
theorem VF(N:Nat)(m:Nat)(hm:m<=100000)(c:Int->an5 Int)(lo:Nat)(Q:Prop)(hc:∀v:Nat,v<=m+500000000000000->lo<=v->Wt m v Q (c (v:Int))):∀(l:an3 bj)(k v:Nat),v<=m+500000000000000->lo<=v->(∀x∈l,x.xL.length<=qx)->
 Wt m v (Q/\∀x∈l,x.xL.length<=m) (JP N c (m:Int) l k (v:Int))
 |[],k,v,hv,kp,_=>by
  obtain⟨u,J,h2,h3,h4⟩:=hc v hv kp;exact⟨u,J,h2,h3,λh=>⟨h4 h,λ_ h=>by cases h⟩⟩
 |x::l,k,v,hv,kp,hx=>by
  rw[JP,vi];by_cases h:v<=m
  ·have xM:x.xL.length<=140737488355328:=hx x ank;rw[anW h,cond_true];dsimp only;rw[wX (by omega)];obtain⟨u,f1,f2,f3,f4⟩:=VF N m hm c lo Q hc l (k+1) (v+x.xL.length) (by omega) (by omega) λy hy=>hx y (ann _ hy);refine⟨u,f1,by omega,f3,λhu=>⟨(f4 hu).1,λy hy=> ?_⟩⟩;rcases anJ.1 hy with rfl|hy
   ·omega
   ·exact(f4 hu).2 y hy
  ·rw[anX h,cond_false];obtain⟨u,J,h2,h3,h4⟩:=hc v hv kp;exact⟨u,J,h2,h3,λhu=>absurd (anw h2 hu) h⟩
theorem SR(N:Nat)(m:Nat)(hm:m<=100000)(rec:ar->Int->an5 Int)(rH:ar->Prop)(hr:∀(x:ar)(q:Nat),q<=m->rH x->Wt q 1 (ik q x) (rec x (q:Int)))(e:ar)(ha:∀x∈e.bM,rH x):∀(l:an3 cC)(k v:Nat),v<=m+500000000000000->(∀x∈l,zH qx x)->
 Wt m v ((e.bM.length<=m/\∀x∈e.bM,ik m x)/\∀x∈l,zH m x) (A9 N (m:Int) rec e l k (v:Int))
 |[],k,v,hv,_=>by
  rw[A9];obtain⟨u,J,h2,h3,h4⟩:=(RJ N m hm rec rH hr e.bM 0 v hv ha).1;exact⟨u,J,h2,h3,λh=>⟨⟨by have:=(h4 h).1;omega,(h4 h).2⟩,λ_ h=>by cases h⟩⟩
 |x::l,k,v,hv,hx=>by
  rw[A9,vi];by_cases h:v<=m
  ·have xM:=hx x ank;have J:x.bq.xL.length<=140737488355328:=xM.kY;have h2:x.cM.length<=140737488355328:=xM.at_;rw[anW h,cond_true,wX (by omega),wX (by omega)];obtain⟨u,f1,f2,f3,f4⟩:=VF N m hm (λcd=>A9 N (m:Int) rec e l (k+1) cd) 0 _ (λv hv _=>SR N m hm rec rH hr e ha l (k+1) v hv λy hy=>hx y (ann _ hy)) x.cM 0 (v+x.bq.xL.length+x.cM.length) (by omega) (Nat.zero_le _) xM.AE;refine⟨u,f1,by omega,f3,λhu=> ?_⟩;obtain⟨⟨g1,g2⟩,g3⟩:=f4 hu;refine⟨g1,λy hy=> ?_⟩;rcases anJ.1 hy with rfl|hy
   ·exact⟨by omega,by omega,g3⟩
   ·exact g2 y hy
  ·rw[anX h,cond_false];obtain⟨⟨u,J,h2,h3,h4⟩,h5⟩:=RJ N m hm rec rH hr e.bM 0 v hv ha;rw[h5];exact⟨u,J,h2,h3,λhu=>absurd (anw h2 hu) h⟩
theorem V2(N:Nat):∀(d:Nat)(e:ar)(m:Nat),m<=100000->SizeOf.sizeOf e<d->ik qx e->Wt m 1 (ik m e) (EJ N d e (m:Int))
 |0,_,_,_,h,_=>absurd h (anH _)
 |d+1,e,m,hm,h,hl=>by
  have he:=hl e ank;have J:e.bq.xL.length<=140737488355328:=he.kY;have h2:e.xIdx.length<=140737488355328:=he.idx;rw[EJ,show(1:Int)=((1:Nat):Int)from rfl,wX (by omega),wX (by omega)];obtain⟨u,f1,f2,f3,f4⟩:=SR N m hm (EJ N d) (λx=>SizeOf.sizeOf x<d/\ik qx x) (λx q hq hx=>V2 N d x q (by omega) hx.1 hx.2) e (λx hx=>⟨by have:=nw hx;omega,hl.arg hx⟩) e.xIdx 0 (1+e.bq.xL.length+e.xIdx.length) (by omega) he.each;refine⟨u,f1,by omega,f3,λhu=> ?_⟩;obtain⟨⟨g1,g2⟩,g3⟩:=f4 hu;intro y hy;rcases anJ.1 hy with rfl|hy
  ·exact⟨by omega,by omega,g3,g1⟩
  ·obtain⟨x,hx,hy⟩:=O9 hy;exact g2 x hx y hy
structure K5(d:bx):Prop where
 I0:d.aU.length<=12
 red:d.bV.length<=12
 aee:∀a∈d.aU++d.bV,a.dH.xL.length<=20
 body:ik 400 d.bO
structure zo(p:aV):Prop where
 s:p.bn.length<=12
 w:p.dS.length<=12
 q:p.aW.length<=12
 d:p.aN.length<=12
 o:p.du.length<=12
 W:∀c∈p.dS,c.bq.xL.length<=20
 P:∀x∈p.aW,x.aU.length<=12/\∀y∈x.aU,y.xL.length<=20
 D:∀d∈p.aN,K5 d
def Bt(Q:Prop)(r:an5 Bool):Prop:=∃b,r=some b/\(b=false->Q)
theorem Bt.mono{Q R:Prop}{r:an5 Bool}(h:Bt Q r)(f:Q->R):Bt R r:=let ⟨b,J,h2⟩:=h;⟨b,J,λe=>f (h2 e)⟩
theorem P4(n:Nat):decide ((n:Int)>20)= !decide (n<=20):=kN n 20
theorem tS(n:Nat):decide ((n:Int)>12)= !decide (n<=12):=kN n 12
theorem R9(N:Nat):∀(l:an3 bj)(k:Nat),Bt (∀y∈l,y.xL.length<=20) (I3 N l k)
 |[],_=>⟨_,rfl,λ_ _ h=>by cases h⟩
 |x::l,k=>by
  rw[I3,P4];by_cases h:x.xL.length<=20
  ·rw[anW h];refine(R9 N l (k+1)).mono λg y hy=> ?_;rcases anJ.1 hy with rfl|hy
   ·exact h
   ·exact g y hy
  ·rw[anX h];exact⟨true,rfl,λh=>by cases h⟩
theorem aaN(N:Nat)(d:bx)(c:an5 Bool)(Q:Prop)(hc:Bt Q c)(J:d.aU.length<=12)(h2:d.bV.length<=12):∀(n k:Nat),k<=d.aU.length+d.bV.length->d.aU.length+d.bV.length-k<n->
 Bt (Q/\∀a∈(d.aU++d.bV).drop k,a.dH.xL.length<=20) (Kz N d c n (k:Int))
 |0,k,_,h=>absurd h (anH _)
 |n+1,k,hk,h=>by
  rw[Kz,wX (by omega)];by_cases hl:k<d.aU.length+d.bV.length
  ·have pI:k<(d.aU++d.bV).length:=by rw[anf];exact hl
   rw[show decide ((k:Int)<((d.aU.length+d.bV.length:Nat):Int))=true from anW (by omega),fJ (by omega),fJ (by omega),show decide ((0:Int)<=(k:Int))=true from anW (by omega),cond_true,cond_true,cond_true,cond_true,anG,ani pI,anc,P4,List.drop_eq_getElem_cons pI,HG (by omega)];by_cases gD:((d.aU++d.bV)[k]).dH.xL.length<=20
   ·rw[anW gD];refine(aaN N d c Q hc J h2 n (k+1) (by omega) (by omega)).mono fun⟨g1,g2⟩=>⟨g1,λy hy=> ?_⟩;rcases anJ.1 hy with rfl|hy
    ·exact gD
    ·exact g2 y hy
   ·rw[anX gD];exact⟨true,rfl,λh=>by cases h⟩
  ·rw[show decide ((k:Int)<((d.aU.length+d.bV.length:Nat):Int))=false from anX (by omega),cond_false,List.drop_eq_nil_of_le (by rw[anf];omega)];exact hc.mono λg=>⟨g,λ_ h=>by cases h⟩
theorem ZV(N m:Nat)(hm:m<=400)(hN:1000<N):∀(l:an3 bx)(k:Nat),(∀d∈l,ik qx d.bO/\SizeOf.sizeOf d.bO<N)->Bt (∀d∈l,K5 d) (I1 N (m:Int) l k)
 |[],_,_=>⟨_,rfl,λ_ _ h=>by cases h⟩
 |d::l,k,hd=>by
  obtain⟨d1,d2⟩:=hd d ank;have ih:=ZV N m hm hN l (k+1) λy hy=>hd y (ann _ hy);obtain⟨v,w1,w2,w3,w4⟩:=V2 N N d.bO m (by omega) d2 d1;rw[I1,tS,tS];unfold Tw;rw[w1,anc,show decide ((v:Int)>(m:Int))= !decide (v<=m)from kN v m];by_cases J:d.aU.length<=12
  ·rw[anW J];by_cases h2:d.bV.length<=12
   ·rw[anW h2];by_cases h3:v<=m
    ·rw[anW h3];have:=aaN N d _ _ ih J h2 N 0 (Nat.zero_le _) (by omega);rw[anO]at this;refine Bt.mono this fun⟨g1,g2⟩ y hy=> ?_;rcases anJ.1 hy with rfl|hy
     ·exact⟨J,h2,g2,λz hz=>(w4 h3 z hz).mono hm⟩
     ·exact g1 y hy
    ·rw[anX h3];exact⟨true,rfl,λh=>by cases h⟩
   ·rw[anX h2];exact⟨true,rfl,λh=>by cases h⟩
  ·rw[anX J];exact⟨true,rfl,λh=>by cases h⟩
theorem Sl(N m:Nat)(hm:m<=400)(hN:1000<N)(p:aV)(hd:∀d∈p.aN,ik qx d.bO/\SizeOf.sizeOf d.bO<N):∀(l:an3 eH)(k:Nat),Bt ((∀d∈p.aN,K5 d)/\∀x∈l,x.aU.length<=12/\∀y∈x.aU,y.xL.length<=20) (HS N (m:Int) p l k)
 |[],_=>(ZV N m hm hN p.aN 0 hd).mono λg=>⟨g,λ_ h=>by cases h⟩
 |x::l,k=>by
  obtain⟨b,b1,b2⟩:=R9 N x.aU 0;rw[HS,tS];unfold SL;rw[b1,anc];by_cases h:x.aU.length<=12
  ·rw[anW h];cases b with
   |true=>exact⟨true,rfl,λh=>by cases h⟩
   |false=>
    refine(Sl N m hm hN p hd l (k+1)).mono fun⟨g1,g2⟩=>⟨g1,λy hy=> ?_⟩;rcases anJ.1 hy with rfl|hy
    ·exact⟨h,b2 rfl⟩
    ·exact g2 y hy
  ·rw[anX h];exact⟨true,rfl,λh=>by cases h⟩
theorem ZA(N m:Nat)(hm:m<=400)(hN:1000<N)(p:aV)(hd:∀d∈p.aN,ik qx d.bO/\SizeOf.sizeOf d.bO<N):∀(l:an3 gL)(k:Nat),Bt (((∀d∈p.aN,K5 d)/\∀x∈p.aW,x.aU.length<=12/\∀y∈x.aU,y.xL.length<=20)/\∀c∈l,c.bq.xL.length<=20) (Kt N (m:Int) p l k)
 |[],_=>(Sl N m hm hN p hd p.aW 0).mono λg=>⟨g,λ_ h=>by cases h⟩
 |c::l,k=>by
  rw[Kt,P4];by_cases h:c.bq.xL.length<=20
  ·rw[anW h];refine(ZA N m hm hN p hd l (k+1)).mono fun⟨g1,g2⟩=>⟨g1,λy hy=> ?_⟩;rcases anJ.1 hy with rfl|hy
   ·exact h
   ·exact g2 y hy
  ·rw[anX h];exact⟨true,rfl,λh=>by cases h⟩
theorem alw(N m:Nat)(hm:m<=400)(hN:1000<N)(p:aV)(hd:∀d∈p.aN,ik qx d.bO/\SizeOf.sizeOf d.bO<N):Bt (zo p) (HO N p (m:Int)):=by
 unfold HO;rw[tS,tS,tS,tS,tS];by_cases J:p.bn.length<=12
 ·by_cases h2:p.dS.length<=12
  ·by_cases h3:p.aW.length<=12
   ·by_cases h4:p.aN.length<=12
    ·by_cases h5:p.du.length<=12
     ·rw[anW J,anW h2,anW h3,anW h4,anW h5];exact(ZA N m hm hN p hd p.dS 0).mono fun⟨⟨g1,g2⟩,g3⟩=>⟨J,h2,h3,h4,h5,g3,g2,g1⟩
     ·rw[anW J,anW h2,anW h3,anW h4,anX h5];exact⟨true,rfl,λh=>by cases h⟩
    ·rw[anW J,anW h2,anW h3,anX h4];exact⟨true,rfl,λh=>by cases h⟩
   ·rw[anW J,anW h2,anX h3];exact⟨true,rfl,λh=>by cases h⟩
  ·rw[anW J,anX h2];exact⟨true,rfl,λh=>by cases h⟩
 ·rw[anX J];exact⟨true,rfl,λh=>by cases h⟩
theorem aci(n:Nat):yn (n+3000)=some true:=by kernel_rfl
theorem amE{N:Nat}(h:3000<=N):yn N=some true:=by
 obtain⟨n,rfl⟩:∃n,N=n+3000:=⟨N-3000,by omega⟩;exact aci n
theorem ik.na{B:Nat}(hB:B<=100000){e:ar}(h:ik B e):na e:=λy hy=>
 have hm:100000<=maxLen:=by decide
 have H:=h y hy
 ⟨anw (anw H.kY hB) hm,λx hx=>⟨anw (anw (H.each x hx).kY hB) hm,λl hl=>anw (anw ((H.each x hx).AE l hl) hB) hm⟩,anw (anw H.args hB) hm⟩
theorem ik.ev{B:Nat}(hB:B<=100000){e:ar}(h:ik B e)(hv:mD e=0):Ev e:=
 have hm:100000<=4611686018427387904:=by decide
 ⟨λy hy=>L5 hv y hy,λy hy=>
  have H:=h y hy
  ⟨anw (anw H.kY hB) hm,λx hx=>⟨anw (anw (H.each x hx).kY hB) hm,λl hl=>anw (anw ((H.each x hx).AE l hl) hB) hm⟩⟩⟩
theorem alC{N:Nat}{p:aV}(h:zo p)(hs:∀d∈p.aN,SizeOf.sizeOf d.bO<N):Bd N p:=
 ⟨anw h.s (by decide),anw h.w (by decide),anw h.q (by decide),anw h.d (by decide),anw h.o (by decide),
  ⟨λx hx=>anw (h.P x hx).1 (by decide),λx hx y hy=>anw ((h.P x hx).2 y hy) (by decide)⟩,
  ⟨λd hd=>by have J:=(h.D d hd).I0;have h2:=(h.D d hd).red;omega,λd hd y hy=>anw ((h.D d hd).aee y hy) (by decide)⟩,
  λc hc=>anw (h.W c hc) (by decide),λd hd=>⟨(h.D d hd).body.na (by decide),hs d hd⟩⟩
def pM(v:Int64):Bool:=decide (1<=v.toInt)&&decide (v.toInt<=4096)
def KR(env:an3 aL)(s:an4):Bool:=match lV env s with
 |none=>false
 |some v=>pM v
def sO(c:gL)(env:an3 aL):Bool×Int:=
 let q:=cW c.bq env
 bif q.2 !=0 then(false,q.2)else(bif q.1.toInt==0 then true else bif decide (q.1.toInt>0)then !c.DW else false,0)
def vl(env:an3 aL):an3 gL->Int
 |[]=>0
 |c::l=>bif (sO c env).2 !=0 then(sO c env).2 else bif (sO c env).1 then vl env l else 16
def Hj(p:aV)(env:an3 aL):Int:=bif (env.length:Int) !=(p.bn.length:Int)then 15 else bif p.bn.all (KR env)then vl env p.dS else 15
theorem aeX(N:Nat)(hN:2147483648<N)(c:gL)(env:an3 aL)(h:c.bq.xL.length<=4611686018427387904):JM N c env=some (sO c env):=by
 unfold JM sO;rw[Fa N hN _ _ h,anc];dsimp only;cases (cW c.bq env).2 !=0 with
 |true=>rfl
 |false=>
  simp only[cond_false];cases (cW c.bq env).1.toInt==0 with
  |true=>rfl
  |false=>cases decide ((cW c.bq env).1.toInt>0)<;>rfl
theorem akf(N:Nat)(hN:2147483648<N)(c:gL)(env:an3 aL)(h:c.bq.xL.length<=4611686018427387904):Pe N c env=some (sO c env):=by
 unfold Pe sO;rw[ahK N hN _ _ h,anc];dsimp only;cases (cW c.bq env).2 !=0 with
 |true=>rfl
 |false=>
  simp only[cond_false];cases (cW c.bq env).1.toInt==0 with
  |true=>rfl
  |false=>cases decide ((cW c.bq env).1.toInt>0)<;>rfl
theorem W5(N:Nat)(hN:2147483648<N)(env:an3 aL):∀(l:an3 gL)(k:Nat),(∀c∈l,c.bq.xL.length<=4611686018427387904)->Iz N env l k=some (vl env l)/\JL N env l k=some (vl env l)
 |[],k,_=>⟨rfl,rfl⟩
 |c::l,k,h=>by
  obtain⟨J,h2⟩:=W5 N hN env l (k+1) λx hx=>h x (ann _ hx);rw[Iz,JL,aeX N hN c env (h c ank),akf N hN c env (h c ank),anc,anc,J,h2,vl];cases (sO c env).2 !=0 with
  |true=>exact⟨rfl,rfl⟩
  |false=>cases (sO c env).1<;>exact⟨rfl,rfl⟩
theorem Tm(N:Nat)(s:an4):∀(env:an3 aL)(k:Nat),(lV env s=none->CD N s env k=some (-1))/\(∀v,lV env s=some v->∃i b,CD N s env k=some ((k+i:Nat):Int)/\env[i]?=some b/\b.dF=v)
 |[],k=>⟨λ_=>rfl,λv h=>by cases h⟩
 |b::r,k=>by
  obtain⟨J,h2⟩:=Tm N s r (k+1);unfold lV CD Nh;simp only[anc];cases hb:(bL b.au==bL s)with
  |true=>exact⟨λh=>(by cases h),λv h=>by cases h;exact⟨0,b,rfl,rfl,rfl⟩⟩
  |false=>
   simp only[cond_false];refine⟨J,λv h=> ?_⟩;obtain⟨i,c,q1,q2,q3⟩:=h2 v h;exact⟨i+1,c,by rw[q1];congr 2;omega,q2,q3⟩
theorem Y3(N:Nat)(s:an4):∀(env:an3 aL)(k:Nat),KL N s env k=some (match lV env s with|none=>(0,false)|some v=>(v,true))
 |[],_=>rfl
 |b::r,k=>by
  rw[KL,lV];cases bL b.au==bL s with
  |true=>rfl
  |false=>exact Y3 N s r (k+1)
theorem TS(v:Int64):(bif decide (v.toInt<1)then some true else some (decide (v.toInt>4096)))=some (!pM v):=by
 unfold pM;by_cases J:v.toInt<1
 ·rw[anW J,anX (show ¬1<=v.toInt by omega)];rfl
 ·rw[anX J,anW (show 1<=v.toInt by omega)];by_cases h2:v.toInt>4096
  ·rw[anW h2,anX (show ¬v.toInt<=4096 by omega)];rfl
  ·rw[anX h2,anW (show v.toInt<=4096 by omega)];rfl
theorem S6(N:Nat)(hN:2147483648<N)(env:an3 aL)(p:aV)(hw:∀c∈p.dS,c.bq.xL.length<=4611686018427387904):∀(l:an3 an4)(k:Nat),Jh N env p l k=some (bif l.all (KR env)then vl env p.dS else 15)/\OX N env p l k=some (bif l.all (KR env)then vl env p.dS else 15)
 |[],k=>W5 N hN env p.dS 0 hw
 |s::l,k=>by
  obtain⟨J,h2⟩:=S6 N hN env p hw l (k+1);rw[Jh,OX,J,h2,anZ];unfold Rt Tu KR;rw[Y3 N s env 0,anc];obtain⟨q1,q2⟩:=Tm N s env 0;cases he:lV env s with
  |none=>rw[q1 he];exact⟨rfl,rfl⟩
  |some v=>
   obtain⟨i,b,r1,r2,rfl⟩:=q2 v he;rw[r1];simp only[anc,anz];rw[anX (show ¬(i:Int)<0 by omega),anW (show(0:Int)<=(i:Int) by omega),anG,r2];simp only[anc,cond_true,cond_false];rw[TS];cases pM b.dF<;>exact⟨rfl,rfl⟩
theorem amm(N:Nat)(hN:2147483648<N)(env:an3 aL)(p:aV)(hw:∀c∈p.dS,c.bq.xL.length<=4611686018427387904):FZ N p env=some (Hj p env):=by
 unfold FZ Hj;rw[(S6 N hN env p hw p.bn 0).1];cases (env.length:Int) !=(p.bn.length:Int)<;>rfl
def fb(env:an3 aL):an3 bj->an3 Int->an3 Int×Int
 |[],acc=>(acc,0)
 |f::l,acc=>bif (cW f env).2 !=0 then([],(cW f env).2)else bif pM (cW f env).1 then fb env l (acc++[(cW f env).1.toInt])else([],15)
theorem RB(N:Nat)(hN:2147483648<N)(env:an3 aL):∀(l:an3 bj)(k:Nat)(acc:an3 Int),(∀x∈l,lQ 1000000000 x)->acc.length+l.length<=1000000000->Kg N env l k acc=some (fb env l acc)
 |[],k,acc,_,_=>rfl
 |f::l,k,acc,h,hl=>by
  simp only[anh]at hl;have hf:f.xL.length<=4611686018427387904:=anw (h f ank) (by decide);have J:=RB N hN env l (k+1) (acc++[(cW f env).1.toInt]) (λx hx=>h x (ann _ hx)) (by simp only[anf,anh,anq];omega);rw[Kg,Fa N hN f env hf,anc,TS,anc,fJ (by omega),cond_true];dsimp only;rw[J,fb];cases (cW f env).2 !=0 with
  |true=>rfl
  |false=>cases pM (cW f env).1<;>rfl
theorem Hl(env:an3 aL):∀(l:an3 bj)(acc:an3 Int),(∀x∈acc,1<=x/\x<=4096)->∀x∈(fb env l acc).1,1<=x/\x<=4096
 |[],acc,h=>h
 |f::l,acc,h=>by
  rw[fb];cases (cW f env).2 !=0 with
  |true=>exact λx hx=>by cases hx
  |false=>
   rw[cond_false];cases hr:pM (cW f env).1 with
   |false=>exact λx hx=>by cases hx
   |true=>
    rw[cond_true];refine Hl env l _ λx hx=> ?_;rcases anR.1 hx with hx|hx
    ·exact h x hx
    ·rw[List.mem_singleton]at hx;subst hx;unfold pM at hr;rw[ang,decide_eq_true_eq,decide_eq_true_eq]at hr;exact hr
def cS:an3 Int->Int
 |[]=>1
 |x::l=>x*cS l
theorem sT:∀{l:an3 Int},(∀x∈l,1<=x/\x<=4096)->1<=cS l
 |[],_=>by decide
 |x::l,h=>by
  rw[cS];have J:=sT λy hy=>h y (ann _ hy);have h2:=(h x ank).1;have:=Int.mul_le_mul h2 J (by decide) (by omega);omega
theorem TC(N:Nat)(lim:Int)(hl:lim<=65536):∀(l:an3 Int)(k:Nat)(v:Int),(∀x∈l,1<=x/\x<=4096)->1<=v->v<=lim->CV N lim l k v=some (if v*cS l<=lim then v*cS l else lim+1)
 |[],k,v,_,J,h2=>by
  rw[CV,cS,Int.mul_one,if_pos h2]
 |x::l,k,v,h,J,h2=>by
  have hx:=h x ank;have hp:=sT (l:=l) λy hy=>h y (ann _ hy);have iC:v*x<=65536*4096:=Int.mul_le_mul (by omega) hx.2 (by omega) (by omega);have lG:1*1<=v*x:=Int.mul_le_mul J hx.1 (by decide) (by omega);rw[CV,cS,jr (by omega) (by omega),<-Int.mul_assoc];by_cases hc:v*x>lim
  ·rw[anW hc,cond_true,jr (by omega) (by omega),if_neg];have:v*x*1<=v*x*cS l:=Int.mul_le_mul_of_nonneg_left hp (by omega);omega
  ·rw[anX hc,cond_false];dsimp only;exact TC N lim hl l (k+1) (v*x) (λy hy=>h y (ann _ hy)) (by omega) (by omega)
theorem amV(N:Nat)(lim:Int)(J:1<=lim)(hl:lim<=65536)(l:an3 Int)(h:∀x∈l,1<=x/\x<=4096):Mh N l lim=some (if cS l<=lim then cS l else lim+1):=by
 have:=TC N lim hl l 0 1 h (by decide) J
 rwa [Int.one_mul]at this
theorem RY(lim:Int)(J:1<=lim)(hl:lim<=65536)(n:Int):decide ((if n<=lim then n else lim+1)>lim)=decide (n>lim):=by
 by_cases h:n<=lim
 ·rw[if_pos h]
 ·rw[if_neg h,anW (show lim+1>lim by omega),anW (show n>lim by omega)]
theorem adp{P:an3 eH}{D:an3 bx}(hP:lT P)(hD:gO D)(s:an4):(dI P D s).2.1.length<=1000000000/\∀y∈(dI P D s).2.1,lQ 1000000000 y:=by
 unfold dI;cases J:P.find? (λx=>bL x.au==bL s)with
 |some x=>
  have:=List.mem_of_find?_eq_some J;exact⟨hP.len x this,hP.kg x this⟩
 |none=>
  dsimp only;cases h2:D.find? (lg s)with
  |some d=>
   have hd:=List.mem_of_find?_eq_some h2;refine⟨?_,λy hy=> ?_⟩
   ·have:=hD.len d hd;dsimp only;rw[anj];omega
   ·obtain⟨a,ha,rfl⟩:=List.mem_map.1 hy;exact hD.I0 hd a ha
  |none=>exact⟨by simp,λy hy=>by cases hy⟩
def eQ(p:aV)(env:an3 aL)(s:an4):an3 Int×aF×Int:=
 let q:=dI p.aW p.aN s
 bif q.2.2 then
  (let x:=fb env q.2.1 []
   bif x.2 !=0 then([],q.1,x.2)else bif decide (cS x.1>4096)then([],q.1,15)else(x.1,q.1,0))
 else([],q.1,9)
theorem OV(N:Nat)(hN:2147483648<N)(p:aV)(env:an3 aL)(s:an4)(hP:lT p.aW)(hD:gO p.aN):yS N p env s=some (eQ p env s):=by
 unfold yS eQ Cd;rw[Nx N p s hP hD,anc];obtain⟨J,h2⟩:=adp hP hD s;rw[RB N hN env (dI p.aW p.aN s).2.1 0 [] h2 (by simpa using J)];dsimp only;cases (dI p.aW p.aN s).2.2 with
 |false=>rfl
 |true=>
  simp only[cond_true,anc];cases hx:(fb env (dI p.aW p.aN s).2.1 []).2 !=0 with
  |true=>rfl
  |false=>
   rw[cond_false,cond_false,amV N 4096 (by decide) (by decide) _ (Hl env _ [] λx hx=>by cases hx),anc,RY 4096 (by decide) (by decide)];cases decide (cS (fb env (dI p.aW p.aN s).2.1 []).1>4096)<;>rfl
def gK:an3 Int->Int->an3 Int×Int
 |[],n=>([],n)
 |x::l,n=>((gK l n).2.tmod x::(gK l n).1,(gK l n).2.tdiv x)
def jx(ext:an3 Int)(n:Int):an3 Int:=(gK ext n).1
theorem G9:∀(l:an3 Int)(n:Int),(gK l n).1.length=l.length
 |[],_=>rfl
 |x::l,n=>by rw[gK];simp only[anh];rw[G9 l n]
theorem amy(l:an3 Int)(n:Int):(jx l n).length=l.length:=G9 l n
structure pj(l:List Int):Prop where
 r:∀x∈l,1<=x/\x<=4096
 n:l.length<=16
 p:cS l<=65536
theorem F3:∀{l:an3 Int}{n:Int},(∀x∈l,1<=x/\x<=4096)->0<=n->n<=65537->(0<=(gK l n).2/\(gK l n).2<=65537)/\∀x∈(gK l n).1,0<=x/\x<4096
 |[],n,_,J,h2=>⟨⟨J,h2⟩,λx hx=>by cases hx⟩
 |x::l,n,h,J,h2=>by
  obtain⟨⟨a1,a2⟩,a3⟩:=F3 (l:=l) (λy hy=>h y (ann _ hy)) J h2;have hx:=h x ank;rw[gK];refine⟨⟨Int.tdiv_nonneg a1 (by omega),?_⟩,λy hy=> ?_⟩
  ·rw[Int.tdiv_eq_ediv_of_nonneg a1];exact Int.le_trans (Int.ediv_le_self _ a1) a2
  ·rcases anJ.1 hy with rfl|hy
   ·rw[Int.tmod_eq_emod_of_nonneg a1];have:=Int.emod_nonneg (gK l n).2 (show x≠0 by omega);have:=Int.emod_lt_of_pos (gK l n).2 (show 0<x by omega);omega
   ·exact a3 y hy
theorem alv{l:an3 Int}{n:Int}(h:∀x∈l,1<=x/\x<=4096)(J:0<=n)(h2:n<=65537):∀x∈jx l n,0<=x/\x<4096:=(F3 h J h2).2
theorem RQ{α:Type}{l:an3 α}{j:Nat}{x:α}(h:l[j]?=some x):l.drop j=x::l.drop (j+1):=by
 obtain⟨hj,rfl⟩:=ane.1 h;exact List.drop_eq_getElem_cons hj
theorem adu{α:Type}(a b:α)(j:Nat)(l:an3 α):(List.replicate (j+1) a++l).set j b=List.replicate j a++(b::l):=by
 rw[List.replicate_succ',anv,List.set_append_right _ _ (by simp)];simp
theorem afu{α:Type}(a:α)(j:Nat)(l:an3 α):(List.replicate (j+1) a++l)[j]?=some a:=by
 rw[ano (by simp)];simp [List.getElem?_replicate]
theorem Vy{z:Int}(J:0<=z)(h2:z<=65537):IntKind.i64.wrap z=z:=by
 rw[IntKind.wrap_i64];omega
theorem V3(N:Nat)(ext:an3 Int)(n:Int)(h:∀x∈ext,1<=x/\x<=4096)(J:0<=n)(h2:n<=65537):∀(j f:Nat),j<=ext.length->j<f->j<=1000->
 Ae N ext f (gK (ext.drop j) n).2 ((j:Int)-1) (List.replicate j 0++(gK (ext.drop j) n).1)=some (jx ext n,true)
 |0,f,hj,hf,_=>by
  obtain⟨f,rfl⟩:∃f',f=f'+1:=⟨f-1,by omega⟩;rw[Ae,anX (by decide),cond_false,anO,List.replicate_zero,List.nil_append,show Nat.beq (gK ext n).1.length ext.length=true by rw[G9];exact Nat.beq_refl _];rfl
 |j+1,f,hj,hf,hs=>by
  obtain⟨f,rfl⟩:∃f',f=f'+1:=⟨f-1,by omega⟩;obtain⟨x,hx⟩:∃x,ext[j]?=some x:=⟨_,ani (by omega)⟩;have hr:=h x (anr hx);have hd:=RQ hx;have hq:=(F3 (l:=ext.drop (j+1)) (n:=n) (λy hy=>h y (List.mem_of_mem_drop hy)) J h2).1;rw[Ae,show((j+1:Nat):Int)-1=(j:Int) by omega,anW (show(j:Int)>=0 by omega),cond_true,cond_true,anG,hx,anc,bne_iff_ne.2 (show x≠0 by omega),cond_true];have hb:(List.replicate (j+1) (0:Int)++(gK (ext.drop (j+1)) n).1).length=ext.length:=by
   rw[anf,anP,G9,List.length_drop];omega
  rw[hb,Nat.beq_refl,cond_true,anW (show(j:Int)<(ext.length:Int) by omega),cond_true,afu,anc,adu];have e1:IntKind.i64.wrap ((gK (ext.drop (j+1)) n).2.tdiv x)=(gK (ext.drop j) n).2:=by
    have e:=(F3 (l:=ext.drop j) (n:=n) (λy hy=>h y (List.mem_of_mem_drop hy)) J h2).1;rw[hd,gK]at e ⊢;exact Vy e.1 e.2
  have e2:(gK (ext.drop (j+1)) n).2.tmod x::(gK (ext.drop (j+1)) n).1=(gK (ext.drop j) n).1:=by rw[hd,gK]
  rw[e1,e2,jr (by omega) (by omega)];exact V3 N ext n h J h2 j f (by omega) (by omega) (by omega)
theorem aa6(N:Nat)(ext:an3 Int):∀(l:an3 Int)(k:Nat),(∀x∈l,1<=x/\x<=4096)->Jq N ext l k false=yt N false ext 0 1
 |[],k,_=>rfl
 |x::l,k,h=>by
  have hx:=h x ank;rw[Jq,anX (show ¬x<0 by omega),cond_false,cond_false,anc];dsimp only;rw[show(x==0)=false by rw[beq_eq_false_iff_ne];omega];exact aa6 N ext l (k+1) λy hy=>h y (ann _ hy)
theorem XP(N:Nat):∀(l:an3 Int)(k:Nat)(v:Int),(∀x∈l,1<=x/\x<=4096)->1<=v->v*cS l<=65536->yt N false l k v=some 0
 |[],k,v,_,_,_=>rfl
 |x::l,k,v,h,J,h2=>by
  have hx:=h x ank;have hp:=sT (l:=l) λy hy=>h y (ann _ hy);rw[cS,<-Int.mul_assoc]at h2;have lG:1*1<=v*x:=Int.mul_le_mul J hx.1 (by decide) (by omega);have iC:v*x*1<=v*x*cS l:=Int.mul_le_mul_of_nonneg_left hp (by omega);have jY:v*1<=v*x:=Int.mul_le_mul_of_nonneg_left hx.1 (by omega);have hd:x<=(65536:Int).tdiv v:=by
   rw[Int.tdiv_eq_ediv_of_nonneg (by decide)];refine(Int.le_ediv_iff_mul_le (by omega)).2 ?_;rw[Int.mul_comm];omega
  have nI:(65536:Int).tdiv v<=65536:=by
   rw[Int.tdiv_eq_ediv_of_nonneg (by decide)];exact Int.ediv_le_self _ (by decide)
  rw[yt,cond_false,bne_iff_ne.2 (show v≠0 by omega),cond_true,anc,Vy (by omega) (by omega),anX (show ¬x>(65536:Int).tdiv v by omega),cond_false,cond_false,jr (by omega) (by omega)];exact XP N l (k+1) (v*x) (λy hy=>h y (ann _ hy)) (by omega) h2
theorem Zx(N:Nat):∀(l:an3 Int)(k:Nat)(v:Int),(∀x∈l,1<=x/\x<=4096)->1<=v->v*cS l<=65536->yg N l k v=some (v*cS l)
 |[],k,v,_,_,_=>by rw[yg,cS,Int.mul_one]
 |x::l,k,v,h,J,h2=>by
  have hx:=h x ank;have hp:=sT (l:=l) λy hy=>h y (ann _ hy);rw[cS,<-Int.mul_assoc]at h2 ⊢;have lG:1*1<=v*x:=Int.mul_le_mul J hx.1 (by decide) (by omega);have iC:v*x*1<=v*x*cS l:=Int.mul_le_mul_of_nonneg_left hp (by omega);rw[yg,jr (by omega) (by omega)];exact Zx N l (k+1) (v*x) (λy hy=>h y (ann _ hy)) (by omega) h2
theorem X6(N:Nat)(ext:an3 Int):∀(l:an3 Int)(k:Nat),(∀x∈l,1<=x/\x<=4096)->GM N ext l k=yg N ext 0 1
 |[],k,_=>rfl
 |x::l,k,h=>by
  have hx:=h x ank;rw[GM,show(x==0)=false by rw[beq_eq_false_iff_ne];omega,cond_false];exact X6 N ext l (k+1) λy hy=>h y (ann _ hy)
theorem SZ(N:Nat)(l:an3 Int)(h:pj l):Dz N l=some (cS l):=by
 have hn:=h.n;unfold Dz Qa;rw[anX (show ¬(l.length:Int)>16 by omega),cond_false,aa6 N l l 0 h.r,XP N l 0 1 h.r (by decide) (by rw[Int.one_mul];exact h.p),anc,show((0:Int) !=0)=false from rfl,cond_false,X6 N l l 0 h.r,Zx N l 0 1 h.r (by decide) (by rw[Int.one_mul];exact h.p),Int.one_mul]
theorem alY(N:Nat)(hN:2147483648<N)(l:an3 Int)(h:pj l)(n:Int)(J:0<=n)(h2:n<cS l):BI N l n=some (jx l n,true):=by
 have hn:=h.n;have hp:=h.p;unfold BI;rw[anX (show ¬n<0 by omega),cond_false,SZ N l h,anc,anX (show ¬n>=cS l by omega),anc,cond_false,fJ (by omega),cond_true];have:=V3 N l n h.r J (by omega) l.length N (anp _) (by omega) (by omega);rw[List.drop_length,gK]at this;rw[jr (by omega) (by omega)]
 simpa using this
def iK(l:an3 Int)(k n:Nat):an3 (an3 Int):=(List.range' k n).map λ(i:Nat)=>jx l (i:Int)
theorem ug(l:an3 Int)(k n:Nat):iK l k (n+1)=jx l (k:Int)::iK l (k+1) n:=by
 unfold iK;rw[List.range'_succ,anE]
theorem Sq(N:Nat)(hN:2147483648<N)(l:an3 Int)(h:pj l):∀(n k:Nat),(k:Int)+n<=cS l->yP N l n k=some (iK l k n)
 |0,k,_=>rfl
 |n+1,k,hk=>by
  rw[yP,alY N hN l h (k:Int) (by omega) (by omega),anc,cond_true,Sq N hN l h n (k+1) (by omega),anc,ug]
theorem Uu(N:Nat)(hN:2147483648<N)(l:an3 Int)(h:pj l):D0 N l=some (iK l 0 (cS l).toNat):=by
 have hp:=h.p;have h0:=sT h.r;unfold D0;rw[SZ N l h,anc,anW (show(0:Int)<=cS l by omega),fJ (show(cS l).toNat<=9223372036854775807 by omega),Bool.and_self,cond_true];exact Sq N hN l h _ 0 (by omega)
theorem Tc(N:Nat)(l:an3 Int)(h:pj l):Bv N l=some l:=by
 have hn:=h.n;unfold Bv;rw[fJ (by omega),cond_true]
def kM(names:an3 an4)(pt:an3 Int):an3 aL:=List.zipWith (λs v=>(⟨s,Int64.ofInt v⟩:aL)) names pt
theorem adI(names:an3 an4)(pt:an3 Int)(h:names.length=pt.length):(kM names pt).length=names.length:=by
 unfold kM;rw[List.length_zipWith];omega
theorem Zi(N:Nat)(env:an3 aL)(pt:an3 Int)(hp:∀x∈pt,0<=x/\x<4096)(he:env.length<=1000000000):∀(l:an3 dh)(k:Nat)(acc:an3 aL),l.length+k=pt.length->acc.length+l.length<=1000000000->EE N env pt l k acc=some (acc++kM (l.map (·.au)) (pt.drop k)++env)
 |[],k,acc,_,ha=>by
  rw[EE,fJ (by simp only[anq]at ha;omega),cond_true];unfold kM;simp
 |x::l,k,acc,hl,ha=>by
  simp only[anh]at hl ha;obtain⟨v,hv⟩:∃v,pt[k]?=some v:=⟨_,ani (by omega)⟩;have hr:=hp v (anr hv);rw[EE,anG,hv,anc,jr (by omega) (by omega),anY,cond_true,fJ (by omega),cond_true];dsimp only;rw[Zi N env pt hp he l (k+1) _ (by omega) (by simp only[anf,anh,anq];omega),RQ hv];unfold kM;simp
theorem YO(N:Nat)(l:an3 dh)(pt:an3 Int)(env:an3 aL)(hl:l.length=pt.length)(J:l.length<=1000000)(hp:∀x∈pt,0<=x/\x<4096)(he:env.length<=1000000000):Ip N l pt env=some (kM (l.map (·.au)) pt++env):=by
 have:=Zi N env pt hp he l 0 [] (by omega) (by simp only[anq];omega);rw[anO,List.nil_append]at this;exact this
theorem UH:∀{ext:an3 Int}{n:Int}{e:Int},ext[ext.length-1]?=some e->(jx ext n)[ext.length-1]?=some (n.tmod e)
 |[],n,e,h=>by simp at h
 |[x],n,e,h=>by
  simp only[anh,anq,anz,Nat.sub_self,List.getElem?_cons_zero,Option.some.injEq]at h;subst h;rfl
 |x::y::l,n,e,h=>by
  have h':(y::l)[(y::l).length-1]?=some e:=by
   simp only[anh,Nat.add_sub_cancel]at h ⊢
   rwa [anQ]at h
  have:=UH (n:=n) h';simp only[anh,Nat.add_sub_cancel]at this ⊢;show(((gK (y::l) n).2.tmod x::(gK (y::l) n).1):an3 Int)[l.length+1]?=_;rw[anQ];exact this
def n7:an3 cC->an3 an4
 |[]=>[]
 |x::l=>bif bL x.cG==bL (bs [])then n7 l else x.cG::n7 l
def RD(e:ar):an3 an4:=(bif e.ay==3 then[e.au]else[])++n7 e.xIdx
def qM:an3 ar->an3 an4
 |[]=>[]
 |e::l=>RD e++qM l
theorem TU:∀l:an3 cC,(n7 l).length<=l.length
 |[]=>anp _
 |x::l=>by
  have:=TU l;rw[n7];cases bL x.cG==bL (bs [])with
  |true=>simp only[cond_true,anh];omega
  |false=>simp only[cond_false,anh];omega
theorem Sp(B:Nat):∀l:an3 ar,(∀x∈l,x.xIdx.length<=B)->(qM l).length<=l.length*(B+1)
 |[],_=>by simp [qM]
 |e::l,h=>by
  have J:=Sp B l λx hx=>h x (ann _ hx);have h2:=h e ank;have h3:=TU e.xIdx;rw[qM];unfold RD;simp only[anf,anh,Nat.succ_mul];have h4:(bif e.ay==3 then[e.au]else[]).length<=1:=by cases e.ay==3<;>simp
  omega
theorem HV(N:Nat)(c:Nat->an3 an4->an5 (an3 an4)):∀(l:an3 cC)(k:Nat)(acc:an3 an4),acc.length+(n7 l).length<=1000000000->sC N c l k acc.length acc=c (acc++n7 l).length (acc++n7 l)
 |[],k,acc,_=>by rw[sC,n7,anA]
 |x::l,k,acc,h=>by
  rw[sC];rw[n7]at h ⊢;cases hb:(bL x.cG==bL (bs []))with
  |true=>
   rw[hb,cond_true]at h;rw[cond_true,cond_true];exact HV N c l (k+1) acc h
  |false=>
   rw[hb,cond_false,anh]at h;rw[cond_false,cond_false,Nat.beq_refl,cond_true,fJ (by omega),cond_true];have:=HV N c l (k+1) (acc++[x.cG]) (by simp only[anf,anh,anq];omega);rw[show acc++x.cG::n7 l=(acc++[x.cG])++n7 l by simp,<-this,anf];rfl
theorem OY(N:Nat):∀(l:an3 ar)(acc:an3 an4),acc.length+(qM l).length<=1000000000->nE N l acc.length acc=some (jE (acc++qM l))
 |[],acc,h=>by
  rw[nE,qM,anA];unfold NI;rw[Nat.beq_refl,show Nat.blt acc.length 4611686018427387904=true from Nat.ble_eq_true_of_le (by omega)];rfl
 |e::l,acc,h=>by
  rw[nE];rw[qM]at h ⊢;unfold RD at h ⊢;simp only[anf]at h;cases hb:(e.ay==3)with
  |true=>
   rw[hb]at h;simp only[cond_true,anh,anq]at h;rw[cond_true,cond_true,Nat.beq_refl,cond_true,fJ (by omega),cond_true];unfold Aw;have q:=HV N (λcd fi=>nE N l cd fi) e.xIdx 0 (acc++[e.au]) (by simp only[anf,anh,anq];omega);rw[show(acc++[e.au]).length=acc.length+1 by simp]at q;rw[q,OY N l _ (by simp only[anf,anh,anq];omega)];simp
  |false=>
   rw[hb]at h;simp only[cond_false,anq]at h;rw[cond_false,cond_false];unfold Aw;have q:=HV N (λcd fi=>nE N l cd fi) e.xIdx 0 acc (by omega);rw[q,OY N l _ (by simp only[anf];omega)];simp
end Go.Proofs.YtpeecnpmcbnahaaGreatDoor
