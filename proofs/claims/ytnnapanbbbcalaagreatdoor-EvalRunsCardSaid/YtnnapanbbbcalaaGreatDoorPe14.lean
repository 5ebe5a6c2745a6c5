/-
  Part 14 of the proof: InVal2, InLin, InLin2, InLin3, EvA, EvB, EvC, SmV, SmVR, SmVF, EvD, InVal3, InVal4, EvE, EvF, EvG.
-/
import Derived.Test.YtnnapanbbbcalaaGreatDoorPe13
import Derived.Laws.Bits64
set_option linter.defProp false
namespace Go.Proofs.YtnnapanbbbcalaaGreatDoor
open IntKind (u64 i64)
open Go.RowKit
set_option linter.unusedSimpArgs false
set_option linter.unusedVariables false
def np(B:Nat)(l:bE):Prop:=l.xL.length<=B
def np.ok{l:bE}(h:np 1000000000 l):lg l:=Zc h (by decide)
def e9{n k:Nat}(h:n<=k):Nat.ble n k=true:=WX h
def aad(N:Nat):∀(l:I dH)(k:Nat)(b:I so),b.length+l.length<=1000000000->Fq N l k b=some (b++l.map (·.ay))
 |[],_,b,_=>by rw[Fq,ah,ZV]
 |a::l,k,b,h=>by
  simp only[Zl]at h;rw[Fq,e9 (by omega),Tq];dsimp only;rw[aad N l (k+1) _ (by simp only[Zk,Zl,Zf];omega),ZS,ZR];rfl
def apQ(N:Nat)(d:bZ)(h:d.aR.length+d.cl.length<1000000000):Pg N d=some ((d.aR++d.cl).map (·.ay)):=by
 unfold Pg;rw[aeU N _ _ h,re,aad N _ _ _ (by simp only[Zk,Zf];omega),W2]
def adJ(N:Nat):∀(l:I dH)(k:Nat)(b:I so),b.length+l.length<=1000000000->GQ N l k b=some (b++l.map (·.ay))
 |[],_,b,_=>by rw[GQ,ah,ZV]
 |a::l,k,b,h=>by
  simp only[Zl]at h;rw[GQ,e9 (by omega),Tq];dsimp only;rw[adJ N l (k+1) _ (by simp only[Zk,Zl,Zf];omega),ZS,ZR];rfl
def agl(N:Nat)(d:bZ):∀(l:I dH)(k:Nat)(b:I so),b.length+l.length+d.cl.length<=1000000000->Hr N d l k b=some (b++(l++d.cl).map (·.ay))
 |[],_,b,h=>by rw[Hr,adJ N _ _ _ (by simp only[Zf]at h;omega),W2]
 |a::l,k,b,h=>by
  simp only[Zl]at h;rw[Hr,e9 (by omega),Tq];dsimp only;rw[agl N d l (k+1) _ (by simp only[Zk,Zl,Zf];omega),List.cons_append,ZS,ZR];rfl
def agz(N:Nat)(d:bZ)(h:d.aR.length+d.cl.length<1000000000):Lz N d=some ((d.aR++d.cl).map (·.ay)):=by
 unfold Lz;rw[agl N d _ _ _ (by simp only[Zf];omega),W2]
def agu(N:Nat)(l:bE)(h:np 1000000000 l):G7 N l=some l:=by
 unfold G7 Uo;rw[e9 (by have:=h;unfold np at this;omega)];rfl
def abO(N:Nat):∀(l:I bE)(k:Nat)(b:I bE),b.length+l.length<=1000000000->(∀x∈l,np 1000000000 x)->HO N l k b=some (b++l)
 |[],_,b,_,_=>by rw[HO,ZV]
 |a::l,k,b,h,c=>by
  simp only[Zl]at h;rw[HO,agu N a (c a Zq),re,e9 (by omega),Tq];dsimp only;rw[abO N l (k+1) _ (by simp only[Zk,Zl,Zf];omega) λy d=>c y (Zg _ d),ZR];rfl
def aqd(N:Nat)(l:I bE)(h:l.length<=1000000000)(a:∀x∈l,np 1000000000 x):K7 N l=some l:=by
 unfold K7;rw[abO N l 0 [] (by simp only[Zf];omega) a,W2]
def mf(s:so)(d:bZ):Bool:=bL d.ay==bL s
def DF(D:I bZ)(s:so)(k:Nat):Int:=match D.findIdx? (mf s)with|some i=>((k+i:Nat):Int)|none=> -1
def aqL(d:bZ)(D:I bZ)(s:so)(k:Nat):DF (d::D) s k=bif mf s d then(k:Int)else DF D s (k+1):=by
 unfold DF;rw[List.findIdx?_cons];cases mf s d with
 |true=>rfl
 |false=>
  cases D.findIdx? (mf s)with
  |none=>rfl
  |some i=>simp only[T6,Bool.false_eq_true,if_false,a6];rw[Nat.add_assoc,Nat.add_comm 1 i]
def agr(N:Nat)(s:so):∀(l:I bZ)(k:Nat),NH N s l k=some (DF l s k)
 |[],_=>rfl
 |d::l,k=>by
  rw[NH,aqL,show U2 N d s=some (mf s d)from rfl,re,agr N s l];cases mf s d<;>rfl
def apY(N:Nat)(p:bo)(s:so):Pv N p s=some (DF p.aP s 0):=by
 unfold Pv T4;rw[agr];rfl
def aae{α:Type}(f:α->Bool):∀l:I α,(l.findIdx? f=none/\l.find? f=none)\/∃i d,l.findIdx? f=some i/\l[i]?=some d/\l.find? f=some d/\f d=true
 |[]=>.inl ⟨rfl,rfl⟩
 |x::l=>by
  rw[List.findIdx?_cons,List.find?_cons];cases e:f x with
  |true=>exact .inr ⟨0,x,rfl,rfl,rfl,e⟩
  |false=>
   simp only[Bool.false_eq_true,if_false];rcases aae f l with⟨a,b⟩|⟨i,d,a,b,c,g⟩
   ·exact .inl ⟨by rw[a];rfl,b⟩
   ·exact .inr ⟨i+1,d,by rw[a];rfl,by rw[Z2];exact b,c,g⟩
def dW(P:I eX)(D:I bZ)(s:so):aM×I bE×Bool:=
 match P.find? (λx=>bL x.ay==bL s)with
 |some x=>(x.aH,x.aR,true)
 |none=>match D.find? (mf s)with
  |some d=>(d.aH,d.aR.map (·.eu),true)
  |none=>(dZ,[],false)
def ago(N:Nat)(d:bZ):∀(l:I dH)(k:Nat)(b:I bE),b.length+l.length<=1000000000->(∀x∈l,np 1000000000 x.eu)->FE N d l k b=some (d.aH,b++l.map (·.eu),true)
 |[],_,b,_,_=>by rw[FE,ah,ZV]
 |a::l,k,b,h,c=>by
  simp only[Zl]at h;rw[FE,agu N _ (c a Zq),re,e9 (by omega),Tq];dsimp only;rw[ago N d l (k+1) _ (by simp only[Zk,Zl,Zf];omega) λy e=>c y (Zg _ e),ZS,ZR];rfl
def aaV(N:Nat)(d:bZ):∀(l:I dH)(k:Nat)(b:I bE),b.length+l.length<=1000000000->FO N d l k b=some (d.aH,b++l.map (·.eu),true)
 |[],_,b,_=>by rw[FO,ah,ZV]
 |a::l,k,b,h=>by
  simp only[Zl]at h;rw[FO,e9 (by omega),Tq];dsimp only;rw[aaV N d l (k+1) _ (by simp only[Zk,Zl,Zf];omega),ZS,ZR];rfl
structure mn(P:List eX):Prop where
 len:∀x∈P,x.aR.length<=1000000000
 lR:∀x∈P,∀y∈x.aR,np 1000000000 y
structure hX(D:List bZ):Prop where
 len:∀d∈D,d.aR.length+d.cl.length<900000000
 lR:∀d∈D,∀y∈d.aR++d.cl,np 1000000000 y.eu
def hX.DT{D:I bZ}(h:hX D){d:bZ}(a:d∈D):∀y∈d.aR,np 1000000000 y.eu:=λy b=>h.lR d a y (ak _ b)
def LR{α:Type}{l:I α}{i:Nat}{d:α}(h:l[i]?=some d):d∈l:=ZY h
def adM(N:Nat)(p:bo)(s:so)(c:hX p.aP):∀(l:I eX)(k:Nat),mn l->E6 N p s l k=some (dW l p.aP s)
 |[],k,_=>by
  rw[E6,apY,re];unfold dW DF;rw[List.find?_nil];rcases aae (mf s) p.aP with⟨e,a⟩|⟨i,d,e,a,g,_⟩
  ·rw[e,a];rfl
  ·rw[e,g];simp only[ZQ];rw[show decide ((i:Int)>=0)=true from dO (by omega),ZK,a];simp only[Tq,re];rw[ago N d _ _ _ (by have:=c.len d (LR a);simp only[Zf];omega) (c.DT (LR a)),W2]
 |x::l,k,b=>by
  rw[E6,adM N p s c l (k+1) ⟨λy f=>b.len y (Zg _ f),λy f=>b.lR y (Zg _ f)⟩];unfold dW;rw[List.find?_cons];cases bL x.ay==bL s with
  |true=>simp only[Tq];rw[aqd N _ (b.len x Zq) (b.lR x Zq)];rfl
  |false=>rfl
def VW(N:Nat)(p:bo)(s:so)(a:mn p.bn)(b:hX p.aP):Gl N p s=some (dW p.bn p.aP s):=adM N p s b p.bn 0 a
def agm(N:Nat)(s:so):∀(D:I bZ)(k:Nat),hX D->NN N s D k=some (dW [] D s)
 |[],_,_=>rfl
 |d::D,k,h=>by
  rw[NN,agm N s D (k+1) ⟨λy a=>h.len y (Zg _ a),λy a=>h.lR y (Zg _ a)⟩];unfold dW;rw[List.find?_nil,List.find?_cons];unfold mf;cases bL d.ay==bL s with
  |true=>
   simp only[Tq];rw[aaV N d _ _ _ (by have:=h.len d Zq;simp only[Zf];omega),W2]
  |false=>rfl
def age(N:Nat)(s:so)(p:bo)(a:hX p.aP):∀(l:I eX)(k:Nat),ED N s p l k=some (dW l p.aP s)
 |[],k=>by rw[ED,agm N s _ _ a]
 |x::l,k=>by
  rw[ED,age N s p a l];unfold dW;rw[List.find?_cons];cases bL x.ay==bL s<;>rfl
def Jl(N:Nat)(p:bo)(s:so)(a:hX p.aP):Fs N p s=some (dW p.bn p.aP s):=age N s p a p.bn 0
structure VN(m:List (ByteArray×Int))(V:List ByteArray):Prop where
 val:∀s,(ib m s 0==0)= !dw V s
 len:m.length<=V.length
def VN.add{m:I (so×Int)}{a:I so}(h:VN m a)(s:so)(k:Int)(b:(k==0)=false):VN ((s,k)::m) (a++[s]):=by
 refine⟨λx=> ?_,by have:=h.len;simp only[Zl,Zk,Zf];omega⟩;rw[Ml,nm,Gv];cases e:bL s==bL x with
 |true=>rw[Tq,b,Bool.or_true];rfl
 |false=>rw[T6,h.val,Bool.or_false]
def pR(a:I so)(l:bE):Int:=bif yM a l then 0 else 9
def abM(N:Nat){m:I (so×Int)}{a:I so}(h:VN m a):∀(l:I dX)(k:Nat),Mg N m l k=some (bif l.all (λm=>dw a m.ay)then 0 else 9)
 |[],_=>rfl
 |x::l,k=>by
  rw[Mg,h.val,ZE,abM N h l];cases dw a x.ay<;>rfl
def Wr(N:Nat){m:I (so×Int)}{a:I so}(h:VN m a)(l:bE)(p:bo):E5 N l p m=some (pR a l):=abM N h l.xL 0
def xW(a:I so)(P:I eX)(D:I bZ)(x:c8):Int:=bif bL x.de==[]then pR a x.bN else bif (dW P D x.de).2.2 then bif (dW P D x.de).1.bB !=3 then 10 else bif x.cQ.length==(dW P D x.de).2.1.length then gM (pR a) x.cQ else 11 else 9
def HI(a b:Nat):((a:Int) !=(b:Int))= !(a==b):=abi a b
def agb(N:Nat){m:I (so×Int)}{a:I so}(h:VN m a)(p:bo):∀(l:I bE)(k:Nat),Nn N p m l k=some (gM (pR a) l)
 |[],_=>rfl
 |x::l,k=>by
  rw[Nn,Wr N h,re,gM,agb N h p l];cases pR a x !=0<;>rfl
def alC(N:Nat){m:I (so×Int)}{a:I so}(h:VN m a)(p:bo)(b:mn p.bn)(c:hX p.aP)(x:c8):Oh N x p m=some (xW a p.bn p.aP x):=by
 unfold Oh xW;rw[vr,Wr N h,VW N p _ b c,re,re,HI,agb N h p];cases bL x.de==[]<;>cases (dW p.bn p.aP x.de).2.2<;>cases (dW p.bn p.aP x.de).1.bB !=3<;>cases x.cQ.length==(dW p.bn p.aP x.de).2.1.length<;>rfl
def yp(a:I so)(P:I eX)(D:I bZ)(e:az):Int:=bif (dW P D e.ay).2.2 then bif e.xIdx.length==(dW P D e.ay).2.1.length then gM (xW a P D) e.xIdx else 11 else 9
def yP(t:aM)(x:Int):aM×Int:=(bif x !=0 then dZ else t,x)
def aaj(N:Nat){m:I (so×Int)}{a:I so}(h:VN m a)(p:bo)(b:mn p.bn)(c:hX p.aP)(q:aM×I bE×Bool):∀(l:I c8)(k:Nat),Pm N q p m l k=some (yP q.1 (gM (xW a p.bn p.aP) l))
 |[],_=>rfl
 |x::l,k=>by
  rw[Pm,alC N h p b c,re,gM,aaj N h p b c q l];unfold yP;cases e:xW a p.bn p.aP x !=0 with
  |true=>simp only[Tq];rw[e];rfl
  |false=>rfl
def atk(N:Nat){m:I (so×Int)}{a:I so}(h:VN m a)(p:bo)(b:mn p.bn)(c:hX p.aP)(e:az):Pz N e p m=some (yP (dW p.bn p.aP e.ay).1 (yp a p.bn p.aP e)):=by
 unfold Pz yp;rw[VW N p _ b c,re,HI,aaj N h p b c];cases (dW p.bn p.aP e.ay).2.2<;>cases e.xIdx.length==(dW p.bn p.aP e.ay).2.1.length<;>rfl
def abU(N:Nat)(a:I so)(p:bo):∀(l:I bE)(k:Nat),Lk N a p l k=some (gM (pR (a++p.bJ)) l)
 |[],_=>rfl
 |x::l,k=>by
  rw[Lk,QB,re,gM,abU N a p l];unfold pR;cases yM (a++p.bJ) x<;>rfl
def SH(N:Nat)(a:I so)(p:bo)(l:I bE):KS N p a l=some (gM (pR (a++p.bJ)) l):=abU N a p l 0
def aaW(N:Nat)(a:I so)(p:bo)(b:hX p.aP)(q:aM×I bE×Bool):∀(l:I c8)(k:Nat),IX N q a p l k=some (yP q.1 (gM (xW (a++p.bJ) p.bn p.aP) l))
 |[],_=>rfl
 |x::l,k=>by
  rw[IX,vr,QB,Jl N p _ b,re,re,HI,SH,re,gM,aaW N a p b q l];unfold yP xW pR;rw[show(x.cQ.length==(dW p.bn p.aP x.de).2.1.length)=((dW p.bn p.aP x.de).2.1.length==x.cQ.length)from Bool.eq_iff_iff.2 (by rw[Ua,Ua];exact eq_comm)];cases bL x.de==[]with
  |true=>cases yM (a++p.bJ) x.bN<;>rfl
  |false=>
   cases (dW p.bn p.aP x.de).2.2 with
   |false=>rfl
   |true=>
    cases (dW p.bn p.aP x.de).1.bB !=3 with
    |true=>rfl
    |false=>
     cases (dW p.bn p.aP x.de).2.1.length==x.cQ.length with
     |false=>rfl
     |true=>
      simp only[Tq,T6,W1];cases e:gM (λl=>bif yM (a++p.bJ) l then 0 else 9) x.cQ !=0 with
      |true=>simp only[Tq];first|rw[e];rfl|simp [e]
      |false=>rfl
def aga(N:Nat)(a:I so)(p:bo)(b:hX p.aP)(e:az):Pk N p a e=some (yP (dW p.bn p.aP e.ay).1 (yp (a++p.bJ) p.bn p.aP e)):=by
 unfold Pk yp;rw[Jl N p _ b,re,HI,aaW N a p b,show((dW p.bn p.aP e.ay).2.1.length==e.xIdx.length)=(e.xIdx.length==(dW p.bn p.aP e.ay).2.1.length)from Bool.eq_iff_iff.2 (by rw[Ua,Ua];exact eq_comm)];cases (dW p.bn p.aP e.ay).2.2<;>cases e.xIdx.length==(dW p.bn p.aP e.ay).2.1.length<;>rfl
set_option maxRecDepth 100000
def Eb(n:Int):(Int64.ofInt n).toInt=i64.wrap n:=by
 have h:=iF n;unfold Y bx aF at h;injection h with h;injection h with h;injection h with _ h;exact h.symm
def asl(a b:Int64):(a+b).toInt=i64.wrap (a.toInt+b.toInt):=by
 have h:=oF a b;unfold Y bx aF at h;injection h with h;injection h with h;injection h with _ h;exact h.symm
def ao2(a b:Int64):(a*b).toInt=i64.wrap (a.toInt*b.toInt):=by
 have h:=gu a b;unfold Y bx aF at h;injection h with h;injection h with h;injection h with _ h;exact h.symm
def adF(a b:Int64):(a-b).toInt=i64.wrap (a.toInt-b.toInt):=by
 have h:=mm a b;unfold Y bx aF at h;injection h with h;injection h with h;injection h with _ h;exact h.symm
def lX(a:Int64): -9223372036854775808<=a.toInt/\a.toInt<=9223372036854775807:=qa.1 (amT a)
def Vb{a b:Int64}(h:a.toInt=b.toInt):a=b:=Int64.toInt_inj.1 h
def QU(x:Int)(h:0<=x/\x<18446744073709551616):u64.wrap ((BitVec.ofInt u64.bits x&&&BitVec.ofInt u64.bits 4294967295).toNat:Int)=x%4294967296:=by
 obtain⟨n,rfl⟩:=Int.eq_ofNat_of_zero_le h.1;have e:(BitVec.ofInt u64.bits (n:Int)&&&BitVec.ofInt u64.bits 4294967295).toNat=n%4294967296:=by
  show(BitVec.ofInt 64 (n:Int)&&&BitVec.ofInt 64 4294967295).toNat=_;rw[BitVec.toNat_and];have a:(BitVec.ofInt 64 (n:Int)).toNat=n:=by
   rw[BitVec.toNat_ofInt];omega
  have b:(BitVec.ofInt 64 (4294967295:Int)).toNat=2^32-1:=by decide
  rw[a,b,Nat.and_two_pow_sub_one_eq_mod]
 rw[e,bh];omega
def ai2(x:Int):x.fdiv (2^min (32:Int).toNat u64.bits)=x / 4294967296:=by
 show x.fdiv 4294967296=_;rw[Int.fdiv_eq_ediv_of_nonneg _ (by omega)]
def an8(a b:Int)(B:0<=a/\a<18446744073709551616)(C:0<=b/\b<18446744073709551616):
 let c:=a / 4294967296
 let al:=a%4294967296
 let d:=b / 4294967296
 let bl:=b%4294967296
 let W:=u64.wrap
 let f:=W (al*bl)
 let g:=W (W (c*bl)+f / 4294967296)
 let h:=W (W (al*d)+g%4294967296)
 W (W (W (c*d)+g / 4294967296)+h / 4294967296)=a*b / 18446744073709551616:=by
 intro c al d bl W f g h;have k:0<=c/\c<=4294967295:=by omega
 have l:0<=al/\al<=4294967295:=by omega
 have n:0<=d/\d<=4294967295:=by omega
 have o:0<=bl/\bl<=4294967295:=by omega
 have i:∀{x y:Int},(0<=x/\x<=4294967295)->(0<=y/\y<=4294967295)->0<=x*y/\x*y<=18446744065119617025:=λq j=>
  ⟨Int.mul_nonneg q.1 j.1,Int.le_trans (b6 q.2 j.2 j.1 (by omega)) (by decide)⟩
 have E:=i k n;have F:=i k o;have G:=i l n;have H:=i l o;have e:a*b=18446744073709551616*(c*d)+4294967296*(c*bl)+4294967296*(al*d)+al*bl:=by
  have r:a=4294967296*c+al:=by omega
  have t:b=4294967296*d+bl:=by omega
  have:∀x y z w:Int,(4294967296*x+y)*(4294967296*z+w)=18446744073709551616*(x*z)+4294967296*(x*w)+4294967296*(y*z)+y*w:=λx y z w=>by
   rw[Int.add_mul,Int.mul_add,Int.mul_add];rw[show 4294967296*x*(4294967296*z)=18446744073709551616*(x*z)from by
     rw[an,Int.mul_left_comm x,<-an];rfl]
   rw[an 4294967296 x w,Int.mul_left_comm y];omega
  rw[<-this,<-r,<-t]
 generalize J:c*d=P at*;generalize K:c*bl=Q at*;generalize L:al*d=R at*;generalize M:al*bl=T at*;have u:f=T:=by show u64.wrap _=_;rw[bh];omega
 have v:g=Q+T / 4294967296:=by show u64.wrap (u64.wrap _+f / _)=_;rw[bh,bh,u];omega
 have A:h=R+g%4294967296:=by show u64.wrap (u64.wrap _+g%_)=_;rw[bh,bh];omega
 show u64.wrap (u64.wrap (u64.wrap P+g / 4294967296)+h / 4294967296)=_;rw[bh,bh,bh,e,A,v];omega
def wJ(n:Int):0<=u64.wrap n/\u64.wrap n<18446744073709551616:=by rw[bh];omega
def apM(N:Nat)(a b:Int)(c:0<=a/\a<18446744073709551616)(d:0<=b/\b<18446744073709551616):JQ N a b=some (a*b / 18446744073709551616,a*b%18446744073709551616):=by
 unfold JQ;simp only[QU _ c,QU _ d,QU _ (wJ _),ai2];rw[an8 a b c d,bh (a*b)]
def Uv(N:Nat)(a:Int64):AW N a=some (a.toInt.natAbs:Int):=by
 unfold AW;have:=lX a;rw[bh,bh];by_cases h:a.toInt<0;{rw[dO h,Tq];congr 1;omega};{rw[Zx h,T6];congr 1;omega}
def abn(a b:Int):(a.natAbs:Int)*b.natAbs=if(decide (a<0)==decide (b<0))=true then a*b else-(a*b):=by
 by_cases c:a<0<;>by_cases d:b<0;{rw[show(a.natAbs:Int)= -a by omega,show(b.natAbs:Int)= -b by omega,Int.neg_mul_neg];simp [c,d]};{rw[show(a.natAbs:Int)= -a by omega,show(b.natAbs:Int)=b by omega,Int.neg_mul];simp [c,d]};{rw[show(a.natAbs:Int)=a by omega,show(b.natAbs:Int)= -b by omega,Int.mul_neg];simp [c,d]};{rw[show(a.natAbs:Int)=a by omega,show(b.natAbs:Int)=b by omega];simp [c,d]}
def m5:I aJ->so->U Int64
 |[],_=>none
 |b::r,s=>bif bL b.ay==bL s then some b.dP else m5 r s
def tc(env:I aJ):I dX->Int->U Int
 |[],a=>some a
 |m::r,a=>match m5 env m.ay with
  |none=>none
  |some v=>tc env r (a+m.eW.toInt*v.toInt)
def dB(l:bE)(env:I aJ):Int64×Int:=bif !jO l then(0,1)else match tc env l.xL l.xK.toInt with
 |none=>(0,9)
 |some s=>bif tJ s then(Int64.ofInt s,0)else(0,3)
def wv(w:kL):Int:=w.lz+w.my*18446744073709551616+w.pw*340282366920938463463374607431768211456
structure U3(w:kL):Prop where
 h0:0<=w.pw
 h1:w.pw<18446744073709551616
 m0:0<=w.my
 m1:w.my<18446744073709551616
 l0:0<=w.lz
 l1:w.lz<18446744073709551616
abbrev lG:Int:=6277101735386680763835789423207666416102355444464034512896
def R6{x:Int}(a:0<=x)(h1:x<18446744073709551616):u64.wrap ((BitVec.ofInt (IntKind.bits .u64) (IntKind.max .u64)^^^BitVec.ofInt (IntKind.bits .u64) x).toNat:Int)=18446744073709551615-x:=by
 obtain⟨n,rfl⟩:=Int.eq_ofNat_of_zero_le a;have e:(BitVec.ofInt (IntKind.bits .u64) (IntKind.max .u64)^^^BitVec.ofInt (IntKind.bits .u64) (n:Int))= ~~~(BitVec.ofNat 64 n):=by
  show(BitVec.ofInt 64 18446744073709551615^^^BitVec.ofInt 64 (n:Int))=_;rw[show BitVec.ofInt 64 18446744073709551615=BitVec.allOnes 64 by decide,BitVec.allOnes_xor,BitVec.ofInt_natCast]
 have b:(BitVec.ofInt (IntKind.bits .u64) (IntKind.max .u64)^^^BitVec.ofInt (IntKind.bits .u64) (n:Int)).toNat=2^64-1-n%2^64:=by
  have h:=congrArg BitVec.toNat e;have c:(~~~(BitVec.ofNat 64 n)).toNat=2^64-1-n%2^64:=by rw[BitVec.toNat_not,BitVec.toNat_ofNat]
  exact h.trans c
 rw[b,bh];omega
def Oy(N:Nat)(w:kL)(a:U3 w){top hi lo:Int}(t0:0<=top)(B:top<18446744073709551616)(a0:0<=hi)(C:hi<18446744073709551616)(E:0<=lo)(F:lo<18446744073709551616):
 ∃r:kL,uz N w hi lo top=some (r.pw,r.my,r.lz)/\U3 r/\∃k:Int,wv r=wv w+(lo+hi*18446744073709551616+top*340282366920938463463374607431768211456)+k*lG:=by
 obtain⟨n,o,q,t,u,v⟩:=a;obtain⟨H,M,L⟩:=w;simp only at n o q t u v;have b:∃c:Int,(c=0\/c=1)/\uz N ⟨H,M,L⟩ hi lo top=zP N ⟨H,M,L⟩ hi top lo c/\u64.wrap (L+lo)=L+lo-c*18446744073709551616:=by
  unfold uz;simp only;rw[bh];by_cases f:(L+lo)%18446744073709551616<lo;{rw[dO f];exact⟨1,.inr rfl,rfl,by omega⟩};{rw[Zx f];exact⟨0,.inl rfl,rfl,by omega⟩}
 obtain⟨c,f,b,x⟩:=b;have g:∃d:Int,(d=0\/d=1)/\zP N ⟨H,M,L⟩ hi top lo c=Ap N ⟨H,M,L⟩ hi c top lo d/\u64.wrap (M+hi)=M+hi-d*18446744073709551616:=by
  unfold zP;simp only;rw[bh];by_cases h:(M+hi)%18446744073709551616<hi;{rw[dO h];exact⟨1,.inr rfl,rfl,by omega⟩};{rw[Zx h];exact⟨0,.inl rfl,rfl,by omega⟩}
 obtain⟨d,h,g,l⟩:=g;have y:=wJ (M+hi);rw[l]at y;have i:∃e:Int,(e=0\/e=1)/\Ap N ⟨H,M,L⟩ hi c top lo d=Gf N ⟨H,M,L⟩ top hi c lo (d+e)/\u64.wrap (u64.wrap (M+hi)+c)=M+hi+c-(d+e)*18446744073709551616/\d+e<=1:=by
  unfold Ap;simp only;rw[l,bh (M+hi-d*18446744073709551616+c),bh (d+1)];by_cases j:(M+hi-d*18446744073709551616+c)%18446744073709551616<M+hi-d*18446744073709551616
  ·rw[dO j];have:d=0:=by omega
   subst this;exact⟨1,.inr rfl,rfl,by omega,by omega⟩
  ·rw[Zx j];exact⟨0,.inl rfl,by rw[Int.add_zero];rfl,by omega,by omega⟩
 obtain⟨e,j,i,z,G⟩:=i;refine⟨⟨u64.wrap (H+u64.wrap (top+(d+e))),u64.wrap (u64.wrap (M+hi)+c),u64.wrap (L+lo)⟩,by rw[b,g,i];rfl,?_,?_⟩;{refine⟨(wJ _).1,(wJ _).2,(wJ _).1,(wJ _).2,(wJ _).1,(wJ _).2⟩}
 ·unfold wv;simp only;rw[x,z,bh,bh];refine⟨-((H+(top+(d+e))%18446744073709551616)/ 18446744073709551616+(top+(d+e))/ 18446744073709551616),?_⟩;unfold lG;generalize tS:(top+(d+e))/ 18446744073709551616=q1;generalize J:(top+(d+e))%18446744073709551616=r1;have K:top+(d+e)=18446744073709551616*q1+r1:=by omega
  generalize qH:(H+r1)/ 18446744073709551616=A;generalize P:(H+r1)%18446744073709551616=r2;have Q:H+r1=18446744073709551616*A+r2:=by omega
  omega
def agY(N:Nat)(w:kL)(a:U3 w){hi lo:Int}(a0:0<=hi)(f:hi<18446744073709551616)(g:0<=lo)(h:lo<18446744073709551616)(b:Bool):
 ∃r:kL,Cx N hi lo b w=some (r.pw,r.my,r.lz)/\U3 r/\∃k:Int,wv r=wv w+(bif b then-(lo+hi*18446744073709551616)else lo+hi*18446744073709551616)+k*lG:=by
 unfold Cx;rw[R6 a0 f,R6 g h,R6 (Int.le_refl 0) (by decide)];cases b with
 |false=>
  rw[T6,T6];obtain⟨r,c,d,k,e⟩:=Oy N w a (top:=0) (by decide) (by decide) a0 f g h;exact⟨r,c,d,k,by rw[e];omega⟩
 |true=>
  rw[Tq,Tq];simp only[bh];by_cases i:lo=0
  ·subst i;rw[show(((18446744073709551615-0+1:Int)%18446744073709551616)==0)=true by decide,Tq];by_cases j:hi=0
   ·subst j;rw[show(((18446744073709551615-0+1:Int)%18446744073709551616)==0)=true by decide,Tq];obtain⟨r,c,d,k,e⟩:=Oy N w a (top:=(18446744073709551615-0+1)%18446744073709551616) (hi:=(18446744073709551615-0+1)%18446744073709551616) (lo:=(18446744073709551615-0+1)%18446744073709551616) (by decide) (by decide) (by decide) (by decide) (by decide) (by decide);exact⟨r,c,d,k,by rw[e];rfl⟩
   ·rw[show(((18446744073709551615-hi+1:Int)%18446744073709551616)==0)=false by rw[Tv];omega,T6];obtain⟨r,c,d,k,e⟩:=Oy N w a (top:=18446744073709551615-0) (hi:=(18446744073709551615-hi+1)%18446744073709551616) (lo:=(18446744073709551615-0+1)%18446744073709551616) (by decide) (by decide) (by omega) (by omega) (by decide) (by decide);exact⟨r,c,d,k+1,by rw[e];unfold lG;omega⟩
  ·rw[show(((18446744073709551615-lo+1:Int)%18446744073709551616)==0)=false by rw[Tv];omega,T6];obtain⟨r,c,d,k,e⟩:=Oy N w a (top:=18446744073709551615-0) (hi:=18446744073709551615-hi) (lo:=(18446744073709551615-lo+1)%18446744073709551616) (by decide) (by decide) (by omega) (by omega) (by omega) (by omega);exact⟨r,c,d,k+1,by rw[e];unfold lG;omega⟩
def aqu{a b:Int}(h:∃k:Int,a=b+k*18446744073709551616):Int64.ofInt a=Int64.ofInt b:=by
 obtain⟨k,rfl⟩:=h;apply Int64.toInt_inj.1;rw[Int64.toInt_ofInt,Int64.toInt_ofInt,Int.bmod_def,Int.bmod_def];have:(b+k*18446744073709551616)%18446744073709551616=b%18446744073709551616:=by omega
 simp only[show((2^64:Nat):Int)=18446744073709551616 by decide];rw[this]
def ajj(N:Nat)(w:kL)(a:U3 w){s:Int}(x: -3138550867693340381917894711603833208051177722232017256448<=s)(y:s<3138550867693340381917894711603833208051177722232017256448)(d:∃k:Int,wv w=s+k*lG):
 OA N w=some (Int64.ofInt s,tJ s):=by
 obtain⟨f,g,h,i,j,l⟩:=a;obtain⟨H,M,L⟩:=w;obtain⟨k,d⟩:=d;unfold wv lG at d;simp only at f g h i j l d;unfold OA;simp only;have o:(Int64.ofInt L).toInt=if L<9223372036854775808 then L else L-18446744073709551616:=by
  rw[Int64.toInt_ofInt,Int.bmod_def];simp only[show((2^64:Nat):Int)=18446744073709551616 by decide];split<;>split<;>omega
 have q:((Int64.ofInt L).toInt.fdiv (2^(min ((63:Int)).toNat (IntKind.bits .i64))))=if L<9223372036854775808 then 0 else-1:=by
  rw[show((2:Int)^(min ((63:Int)).toNat (IntKind.bits .i64)))=9223372036854775808 by decide,Int.fdiv_eq_ediv_of_nonneg _ (by decide),o];split<;>omega
 rw[q];have r:∀z:Int,(z=0\/z= -1)->u64.wrap (Int64.ofInt z).toInt=if z=0 then 0 else 18446744073709551615:=λz t=>by
   rcases t with rfl|rfl<;>decide
 rw[r _ (by split<;>simp)];have u:Int64.ofInt L=Int64.ofInt s:=aqu ⟨k*340282366920938463463374607431768211456-M-H*18446744073709551616,by omega⟩;rw[u];have v:(bif (M==(if(if L<9223372036854775808 then(0:Int)else-1)=0 then(0:Int)else 18446744073709551615))then some (H==(if(if L<9223372036854775808 then(0:Int)else-1)=0 then(0:Int)else 18446744073709551615))else some false)=some (tJ s):=by
   by_cases e:L<9223372036854775808
   ·simp only[e,if_true];by_cases b:M=0
    ·rw[show(M==0)=true by rw[Ua];exact b,Tq];by_cases c:H=0
     ·rw[show(H==0)=true by rw[Ua];exact c,(qa (n:=s)).2 (by subst b;subst c;omega)]
     ·rw[show(H==0)=false by rw[Tv];exact c]
      congr 1;symm
      rw[<-Uq,qa];omega
    ·rw[show(M==0)=false by rw[Tv];exact b,T6]
     congr 1;symm
     rw[<-Uq,qa];omega
   ·simp only[e,if_false];rw[ae (by decide)];by_cases b:M=18446744073709551615
    ·rw[show(M==18446744073709551615)=true by rw[Ua];exact b,Tq];by_cases c:H=18446744073709551615
     ·rw[show(H==18446744073709551615)=true by rw[Ua];exact c,(qa (n:=s)).2 (by subst b;subst c;omega)]
     ·rw[show(H==18446744073709551615)=false by rw[Tv];exact c]
      congr 1;symm
      rw[<-Uq,qa];omega
    ·rw[show(M==18446744073709551615)=false by rw[Tv];exact b,T6]
     congr 1;symm
     rw[<-Uq,qa];omega
 rw[v,re]
def afg(N:Nat)(m:dX):∀(env:I aJ)(k:Nat),(m5 env m.ay=none->BS N m env k=some (-1))/\(∀v,m5 env m.ay=some v->∃i b,BS N m env k=some ((k+i:Nat):Int)/\env[i]?=some b/\b.dP=v)
 |[],k=>⟨λ_=>rfl,λv h=>by cases h⟩
 |b::r,k=>by
  obtain⟨a,d⟩:=afg N m r (k+1);unfold m5 BS Vp;simp only[re];cases g:(bL b.ay==bL m.ay)with
  |true=>exact⟨λh=>(by cases h),λv h=>by cases h;exact⟨0,b,rfl,rfl,rfl⟩⟩
  |false=>
   simp only[T6];refine⟨a,λv h=> ?_⟩;obtain⟨i,c,q1,e,f⟩:=d v h;exact⟨i+1,c,by rw[q1];congr 2;omega,e,f⟩
def BI:U Int->Int64×Int
 |none=>(0,9)
 |some s=>bif tJ s then(Int64.ofInt s,0)else(0,3)
def agV(l:bE)(env:I aJ):dB l env=bif !jO l then(0,1)else BI (tc env l.xL l.xK.toInt):=by
 unfold dB BI;cases tc env l.xL l.xK.toInt<;>rfl
def aft(a b:Int64):(a.toInt*b.toInt).natAbs<=85070591730234615865843651857942052864:=by
 have c:=lX a;have d:=lX b;rw[Int.natAbs_mul];exact Nat.mul_le_mul (show a.toInt.natAbs<=9223372036854775808 by omega) (show b.toInt.natAbs<=9223372036854775808 by omega)
def acq(N:Nat)(env:I aJ):∀(l:I dX)(k:Nat)(w:kL)(s:Int),U3 w->(∃k:Int,wv w=s+k*lG)->s.natAbs+l.length*85070591730234615865843651857942052864<=1569275433846670190958947355801916604025588861116008628224->
 Ic N env l k w.pw w.my w.lz=some (BI (tc env l s))
 |[],k,w,s,a,c,d=>by
  unfold Ic tc BI;rw[show(⟨w.pw,w.my,w.lz⟩:kL)=w from rfl];simp only[Zf,Nat.zero_mul,Nat.add_zero]at d;rw[ajj N w a (by omega) (by omega) c,re];simp only;cases tJ s<;>rfl
 |m::r,k,w,s,a,c,d=>by
  unfold Ic tc;simp only;rw[show Ss N env m=BS N m env 0 from rfl];obtain⟨h,j⟩:=afg N m env 0;cases g:m5 env m.ay with
  |none=>rw[h g];rfl
  |some v=>
   obtain⟨i,b,q1,n,o⟩:=j v g;rw[q1,re,ZQ,Zx (by omega),T6,dO (by omega),Tq,ZK,n,re,Uv,re,Uv,re];have B:=lX m.eW;have C:=lX b.dP;rw[apM N _ _ (by omega) (by omega),re];subst o;have E:=aft m.eW b.dP;have q:=abn m.eW.toInt b.dP.toInt;have F:0<=(m.eW.toInt.natAbs:Int)*b.dP.toInt.natAbs:=Int.mul_nonneg (by omega) (by omega);have G:(m.eW.toInt.natAbs:Int)*b.dP.toInt.natAbs<=85070591730234615865843651857942052864:=by
    rw[<-Int.natCast_mul,<-Int.natAbs_mul];omega
   generalize (m.eW.toInt.natAbs:Int)*b.dP.toInt.natAbs=p at*;obtain⟨t,u,x,y,e⟩:=agY N w a (hi:=p / 18446744073709551616) (lo:=p%18446744073709551616) (by omega) (by omega) (by omega) (by omega) (!((decide (m.eW.toInt<0))==(decide (b.dP.toInt<0))));rw[show(⟨w.pw,w.my,w.lz⟩:kL)=w from rfl,u,re];simp only;have f:p%18446744073709551616+p / 18446744073709551616*18446744073709551616=p:=by omega
   rw[f]at e;have z:(bif (!((decide (m.eW.toInt<0))==(decide (b.dP.toInt<0))))then-p else p)=m.eW.toInt*b.dP.toInt:=by
     rw[q];cases (decide (m.eW.toInt<0)==decide (b.dP.toInt<0))with
     |true=>simp
     |false=>simp
   rw[z]at e;obtain⟨A,c⟩:=c;refine acq N env r (k+1) t (s+m.eW.toInt*b.dP.toInt) x ⟨A+y,by rw[e,c];unfold lG;omega⟩ ?_;rw[Zl]at d;have:(s+m.eW.toInt*b.dP.toInt).natAbs<=s.natAbs+(m.eW.toInt*b.dP.toInt).natAbs:=Int.natAbs_add_le _ _;omega
def GM(N:Nat)(g:2147483648<N)(l:bE)(env:I aJ)(a:l.xL.length<=4611686018427387904):we N l env=some (dB l env):=by
 unfold we;rw[agV,Pd N (by omega) l (Zc a (by decide)),re];cases i:jO l with
 |false=>rfl
 |true=>
  simp only[W1,T6];rw[Tq,show((0:Int) !=0)=false from rfl,T6,Uv,re];have j:=lX l.xK;obtain⟨b,c,d,e,f⟩:=agY N aul ⟨by decide,by decide,by decide,by decide,by decide,by decide⟩ (hi:=0) (lo:=(l.xK.toInt.natAbs:Int)) (by decide) (by decide) (by omega) (by omega) (decide (l.xK.toInt<0));rw[c,re];refine acq N env l.xL 0 b l.xK.toInt d ⟨e,?_⟩ (by omega);rw[f];by_cases h:l.xK.toInt<0;{rw[dO h,Tq];show(0:Int)+0*_+0*_+_+_=_;omega};{rw[Zx h,T6];show(0:Int)+0*_+0*_+_+_=_;omega}
def dv(w:cE):Int:=w.cH+w.cY*4294967296+w.dp*18446744073709551616+w.di*79228162514264337593543950336+w.dd*340282366920938463463374607431768211456+w.c7*1461501637330902918203684832716283019655932542976
structure D6(w:cE):Prop where
 a0:0<=w.cH
 b0:w.cH<4294967296
 a1:0<=w.cY
 b1:w.cY<4294967296
 a2:0<=w.dp
 b2:w.dp<4294967296
 a3:0<=w.di
 b3:w.di<4294967296
 a4:0<=w.dd
 b4:w.dd<4294967296
 a5:0<=w.c7
 b5:w.c7<4294967296
def nS{d n c:Int}(h:0<=d)(l:d<4294967296)(f:0<=n)(o:n<18446744073709551616)(q:0<=c)(r:c<=1):∃s a b e:Int,u64.wrap (u64.wrap (d+n.tmod 4294967296)+c)=s/\u64.wrap (s.tdiv 4294967296)=a/\u64.wrap (n.tdiv 4294967296)=b/\s.tmod 4294967296=e/\
 0<=a/\a<=1/\0<=e/\e<4294967296/\0<=b/\b*4294967296<=n/\e+4294967296*(a+b)=d+n+c:=by
 have i:n.tmod 4294967296=n%4294967296:=Int.tmod_eq_emod_of_nonneg f;have j:n.tdiv 4294967296=n / 4294967296:=ai f;have k:u64.wrap (u64.wrap (d+n.tmod 4294967296)+c)=d+n%4294967296+c:=by
  rw[i,bh,bh];omega
 have g:0<=d+n%4294967296+c:=by omega
 refine⟨d+n%4294967296+c,(d+n%4294967296+c)/ 4294967296,n / 4294967296,(d+n%4294967296+c)%4294967296,k,?_,?_,Int.tmod_eq_emod_of_nonneg g,?_⟩;{rw[ai g,bh];omega};{rw[j,bh];omega};{refine⟨?_,?_,?_,?_,?_,?_,?_⟩<;>omega}
def alP(N:Nat)(w:cE)(W:D6 w){n:Int}(b:0<=n)(d:n<18446744073709551616)(a:dv w+n<lG):∃r,HG N w n=some r/\D6 r/\dv r=dv w+n:=by
 obtain⟨s0,c0,n0,e,f,g,h,i,j,k,l,o,q,t,u⟩:=nS W.a0 W.b0 b d (c:=0) (by decide) (by decide);obtain⟨s1,c1,n1,v,q1,x,y,z,A,B,C,E,F,G,H⟩:=nS W.a1 W.b1 q (by omega) j k;obtain⟨s2,c2,n2,J,K,L,M,P,Q,R,S,T,r9,r10,r11⟩:=nS W.a2 W.b2 F (by omega) A B;obtain⟨s3,c3,n3,e3,t1,t2,t3,t4,t5,t6,t7,t8,t9,t10,t11⟩:=nS W.a3 W.b3 r9 (by omega) Q R;obtain⟨s4,c4,n4,e4,u1,u2,u3,u4,u5,u6,u7,u8,u9,u10,Y9⟩:=nS W.a4 W.b4 t9 (by omega) t5 t6;obtain⟨s5,c5,n5,e5,v1,v2,v3,v4,v5,v6,v7,v8,v9,v10,v11⟩:=nS W.a5 W.b5 u9 (by omega) u5 u6;refine⟨⟨e,v,J,e3,e4,e5⟩,?_,⟨l,o,C,E,S,T,t7,t8,u7,u8,v7,v8⟩,?_⟩;{unfold HG;simp only[re];simp only[f,g,h,i,q1,x,y,z,K,L,M,P,t1,t2,t3,t4,u1,u2,u3,u4,v1,v2,v3,v4]}
 ·unfold dv at a ⊢;unfold lG at a;simp only;have:c5+n5=0:=by omega
  omega
def aaG(N:Nat)(w:cE)(W:D6 w){n:Int}(b:0<=n)(d:n<18446744073709551616)(a:dv w+n*4294967296<lG):∃r,Bw N w n=some r/\D6 r/\dv r=dv w+n*4294967296:=by
 obtain⟨s1,c1,n1,e,q1,f,g,h,i,j,k,l,o,q,t⟩:=nS W.a1 W.b1 b d (c:=0) (by decide) (by decide);obtain⟨s2,c2,n2,u,v,x,y,z,A,B,C,E,F,G,H⟩:=nS W.a2 W.b2 o (by omega) i j;obtain⟨s3,c3,n3,J,K,L,M,P,Q,R,S,T,t9,t10,t11⟩:=nS W.a3 W.b3 F (by omega) A B;obtain⟨s4,c4,n4,e4,u1,u2,u3,u4,u5,u6,u7,u8,u9,u10,Y9⟩:=nS W.a4 W.b4 t9 (by omega) Q R;obtain⟨s5,c5,n5,e5,v1,v2,v3,v4,v5,v6,v7,v8,v9,v10,v11⟩:=nS W.a5 W.b5 u9 (by omega) u5 u6;refine⟨⟨w.cH,e,u,J,e4,e5⟩,?_,⟨W.a0,W.b0,k,l,C,E,S,T,u7,u8,v7,v8⟩,?_⟩;{unfold Bw;simp only[re];simp only[q1,f,g,h,v,x,y,z,K,L,M,P,u1,u2,u3,u4,v1,v2,v3,v4]}
 ·have:=W.a0;unfold dv at a ⊢;unfold lG at a;simp only;have:c5+n5=0:=by omega
  omega
def ah0(N:Nat)(w:cE)(W:D6 w){n:Int}(b:0<=n)(d:n<18446744073709551616)(a:dv w+n*18446744073709551616<lG):∃r,EK N w n=some r/\D6 r/\dv r=dv w+n*18446744073709551616:=by
 obtain⟨s2,c2,n2,e,f,g,h,i,j,k,l,o,q,t,u⟩:=nS W.a2 W.b2 b d (c:=0) (by decide) (by decide);obtain⟨s3,c3,n3,v,x,y,z,A,B,C,E,F,G,H,J⟩:=nS W.a3 W.b3 q (by omega) j k;obtain⟨s4,c4,n4,K,L,M,P,Q,R,S,T,u8,u9,u10,Y9⟩:=nS W.a4 W.b4 G (by omega) B C;obtain⟨s5,c5,n5,e5,v1,v2,v3,v4,v5,v6,v7,v8,v9,v10,v11⟩:=nS W.a5 W.b5 u9 (by omega) R S;refine⟨⟨w.cH,w.cY,e,v,K,e5⟩,?_,⟨W.a0,W.b0,W.a1,W.b1,l,o,E,F,T,u8,v7,v8⟩,?_⟩;{unfold EK;simp only[re];simp only[f,g,h,i,x,y,z,A,L,M,P,Q,v1,v2,v3,v4]}
 ·have:=W.a0;have:=W.a1;unfold dv at a ⊢;unfold lG at a;simp only;have:c5+n5=0:=by omega
  omega
def VR(N:Nat)(w:cE)(W:D6 w){a b:Int}(j:0<=a)(ha:a<18446744073709551616)(k:0<=b)(hb:b<18446744073709551616)(F:dv w+a*b<lG):∃r,yV N w a b=some r/\D6 r/\dv r=dv w+a*b:=by
 have c:a.tmod 4294967296=a%4294967296:=Int.tmod_eq_emod_of_nonneg j;have d:u64.wrap (a.tdiv 4294967296)=a / 4294967296:=by rw[ai j,bh];omega
 have l:b.tmod 4294967296=b%4294967296:=Int.tmod_eq_emod_of_nonneg k;have f:u64.wrap (b.tdiv 4294967296)=b / 4294967296:=by rw[ai k,bh];omega
 have e:a*b=(a%4294967296)*(b%4294967296)+(a%4294967296)*(b / 4294967296)*4294967296+(a / 4294967296)*(b%4294967296)*4294967296+(a / 4294967296)*(b / 4294967296)*18446744073709551616:=by
  have g:a=a%4294967296+4294967296*(a / 4294967296):=by omega
  have i:b=b%4294967296+4294967296*(b / 4294967296):=by omega
  generalize a%4294967296=x at*;generalize a / 4294967296=y at*;generalize b%4294967296=z at*;generalize b / 4294967296=u at*;subst g;subst i;rw[Int.add_mul,Int.mul_add,Int.mul_add,show x*(4294967296*u)=x*u*4294967296 by rw[Int.mul_left_comm,Int.mul_comm],show 4294967296*y*z=y*z*4294967296 by rw[an,Int.mul_comm],show 4294967296*y*(4294967296*u)=y*u*18446744073709551616 by rw[an,Int.mul_left_comm y 4294967296 u];omega];omega
 unfold yV;rw[c,d,l,f];have h:∀x y:Int,0<=x->x<4294967296->0<=y->y<4294967296->0<=x*y/\x*y<18446744073709551616:=λx y g i n h4=>by
  refine⟨Int.mul_nonneg g n,?_⟩;have:x*y<=4294967295*4294967295:=b6 (by omega) (by omega) n (by decide);omega
 obtain⟨o,q⟩:=h (a%4294967296) (b%4294967296) (by omega) (by omega) (by omega) (by omega);obtain⟨t,v⟩:=h (a%4294967296) (b / 4294967296) (by omega) (by omega) (by omega) (by omega);obtain⟨A,B⟩:=h (a / 4294967296) (b%4294967296) (by omega) (by omega) (by omega) (by omega);obtain⟨C,E⟩:=h (a / 4294967296) (b / 4294967296) (by omega) (by omega) (by omega) (by omega);have wr:∀z:Int,0<=z->z<18446744073709551616->u64.wrap z=z:=λz g i=>by rw[bh];omega
 rw[wr _ o q,wr _ t v,wr _ A B,wr _ C E];generalize (a%4294967296)*(b%4294967296)=P at*;generalize (a%4294967296)*(b / 4294967296)=Q at*;generalize (a / 4294967296)*(b%4294967296)=R at*;generalize (a / 4294967296)*(b / 4294967296)=T at*;rw[e]at F ⊢;clear e c d l f;obtain⟨G,H,J,y1⟩:=alP N w W o q (by omega);rw[H,re];obtain⟨K,L,M,y2⟩:=aaG N G J t v (by omega);rw[L,re];obtain⟨S,x3,W3,y3⟩:=aaG N K M A B (by omega);rw[x3,re];obtain⟨w4,x4,W4,y4⟩:=ah0 N S W3 C E (by omega);rw[x4,re];exact⟨w4,rfl,W4,by omega⟩
def aip(N:Nat)(a b:cE)(A:D6 a)(B:D6 b):EZ N a b=some (decide (dv a<dv b)):=by
 obtain⟨l,n,o,r,t,u,v,w,z,C,E,F⟩:=A;obtain⟨G,H,J,K,L,M,P,Q,R,S,T,W⟩:=B;unfold EZ dv;have c:∀{x y:Int}{p q:U Bool},x≠y->(bif (x !=y)then p else q)=p:=λh=>by rw[Ue.2 h,Tq]
 have d:∀{x y:Int}{p q:U Bool},x=y->(bif (x !=y)then p else q)=q:=λh=>by subst h;simp
 by_cases e:a.c7=b.c7
 ·rw[d e];by_cases f:a.dd=b.dd
  ·rw[d f];by_cases g:a.di=b.di
   ·rw[d g];by_cases i:a.dp=b.dp
    ·rw[d i];by_cases j:a.cY=b.cY
     ·rw[d j];by_cases k:a.cH=b.cH
      ·rw[d k];congr 1;symm;exact Zx (by omega)
      ·rw[c k];congr 1;exact decide_eq_decide.2 (by omega)
     ·rw[c j];congr 1;exact decide_eq_decide.2 (by omega)
    ·rw[c i];congr 1;exact decide_eq_decide.2 (by omega)
   ·rw[c g];congr 1;exact decide_eq_decide.2 (by omega)
  ·rw[c f];congr 1;exact decide_eq_decide.2 (by omega)
 ·rw[c e];congr 1;exact decide_eq_decide.2 (by omega)
def C4{x y c:Int}(b:0<=x)(i:x<4294967296)(d:0<=y)(j:y<4294967296)(k:0<=c)(l:c<=1):∃c' t e:Int,(c'=0\/c'=1)/\(decide (x<u64.wrap (y+c))=true->c'=1/\t=u64.wrap (x+4294967296))/\(decide (x<u64.wrap (y+c))=false->c'=0/\t=x)/\
 u64.wrap (t-u64.wrap (y+c))=e/\0<=e/\e<4294967296/\e=x-y-c+4294967296*c':=by
 have f:u64.wrap (y+c)=y+c:=by rw[bh];omega
 have g:u64.wrap (x+4294967296)=x+4294967296:=by rw[bh];omega
 rw[f,g];by_cases h:x<y+c
 ·refine⟨1,x+4294967296,x+4294967296-(y+c),.inr rfl,λ_=>⟨rfl,rfl⟩,λa=> ?_,?_,by omega,by omega,by omega⟩
  ·rw[dO h]at a;cases a
  ·rw[bh];omega
 ·refine⟨0,x,x-(y+c),.inl rfl,λa=> ?_,λ_=>⟨rfl,rfl⟩,?_,by omega,by omega,by omega⟩
  ·rw[Zx h]at a;cases a
  ·rw[bh];omega
def C9{α:Type}{b:Bool}{a t:Int}{p:Int}{x:Int}{F:Int->Int->α}(h1:b=true->a=1/\t=p)(c:b=false->a=0/\t=x):(bif b then F 1 p else F 0 x)=F a t:=by
 cases b with
 |true=>obtain⟨rfl,rfl⟩:=h1 rfl;rfl
 |false=>obtain⟨rfl,rfl⟩:=c rfl;rfl
def agK(N:Nat)(a b:cE)(A:D6 a)(B:D6 b)(h:dv b<=dv a):∃r,AS N a b=some r/\D6 r/\dv r=dv a-dv b:=by
 obtain⟨d,t0,n,p1,o,q,t,u,v,p7⟩:=C4 A.a0 A.b0 B.a0 B.b0 (c:=0) (by decide) (by decide);obtain⟨e,f,w,q1,z,C,E,G,H,q7⟩:=C4 A.a1 A.b1 B.a1 B.b1 (c:=d) (by omega) (by omega);obtain⟨g,i,J,r1,K,L,M,P,Q,r7⟩:=C4 A.a2 A.b2 B.a2 B.b2 (c:=e) (by omega) (by omega);obtain⟨j,k,R,s1,S,T,W,s5,s6,s7⟩:=C4 A.a3 A.b3 B.a3 B.b3 (c:=g) (by omega) (by omega);obtain⟨l,t4,e4,u1,u2,u3,u4,u5,u6,u7⟩:=C4 A.a4 A.b4 B.a4 B.b4 (c:=j) (by omega) (by omega);obtain⟨c5,t5,e5,v1,v2,v3,v4,v5,v6,v7⟩:=C4 A.a5 A.b5 B.a5 B.b5 (c:=l) (by omega) (by omega);refine⟨⟨n,w,J,R,e4,e5⟩,?_,⟨u,v,G,H,P,Q,s5,s6,u5,u6,v5,v6⟩,?_⟩;{unfold AS;rw[C9 (F:=λx y=>AZ N a b x y) o q];unfold AZ;rw[C9 (F:=λx y=>D5 N a b t0 d x y) z C];unfold D5;rw[C9 (F:=λx y=>AN N a b t0 f d e x y) K L];unfold AN;rw[C9 (F:=λx y=>Cn N a b t0 f d i e g x y) S T];unfold Cn;rw[C9 (F:=λx y=>B7 N a b t0 f d i e k g j x y) u2 u3];unfold B7;rw[C9 (F:=λx y=>Cf N t0 b f d i e k g t4 j l x y) v2 v3];unfold Cf;rw[t,E,M,W,u4,v4]}
 ·unfold dv at h ⊢;simp only;obtain⟨z0,z1,z2,z3,z4,z5,z6,z7,z8,z9,za,zb⟩:=A;obtain⟨y0,y1,y2,y3,y4,y5,y6,y7,y8,y9,ya,yb⟩:=B;have:c5=0:=by omega
  omega
def aeA(N:Nat)(s:so):∀(env:I aJ)(k:Nat),GF N s env k=some (match m5 env s with|none=>(0,false)|some v=>(v,true))
 |[],k=>rfl
 |b::r,k=>by
  unfold GF m5;cases a:(bL b.ay==bL s)with
  |true=>rfl
  |false=>exact aeA N s r (k+1)
def Co(N:Nat)(v:Int64):tM N v=some ((v.toInt.natAbs:Nat):Int):=by
 have a:=lX v;unfold tM;by_cases h:v.toInt<0
 ·rw[dO h,Tq];have e:(-(v+(1:Int64))).toInt= -(v.toInt+1):=by
    rw[Int64.toInt_neg,Int64.toInt_add,show(1:Int64).toInt=1 from rfl,Int.bmod_eq_of_le (n:=v.toInt+1) (m:=2^64) (by omega) (by omega),Int.bmod_eq_of_le (n:= -(v.toInt+1)) (m:=2^64) (by omega) (by omega)]
  rw[e,bh,bh];exact congrArg some (by omega)
 ·rw[Zx h,T6,bh];exact congrArg some (by omega)
def ac3(w:cE)(W:D6 w)(a:Int)(h1:0<=a)(i:a<=9223372036854775808):(bif (w.dp !=0)then some true else(bif (w.di !=0)then some true else(bif (w.dd !=0)then some true else(bif (w.c7 !=0)then some true else some (decide ((u64.wrap (w.cH+(u64.wrap (w.cY*(4294967296:Int)))))>a))))))=some (decide (dv w>a)):=by
 obtain⟨j,k,l,n,o,r,t,u,v,y,z,A⟩:=W;have b:∀{x:Int}{q:U Bool},x≠0->(bif (x !=0)then some true else q)=some true:=λh=>by rw[Ue.2 h,Tq]
 have c:∀{x:Int}{q:U Bool},x=0->(bif (x !=0)then some true else q)=q:=λh=>by subst h;rfl
 unfold dv;by_cases d:w.dp=0
 ·rw[c d];by_cases e:w.di=0
  ·rw[c e];by_cases f:w.dd=0
   ·rw[c f];by_cases g:w.c7=0
    ·rw[c g,bh,bh]
     congr 1
     exact decide_eq_decide.2 (by omega)
    ·rw[b g];congr 1;symm;exact dO (by omega)
   ·rw[b f];congr 1;symm;exact dO (by omega)
  ·rw[b e];congr 1;symm;exact dO (by omega)
 ·rw[b d];congr 1;symm;exact dO (by omega)
def adw(w:cE)(W:D6 w)(h:dv w<=9223372036854775808):u64.wrap (w.cH+(u64.wrap (w.cY*(4294967296:Int))))=dv w:=by
 obtain⟨a,b,c,d,e,f,g,i,j,k,l,n⟩:=W;unfold dv at h ⊢;rw[bh,bh];omega
def ahJ{n:Int}(a:1<=n)(h1:n<=9223372036854775808):((-(Int64.ofInt (u64.wrap (n-(1:Int)))))-(1:Int64))=Int64.ofInt (-n):=by
 rw[show u64.wrap (n-1)=n-1 by rw[bh];omega];apply Int64.toInt_inj.1;rw[Int64.toInt_sub,Int64.toInt_neg,show(1:Int64).toInt=1 from rfl,Int64.toInt_ofInt_of_le (by omega) (by omega),Int64.toInt_ofInt_of_le (by omega) (by omega),Int.bmod_eq_of_le (n:= -(n-1)) (m:=2^64) (by omega) (by omega),Int.bmod_eq_of_le (n:= -(n-1)-1) (m:=2^64) (by omega) (by omega)];omega
def Pt(N:Nat)(env:I aJ):∀(l:I dX)(k:Nat)(p q:cE)(s:Int),D6 p->D6 q->dv p-dv q=s->dv p+dv q+(l.length:Int)*85070591730234615865843651857942052864<=1569275433846670190958947355801916604025588861116008628224->
 vo N env l k p.cH p.cY p.dp p.di p.dd p.c7 q.cH q.cY q.dp q.di q.dd q.c7=some (BI (tc env l s))
 |[],k,p,q,s,P,Q,o,g=>by
  unfold vo tc BI;rw[show(⟨p.cH,p.cY,p.dp,p.di,p.dd,p.c7⟩:cE)=p from rfl,show(⟨q.cH,q.cY,q.dp,q.di,q.dd,q.c7⟩:cE)=q from rfl,aip N p q P Q,re];by_cases h:dv p<dv q
  ·rw[dO h,Tq];obtain⟨r,c,R,d⟩:=agK N q p Q P (by omega);rw[c,re,ac3 r R _ (by decide) (by decide),re];by_cases e:dv r>9223372036854775808
   ·rw[dO e,Tq];simp only;rw[show tJ s=false by rw[<-Uq,qa];omega,T6]
   ·rw[Zx e,T6,adw r R (by omega),ahJ (by omega) (by omega)];simp only;rw[(qa (n:=s)).2 (by omega),Tq,show-dv r=s by omega]
  ·rw[Zx h,T6];obtain⟨r,c,R,d⟩:=agK N p q P Q (by omega);rw[c,re,ac3 r R _ (by decide) (by decide),re];by_cases e:dv r>9223372036854775807
   ·rw[dO e,Tq];simp only;rw[show tJ s=false by rw[<-Uq,qa];omega,T6]
   ·rw[Zx e,T6,adw r R (by omega)];simp only;have:0<=dv r:=by omega
    rw[(qa (n:=s)).2 (by omega),Tq,show dv r=s by omega]
 |m::r,k,p,q,s,P,Q,o,g=>by
  unfold vo tc;simp only;rw[show Ti N env m.ay=GF N m.ay env 0 from rfl,aeA,re];cases K:m5 env m.ay with
  |none=>rfl
  |some v=>
   simp only[Tq];have L:=lX m.eW;have M:=lX v;have f:=abn v.toInt m.eW.toInt;have S:=aft v m.eW;have T:0<=(v.toInt.natAbs:Int)*m.eW.toInt.natAbs:=Int.mul_nonneg (by omega) (by omega);have hp:(v.toInt.natAbs:Int)*m.eW.toInt.natAbs<=85070591730234615865843651857942052864:=by
    rw[<-Int.natCast_mul,<-Int.natAbs_mul];omega
   have i:v.toInt*m.eW.toInt=m.eW.toInt*v.toInt:=Int.mul_comm _ _;rw[Zl]at g;have hP:0<=dv p:=by obtain⟨t,u,x,y,A,B,C,E,F,G,H,J⟩:=P;unfold dv;omega
   have hQ:0<=dv q:=by obtain⟨t,u,x,y,A,B,C,E,F,G,H,J⟩:=Q;unfold dv;omega
   rw[show(⟨p.cH,p.cY,p.dp,p.di,p.dd,p.c7⟩:cE)=p from rfl,show(⟨q.cH,q.cY,q.dp,q.di,q.dd,q.c7⟩:cE)=q from rfl];cases j:(decide (v.toInt<0)==decide (m.eW.toInt<0))with
   |true=>
    rw[Tq,Co,re,Co,re];rw[j,ab rfl]at f;obtain⟨w,c,W,d⟩:=VR N p P (a:=(v.toInt.natAbs:Int)) (b:=(m.eW.toInt.natAbs:Int)) (by omega) (by omega) (by omega) (by omega) (by
      unfold lG;generalize (v.toInt.natAbs:Int)*m.eW.toInt.natAbs=z at*;have:0<=(r.length:Int)*85070591730234615865843651857942052864:=by omega
      omega)
    rw[c,re];refine Pt N env r (k+1) w q (s+m.eW.toInt*v.toInt) W Q ?_ ?_;{rw[d,f,i];omega};{rw[d];generalize (v.toInt.natAbs:Int)*m.eW.toInt.natAbs=z at*;omega}
   |false=>
    rw[T6,Co,re,Co,re];rw[j,ae (by decide)]at f;obtain⟨w,c,W,d⟩:=VR N q Q (a:=(v.toInt.natAbs:Int)) (b:=(m.eW.toInt.natAbs:Int)) (by omega) (by omega) (by omega) (by omega) (by
      unfold lG;generalize (v.toInt.natAbs:Int)*m.eW.toInt.natAbs=z at*;have:0<=(r.length:Int)*85070591730234615865843651857942052864:=by omega
      omega)
    rw[c,re];refine Pt N env r (k+1) p w (s+m.eW.toInt*v.toInt) P W ?_ ?_;{rw[d,f,i];omega};{rw[d];generalize (v.toInt.natAbs:Int)*m.eW.toInt.natAbs=z at*;omega}
def Gr(N:Nat)(i:2147483648<N)(l:bE)(env:I aJ)(f:l.xL.length<=4611686018427387904):vm N l env=some (dB l env):=by
 unfold vm;rw[agV,show L9 N l=some (bif jO l then 0 else 1) by unfold L9;rw[E9 N (by omega) l (Zc f (by decide)),re];cases jO l<;>rfl,re];cases j:jO l with
 |false=>rfl
 |true=>
  simp only[W1,T6];rw[Tq,show((0:Int) !=0)=false from rfl,T6];have k:=lX l.xK;have c:D6 yA:=⟨by decide,by decide,by decide,by decide,by decide,by decide,by decide,by decide,by decide,by decide,by decide,by decide⟩;have d:dv yA=0:=by decide
  obtain⟨w,e,W,g⟩:=VR N yA c (a:=(l.xK.toInt.natAbs:Int)) (b:=1) (by omega) (by omega) (by decide) (by decide) (by rw[d];unfold lG;omega);rw[d]at g;by_cases h:l.xK.toInt<0;{rw[dO h,Tq,Co,re,e,re];exact Pt N env l.xL 0 yA w l.xK.toInt c W (by rw[d];omega) (by rw[d];omega)};{rw[Zx h,T6,Co,re,e,re];exact Pt N env l.xL 0 w yA l.xK.toInt W c (by rw[d];omega) (by rw[d];omega)}
def qA(a:Bool)(h n:Int):Int:=bif a then(n+h)%(2*h)-h else max (-h) (min (h-1) n)
def asO(P:Int->Prop)(h:∀k:Fin 30,P (2^(k.val+1))){b:Int}(h1:2<=b)(a:b<=31):P (2^(b-1).toNat):=by
 have:=h ⟨(b-2).toNat,by omega⟩
 rwa [show(b-2).toNat+1=(b-1).toNat by omega]at this
def apU{w:Bool}{h n:Int}(a:0<h)(h1: -h<=n)(b:n<=h-1):qA w h n=n:=by
 unfold qA;cases w;{simp only[T6];omega};{simp only[Tq];rw[Int.emod_eq_of_lt (by omega) (by omega)];omega}
def aim{w:Bool}{h n:Int}(a:0<h): -h<=qA w h n/\qA w h n<=h-1:=by
 unfold qA;cases w;{simp only[T6];omega};{simp only[Tq];have:=Int.emod_nonneg (n+h) (show 2*h≠0 by omega);have:=Int.emod_lt_of_pos (n+h) (show 0<2*h by omega);omega}
def agF{h u n:Int}(c:u*(2*h)=18446744073709551616)(a:0<u)(d:0<h):
 (((n*u)%18446744073709551616+9223372036854775808)%18446744073709551616-9223372036854775808)/ u=(n+h)%(2*h)-h:=by
 have b:u*h=9223372036854775808:=by
  have:u*(2*h)=2*(u*h):=by rw[Int.mul_left_comm]
  omega
 rw[Int.emod_add_emod,<-c];have e:n*u+9223372036854775808=u*(n+h):=by rw[Int.mul_add,b,Int.mul_comm]
 rw[e,Int.mul_emod_mul_of_pos _ _ a,<-b,<-Int.mul_sub,Int.mul_ediv_cancel_left _ (by omega)]
def ai1{n d:Int}(a:0<d):n.tdiv d=if 0<=n then n / d else-((-n)/ d):=by
 split;{exact ai (by assumption)}
 ·have:n= -(-n):=by omega
  conv=>lhs;rw[this]
  rw[Int.neg_tdiv,ai (by omega)]
def amU{m d:Int}(a:0<d)(b:0<m):(-m)/ d=if m%d=0 then-(m / d)else-(m / d)-1:=by
 have c:=Int.mul_ediv_add_emod m d;have e:=Int.emod_nonneg m (show d≠0 by omega);have f:=Int.emod_lt_of_pos m a;split
 ·rename_i h
  exact((Int.ediv_emod_unique a).2 ⟨(by rw[Int.mul_neg];omega:(0:Int)+d*(-(m / d))= -m),by omega,by omega⟩).1
 ·exact((Int.ediv_emod_unique a).2 ⟨(by rw[Int.mul_sub,Int.mul_neg];omega:(d-m%d)+d*(-(m / d)-1)= -m),by omega,by omega⟩).1
def aaC{n d:Int}(a:0<d):(bif decide (n.tdiv d*d>n)then n.tdiv d-1 else n.tdiv d)=n / d:=by
 rw[ai1 a];by_cases h:0<=n;{rw[ab h,Zx (by have:=Int.ediv_mul_le n (show d≠0 by omega);omega)];rfl}
 ·rw[ae h];obtain⟨m,rfl⟩:∃m,n= -m:=⟨-n,by omega⟩;rw[Int.neg_neg,amU a (by omega),Int.neg_mul];have b:=Int.mul_ediv_add_emod m d;have c:=Int.emod_nonneg m (show d≠0 by omega);rw[Int.mul_comm]at b;split
  ·rw[Zx (by omega)];rfl
  ·rw[dO (by omega)];rfl
def aep{n d:Int}(a:0<d):(bif decide (n.tmod d<0)then n.tdiv d-1 else n.tdiv d)=n / d:=by
 rw[<-aaC a];have h:n.tmod d=n-n.tdiv d*d:=by have:=Int.mul_tdiv_add_tmod n d;rw[Int.mul_comm]at this;omega
 rw[h]
 congr 1
 exact decide_eq_decide.2 (by omega)
def nK(a b:Int):Int:=bif decide (b<0)then(-a)/(-b)else a / b
def ata{a b:Int}(e:b≠0):(bif a.tmod b !=0&&(decide (a<0) !=decide (b<0))then a.tdiv b-1 else a.tdiv b)=nK a b:=by
 have d:∀a b:Int,0<b->(bif a.tmod b !=0&&(decide (a<0) !=false)then a.tdiv b-1 else a.tdiv b)=a / b:=λa b e=>by
  rw[<-aep e]
  congr 1
  have g:0<=a->0<=a.tmod b:=λh=>Int.tmod_nonneg _ h;have i:a<0->a.tmod b<=0:=λh=>by
   have:a= -(-a):=by omega
   rw[this,Int.neg_tmod];have:=Int.tmod_nonneg b (show 0<=-a by omega);omega
  by_cases h:a<0
  ·rw[dO h];have:=i h;by_cases c:a.tmod b=0
   ·rw[c];rfl
   ·rw[dO (by omega),Ue.2 c];rfl
  ·rw[Zx h];have:=g (by omega);rw[Zx (show ¬a.tmod b<0 by omega)];cases (a.tmod b !=0)<;>rfl
 unfold nK;by_cases h:b<0
 ·rw[dO h];simp only[Tq];rw[<-d (-a) (-b) (by omega),Int.neg_tmod,Int.tmod_neg,Int.neg_tdiv_neg]
  congr 1
  have j:(-(a.tmod b) !=0)=(a.tmod b !=0):=by
   by_cases c:a.tmod b=0;{rw[c];rfl};{rw[Ue.2 c,Ue.2 (show-(a.tmod b)≠0 by omega)]}
  rw[j];by_cases c:a=0;{subst c;simp}
  ·by_cases f:a<0
   ·rw[dO f,Zx (show ¬-a<0 by omega)];rfl
   ·rw[Zx f,dO (show-a<0 by omega)];rfl
 ·rw[Zx h];simp only[T6];exact d a b (by omega)
def CD(a b:Nat)(c:Bool)(how:Int):Bool:=(a%b==0||how==3)||((how==1&& !c)||(how==2&&c))||(how==4&&(decide (2*(a%b)<b)||(2*(a%b)==b&&a / b%2==0)))
def nZ(a b:Nat)(c:Bool)(how:Int):Nat:=bif CD a b c how then a / b else a / b+1
def kh(n d:Int)(how:Int):Int:=bif n%d==0||how==1 then n / d else bif how==2 then n / d+1 else bif how==3 then(bif decide (n<0)then n / d+1 else n / d)else bif decide (n%d>d-n%d)||(n%d==d-n%d&&n / d%2 !=0)then n / d+1 else n / d
def atr{a b:Nat}(c:0<b)(d:a%b≠0):(-(a:Int))/(b:Int)= -((a / b:Nat):Int)-1/\(-(a:Int))%(b:Int)=(b:Int)-((a%b:Nat):Int):=by
 have e:a%b<b:=Nat.mod_lt _ c;have f:(b:Int)*((a / b:Nat):Int)+((a%b:Nat):Int)=(a:Int):=by rw[<-Int.natCast_mul,<-Int.natCast_add,Nat.div_add_mod]
 refine(Int.ediv_emod_unique (by omega)).2 ⟨?_,by omega,by omega⟩;rw[Int.mul_sub,Int.mul_neg];omega
def arS{a b:Nat}(c:0<b)(d:a%b=0):(-(a:Int))/(b:Int)= -((a / b:Nat):Int)/\(-(a:Int))%(b:Int)=0:=by
 have e:(b:Int)*((a / b:Nat):Int)+((a%b:Nat):Int)=(a:Int):=by rw[<-Int.natCast_mul,<-Int.natCast_add,Nat.div_add_mod]
 refine(Int.ediv_emod_unique (by omega)).2 ⟨?_,by omega,by omega⟩;rw[Int.mul_neg];omega
def arz{a b:Nat}(c:0<b){how:Int}(f:1<=how)(g:how<=4):((nZ a b false how:Nat):Int)=kh (a:Int) (b:Int) how:=by
 unfold nZ CD kh;have d:(a:Int)%(b:Int)=((a%b:Nat):Int):=(Int.natCast_emod a b).symm;have e:(a:Int)/(b:Int)=((a / b:Nat):Int):=(Int.natCast_ediv a b).symm;rw[d,e];have h:=Nat.mod_lt a c;generalize a%b=r at*;generalize a / b=q at*;rcases (by omega:how=1\/how=2\/how=3\/how=4)with rfl|rfl|rfl|rfl<;>simp only[cond_eq_ite]<;>simp<;>(repeat' split)<;>omega
def aiv{a b:Nat}(c:0<b)(g:0<a){how:Int}(h:1<=how)(i:how<=4): -((nZ a b true how:Nat):Int)=kh (-(a:Int)) (b:Int) how:=by
 unfold nZ CD kh;have j:=Nat.mod_lt a c;by_cases d:a%b=0;{obtain⟨e,f⟩:=arS c d;rw[e,f,d];rfl};{obtain⟨e,f⟩:=atr c d;rw[e,f];generalize a%b=r at*;generalize a / b=q at*;rcases (by omega:how=1\/how=2\/how=3\/how=4)with rfl|rfl|rfl|rfl<;>simp only[cond_eq_ite]<;>simp<;>(repeat' split)<;>omega}
def qR(n d how:Int):Int:=bif decide (d<0)then kh (-n) (-d) how else kh n d how
def amN(d how:Int):kh 0 d how=0:=by unfold kh;simp
def aiy{n d:Int}(f:d≠0){how:Int}(b:1<=how)(c:how<=4):
 (bif decide (n<0) !=decide (d<0)then-((nZ n.natAbs d.natAbs true how:Nat):Int)else((nZ n.natAbs d.natAbs false how:Nat):Int))=qR n d how:=by
 have a:∀n d:Int,0<d->(bif decide (n<0)then-((nZ n.natAbs d.natAbs true how:Nat):Int)else((nZ n.natAbs d.natAbs false how:Nat):Int))=kh n d how:=λn d f=>by
  by_cases h:n<0;{rw[dO h];simp only[Tq];rw[aiv (by omega) (by omega) b c,show-((n.natAbs:Nat):Int)=n by omega,show((d.natAbs:Nat):Int)=d by omega]};{rw[Zx h];simp only[T6];rw[arz (by omega) b c,show((n.natAbs:Nat):Int)=n by omega,show((d.natAbs:Nat):Int)=d by omega]}
 unfold qR;by_cases h:d<0
 ·rw[dO h];simp only[Tq];by_cases g:n=0
  ·subst g;rw[show(decide ((0:Int)<0) !=true)=true from rfl,Int.neg_zero,amN];unfold nZ CD;simp
  ·rw[<-a (-n) (-d) (by omega),Int.natAbs_neg,Int.natAbs_neg]
   congr 1
   by_cases e:n<0;{rw[dO e,Zx (show ¬-n<0 by omega)];rfl};{rw[Zx e,dO (show-n<0 by omega)];rfl}
 ·rw[Zx h];simp only[T6];rw[<-a n d (by omega)];cases decide (n<0)<;>rfl
def NV{n d how B:Int}(a:0<d)(b:0<=B)(h1: -B<=n)(c:n<=B): -B<=kh n d how/\kh n d how<=B+1:=by
 have e: -B<=n / d:=by
  refine Int.le_ediv_of_mul_le a ?_;have:B*1<=B*d:=Yy (by omega) b;rw[Int.neg_mul];omega
 have f:n / d<=B:=by
  have:n / d<=n\/n / d<=0:=by
   by_cases h:0<=n;{exact .inl (Int.ediv_le_self _ h)};{exact .inr (Int.le_of_lt (Int.ediv_neg_of_neg_of_pos (by omega) a))}
  omega
 unfold kh;simp only[cond_eq_ite]
 (repeat' split)<;>omega
def aqW{n d q rest:Int}(how:Int)(a:q=n / d)(b:rest=n-q*d):
 (bif rest==0||how==1 then q else bif how==2 then q+1 else bif how==3 then(bif decide (n<0)then q+1 else q)else bif decide (rest>d-rest)||(rest==d-rest&&q.tmod 2 !=0)then q+1 else q)=kh n d how:=by
 subst a;have e:rest=n%d:=by rw[b,Int.emod_def,Int.mul_comm]
 subst e;have c:((n / d).tmod 2 !=0)=(n / d%2 !=0):=by
  by_cases h:n / d%2=0;{rw[h,Int.tmod_eq_zero_of_dvd (Int.dvd_of_emod_eq_zero h)]};{rw[Ue.2 h,Ue.2 λf=>h (Int.emod_eq_zero_of_dvd (Int.dvd_of_tmod_eq_zero f))]}
 rw[c];rfl
def amS{n m:Int}{d e:Nat}(j:0<d)(k:0<e)(h1:Nat.gcd n.natAbs d=1)(g:Nat.gcd m.natAbs e=1)(h:n*(e:Int)=m*(d:Int)):n=m/\d=e:=by
 have f:n.natAbs*e=m.natAbs*d:=by
  have:=congrArg Int.natAbs h
  rwa [Int.natAbs_mul,Int.natAbs_mul,Int.natAbs_natCast,Int.natAbs_natCast]at this
 have a:d∣ e:=by
  have b:d∣ n.natAbs*e:=by rw[f];exact Nat.dvd_mul_left _ _
  exact Nat.Coprime.dvd_of_dvd_mul_left (show Nat.Coprime d n.natAbs by rw[Nat.coprime_comm];exact h1) b
 have c:e∣ d:=by
  have b:e∣ m.natAbs*d:=by rw[<-f];exact Nat.dvd_mul_left _ _
  exact Nat.Coprime.dvd_of_dvd_mul_left (show Nat.Coprime e m.natAbs by rw[Nat.coprime_comm];exact g) b
 have i:d=e:=Nat.dvd_antisymm a c;subst i;refine⟨?_,rfl⟩;exact Int.eq_of_mul_eq_mul_right (by omega) h
def asn{n d:Nat}(a:0<d):Nat.gcd (n / Nat.gcd n d) (d / Nat.gcd n d)=1:=Nat.gcd_div_gcd_div_gcd_of_pos_right a
def cO(t:aM):Int:=2^(t.bW-1).toNat
def ZH(t:aM):Int:=2^t.ck.toNat
def mH(t:aM)(n:Int):aB:=⟨Int64.ofInt (qA (t.cC==2) (cO t) n),1⟩
def mT(n d:Int):Nat:=Nat.gcd n.natAbs d.natAbs
def IK(n d:Int):Int:=bif decide (n<0) !=decide (d<0)then-((n.natAbs / mT n d:Nat):Int)else((n.natAbs / mT n d:Nat):Int)
def kP(n d:Int):aB×Int:=bif d==0 then(cf,4)else bif decide (2147483647<n.natAbs / mT n d)||decide (2147483647<d.natAbs / mT n d)then(cf,3)else(⟨Int64.ofInt (IK n d),Int64.ofInt ((d.natAbs / mT n d:Nat):Int)⟩,0)
def vv(a b:Int):Int:=bif decide (a<b)then-1 else bif decide (a>b)then 1 else 0
def lr(t:aM)(a b:aB):Int:=bif dz t&&(dI t a&&dI t b)then bif t.bB==1 then vv (a.xN.toInt*b.xD.toInt) (b.xN.toInt*a.xD.toInt)else vv a.xN.toInt b.xN.toInt else 0
def Im(c:Int)(t:aM)(a b:Int):aB×Int:=bif c==4 then(mH t (a+b),0)else bif c==5 then(mH t (a-b),0)else bif c==6 then(mH t (kh (a*b) (ZH t) t.ct),0)else bif c==8 then(mH t (-a),0)else bif b==0 then(cf,4)else(mH t (qR (a*ZH t) b t.ct),0)
def wa(c a b:Int):aB×Int:=
 bif c==7&&b==0 then(cf,4)
 else
  let n:=bif c==4 then a+b else bif c==5 then a-b else bif c==6 then a*b else bif c==7 then nK a b else-a
  bif decide (-2147483647<=n)&&decide (n<=2147483647)then(⟨Int64.ofInt n,1⟩,0)else(cf,3)
def zL(c:Int)(a b:aB):aB×Int:=bif c==4 then kP (a.xN.toInt*b.xD.toInt+b.xN.toInt*a.xD.toInt) (a.xD.toInt*b.xD.toInt)else bif c==5 then kP (a.xN.toInt*b.xD.toInt-b.xN.toInt*a.xD.toInt) (a.xD.toInt*b.xD.toInt)else bif c==6 then kP (a.xN.toInt*b.xN.toInt) (a.xD.toInt*b.xD.toInt)else bif c==7 then kP (a.xN.toInt*b.xD.toInt) (a.xD.toInt*b.xN.toInt)else(⟨-a.xN,a.xD⟩,0)
def ml(c:Int)(t:aM)(a b:aB):aB×Int:=bif decide (c<4)||decide (c>10)then(cf,1)else bif !dz t then(cf,10)else bif !dI t a||(!(c==8)&& !dI t b)then(cf,1)else bif c==9 then(bif decide (lr t a b>0)then b else a,0)else bif c==10 then(bif decide (lr t a b<0)then b else a,0)else bif t.bB==2 then Im c t a.xN.toInt b.xN.toInt else bif t.bB==3 then wa c a.xN.toInt b.xN.toInt else zL c a b
def nN(t:aM)(v:aB):aB:=bif t.bB==2 then(kP v.xN.toInt (ZH t)).1 else v
def Dr(from_ Cp:aM)(v:aB):aB×Int:=
 bif !dz from_|| !dz Cp then(cf,10)else bif !dI from_ v then(cf,1)
 else
  let x:=nN from_ v
  bif Cp.bB==3 then(⟨Int64.ofInt (x.xN.toInt / x.xD.toInt),1⟩,0)else bif Cp.bB==2 then(mH Cp (kh (x.xN.toInt*ZH Cp) x.xD.toInt Cp.ct),0)else(x,0)
structure vl(t:aM):Prop where
 b1:2<=t.bW
 b2:t.bW<=31
 f1:0<=t.ck
 f2:t.ck<=30
 r1:1<=t.ct
 r2:t.ct<=4
 o:t.cC=1\/t.cC=2
def lS{t:aM}(h:dz t=true)(b:t.bB=2):vl t:=by
 unfold dz at h;rw[b]at h;have a:(decide (2<=t.bW)&&(decide (t.bW<=31)&&(decide (0<=t.ck)&&(decide (t.ck<=30)&&(decide (1<=t.ct)&&(decide (t.ct<=4)&&(t.cC==1||t.cC==2)))))))=true:=h;simp only[Zr,UR,aq,Ua]at a;obtain⟨c,d,e,f,g,i,j⟩:=a;exact⟨c,d,e,f,g,i,j⟩
def kinds{t:aM}(h:dz t=true):t.bB=1\/t.bB=2\/t.bB=3:=by
 unfold dz at h;by_cases a:t.bB=1;{exact .inl a}
 ·by_cases b:t.bB=2
  ·exact .inr (.inl b)
  ·by_cases c:t.bB=3
   ·exact .inr (.inr c)
   ·simp [a,b,c]at h
def NG{t:aM}(f:vl t):2<=cO t/\cO t<=1073741824:=
 asO (λx=>2<=x/\x<=1073741824) (by decide) f.b1 f.b2
def adU(P:Int->Prop)(h:∀k:Fin 31,P (2^k.val)){b:Int}(h1:0<=b)(a:b<=30):P (2^b.toNat):=
 h ⟨b.toNat,by omega⟩
def EN{t:aM}(f:vl t):1<=ZH t/\ZH t<=1073741824:=
 adU (λx=>1<=x/\x<=1073741824) (by decide) f.f1 f.f2
structure O0(t:aM)(v:aB):Prop where
 d:v.xD.toInt=1
 n1: -cO t<=v.xN.toInt
 n2:v.xN.toInt<=cO t-1
def mR{t:aM}{v:aB}(h:dI t v=true)(b:t.bB=2):O0 t v:=by
 unfold dI at h;rw[b]at h;have a:(v.xD.toInt==1&&(decide (-(2^(t.bW-1).toNat)<=v.xN.toInt)&&decide (v.xN.toInt<2^(t.bW-1).toNat)))=true:=h;simp only[Zr,UR,Ua]at a;obtain⟨c,d,e⟩:=a;exact⟨c,d,by unfold cO;omega⟩
structure ir(v:aB):Prop where
 n1: -2147483647<=v.xN.toInt
 n2:v.xN.toInt<=2147483647
 d1:1<=v.xD.toInt
 d2:v.xD.toInt<=2147483647
 g:Nat.gcd v.xN.toInt.natAbs v.xD.toInt.toNat=1
def qo{t:aM}{v:aB}(h:dI t v=true)(c:t.bB≠2):ir v:=by
 unfold dI at h;rw[WB c]at h;simp only[T6,Zr,UR]at h;obtain⟨d,e,f,g,a⟩:=h;refine⟨e,d,f,g,?_⟩;cases b:t.bB==3 with
 |true=>
  rw[b]at a;have i:v.xD.toInt=1:=by simpa using a
  rw[i];exact Nat.gcd_one_right _
 |false=>rw[b]at a;simpa using a
def E2{t:aM}{v:aB}(h:dI t v=true)(b:t.bB=3):v.xD.toInt=1:=by
 unfold dI at h;rw[b]at h;have a:(decide (v.xN.toInt<=2147483647)&&(decide (-2147483647<=v.xN.toInt)&&(decide (1<=v.xD.toInt)&&(decide (v.xD.toInt<=2147483647)&&(v.xD.toInt==1)))))=true:=h;simp only[Zr,Ua]at a;exact a.2.2.2.2
def ko{n:Int}(h1: -9223372036854775808<=n)(a:n<=9223372036854775807):(Int64.ofInt n).toInt=n:=Int64.toInt_ofInt_of_le (by omega) (by omega)
structure asv(n d:Int)(v:aB):Prop where
 n1: -2147483647<=v.xN.toInt
 n2:v.xN.toInt<=2147483647
 d1:1<=v.xD.toInt
 d2:v.xD.toInt<=2147483647
 g:Nat.gcd v.xN.toInt.natAbs v.xD.toInt.toNat=1
 en:v.xN.toInt=IK n d
 ed:v.xD.toInt=((d.natAbs / mT n d:Nat):Int)
def aqZ{n d:Int}{v:aB}(h:kP n d=(v,0)):asv n d v:=by
 unfold kP at h;by_cases e:d=0;{subst e;cases h}
 ·rw[WB e]at h;simp only[T6]at h;cases c:(decide (2147483647<n.natAbs / mT n d)||decide (2147483647<d.natAbs / mT n d))with
  |true=>rw[c]at h;cases h
  |false=>
   rw[c]at h;cases h
   rw[Yt,UN,UN]at c;have f:0<mT n d:=Nat.gcd_pos_of_pos_right _ (by omega);have i:0<d.natAbs / mT n d:=Nat.div_pos (Nat.le_of_dvd (by omega) (Nat.gcd_dvd_right _ _)) f;have g:(IK n d).natAbs=n.natAbs / mT n d:=by
     unfold IK;cases (decide (n<0) !=decide (d<0));{exact Int.natAbs_natCast _};{exact(Int.natAbs_neg _).trans (Int.natAbs_natCast _)}
   have a:=ko (n:=IK n d) (by omega) (by omega);have b:=ko (n:=((d.natAbs / mT n d:Nat):Int)) (by omega) (by omega);refine⟨?_,?_,?_,?_,?_,a,b⟩;{show _<=(Int64.ofInt _).toInt;rw[a];omega};{show(Int64.ofInt _).toInt<=_;rw[a];omega};{show _<=(Int64.ofInt _).toInt;rw[b];omega};{show(Int64.ofInt _).toInt<=_;rw[b];omega};{show Nat.gcd (Int64.ofInt _).toInt.natAbs (Int64.ofInt _).toInt.toNat=1;rw[a,b,g,ZK];exact asn (by omega)}
def arP{n S:Int}(h1: -1073741824<=n)(a:n<=1073741824)(b:1<=S)(c:S<=1073741824):∃v,kP n S=(v,0):=by
 unfold kP;rw[WB (show S≠0 by omega)];have d:n.natAbs / mT n S<=n.natAbs:=Nat.div_le_self _ _;have e:S.natAbs / mT n S<=S.natAbs:=Nat.div_le_self _ _;rw[Zx (show ¬2147483647<n.natAbs / mT n S by omega),Zx (show ¬2147483647<S.natAbs / mT n S by omega)];exact⟨_,rfl⟩
def Gc{a b:aB}(h1:a.xN.toInt=b.xN.toInt)(c:a.xD.toInt=b.xD.toInt):a=b:=by
 cases a;cases b
 congr 1;{exact Int64.toInt_inj.1 h1};{exact Int64.toInt_inj.1 c}
def SD{a b:Int}:vv a b=0↔a=b:=by
 unfold vv;simp only[cond_eq_ite,UR]
 (repeat' split)<;>omega
def alv{t:aM}{a b:aB}(k:dz t=true)(i:dI t a=true)(j:dI t b=true)(h:lr t a b=0):a=b:=by
 unfold lr at h;rw[k,i,j]at h;simp only[Bool.and_self,Tq]at h;rcases kinds k with c|c|c
 ·rw[c]at h;have f:=SD.1 h;have A:=qo i (by omega);have B:=qo j (by omega);have e:=amS (n:=a.xN.toInt) (m:=b.xN.toInt) (d:=a.xD.toInt.toNat) (e:=b.xD.toInt.toNat) (by have:=A.d1;omega) (by have:=B.d1;omega) A.g B.g (by
    rw[show((b.xD.toInt.toNat:Nat):Int)=b.xD.toInt by have:=B.d1;omega,show((a.xD.toInt.toNat:Nat):Int)=a.xD.toInt by have:=A.d1;omega];exact f)
  exact Gc e.1 (by have:=A.d1;have:=B.d1;omega)
 ·rw[c]at h;have f:=SD.1 h;exact Gc f (by rw[(mR i c).d,(mR j c).d])
 ·rw[c]at h;have f:=SD.1 h;exact Gc f (by rw[E2 i c,E2 j c])
def ad7{t:aM}{v:aB}(c:dz t=true)(b:dI t v=true):ir (nN t v):=by
 unfold nN;rcases kinds c with a|a|a
 ·rw[a];exact qo b (by omega)
 ·rw[a];have F:=lS c a;have A:=mR b a;have f:=NG F;have d:=EN F;obtain⟨x,e⟩:=arP (n:=v.xN.toInt) (S:=ZH t) (by have:=A.n1;omega) (by have:=A.n2;omega) d.1 d.2;have L:=aqZ e;show ir (kP v.xN.toInt (ZH t)).1;rw[e];exact⟨L.n1,L.n2,L.d1,L.d2,L.g⟩
 ·rw[a];exact qo b (by omega)
def xf{a b:Int64}(h1: -9223372036854775808<=a.toInt+b.toInt)(c:a.toInt+b.toInt<=9223372036854775807):(a+b).toInt=a.toInt+b.toInt:=by rw[asl,br];omega
def qU{a b:Int64}(h1: -9223372036854775808<=a.toInt-b.toInt)(c:a.toInt-b.toInt<=9223372036854775807):(a-b).toInt=a.toInt-b.toInt:=by rw[adF,br];omega
def sL{a b:Int64}(h1: -9223372036854775808<=a.toInt*b.toInt)(c:a.toInt*b.toInt<=9223372036854775807):(a*b).toInt=a.toInt*b.toInt:=by rw[ao2,br];omega
def sB{a:Int64}(h1: -9223372036854775807<=a.toInt):(-a).toInt= -a.toInt:=by
 have:=Int64.toInt_lt a;rw[Int64.toInt_neg,Int.bmod_def];omega
def zG{a b A B:Int}(f: -A<=a)(c:a<=A)(g: -B<=b)(h:b<=B): -(A*B)<=a*b/\a*b<=A*B:=by
 have d:a.natAbs<=A.natAbs:=by omega
 have e:b.natAbs<=B.natAbs:=by omega
 have i:(a*b).natAbs<=(A*B).natAbs:=by rw[Int.natAbs_mul,Int.natAbs_mul];exact Nat.mul_le_mul d e
 have j:0<=A*B:=Int.mul_nonneg (by omega) (by omega);omega
def aiK:∀n:Fin 31,u64.wrap (n.val:Int)=(n.val:Int)/\(Int64.ofInt ((1:Int)*2^(min n.val (IntKind.bits .i64)))).toInt=2^n.val/\min n.val (IntKind.bits .i64)=n.val:=by decide+kernel
def F5{f:Int}(h1:0<=f)(a:f<=30):u64.wrap f=f/\(Int64.ofInt ((1:Int)*2^(min f.toNat (IntKind.bits .i64)))).toInt=2^f.toNat/\min f.toNat (IntKind.bits .i64)=f.toNat:=by
 obtain⟨n,rfl⟩:∃n:Nat,f=n:=⟨f.toNat,by omega⟩;have:=aiK ⟨n,by omega⟩
 simpa using this
def alJ:∀n:Fin 30,(decide ((0:Int)<=(u64.wrap (aF ((64:Int)-((n.val+2:Nat):Int))))))=true/\min (u64.wrap (aF ((64:Int)-((n.val+2:Nat):Int)))).toNat (IntKind.bits .u64)=62-n.val/\
 min (u64.wrap (aF ((64:Int)-((n.val+2:Nat):Int)))).toNat (IntKind.bits .i64)=62-n.val/\(2:Int)^(62-n.val)*(2*2^(n.val+1))=18446744073709551616/\(0:Int)<2^(62-n.val):=by decide+kernel
def alF{b:Int}(h1:2<=b)(a:b<=31):∃k:Nat,(decide ((0:Int)<=(u64.wrap (aF ((64:Int)-b)))))=true/\min (u64.wrap (aF ((64:Int)-b))).toNat (IntKind.bits .u64)=k/\
 min (u64.wrap (aF ((64:Int)-b))).toNat (IntKind.bits .i64)=k/\(2:Int)^k*(2*2^(b-1).toNat)=18446744073709551616/\(0:Int)<2^k:=by
 obtain⟨n,rfl⟩:∃n:Nat,b=n:=⟨b.toNat,by omega⟩;have:=alJ ⟨n-2,by omega⟩;simp only[show n-2+2=n by omega,show n-2+1=n-1 by omega]at this;rw[show((n:Int)-1).toNat=n-1 by omega];exact⟨_,this⟩
def MD(n:Int64):Int64.ofInt n.toInt=n:=Vb (by rw[Eb,br];have:=lX n;omega)
def ub{q:Int64}{z:Int}(h:q.toInt=z):q=Int64.ofInt z:=by rw[<-h,MD]
def De(N:Nat){t:aM}(F:vl t)(n:Int64):qJ N t n=some (mH t n.toInt):=by
 obtain⟨j,z,d,e,A,B⟩:=Km F.b1 F.b2;obtain⟨k,l,q,r,f,g⟩:=alF F.b1 F.b2;have i:=NG F;unfold qJ Rc FU GV Cb;rw[iq,re,re,nD,dO F.b1,dO F.b2];simp only[Bool.and_self,Tq];rw[j,l];simp only[Tq,re];rw[d,e,q,r]
 change _=some (⟨Int64.ofInt (qA (t.cC==2) (cO t) n.toInt),1⟩:aB)
 have u:(-(Int64.ofInt ((1:Int)*2^(min (u64.wrap (aF (t.bW-(1:Int)))).toNat (IntKind.bits .i64)))))=Int64.ofInt (-cO t):=ub d;have v:((Int64.ofInt ((1:Int)*2^(min (u64.wrap (aF (t.bW-(1:Int)))).toNat (IntKind.bits .i64))))-(1:Int64))=Int64.ofInt (cO t-1):=ub e;rw[u,v,nD,iq];have w:(decide (-(2^(t.bW-1).toNat)<=n.toInt)&&decide (n.toInt<=2^(t.bW-1).toNat-1))=(decide (-cO t<=n.toInt)&&decide (n.toInt<=cO t-1)):=rfl;have x:(t.cC !=1&&t.cC !=2)=false:=by rcases F.o with h|h<;>rw[h]<;>rfl
 rw[x];simp only[re,T6];rw[iq,w];by_cases b: -cO t<=n.toInt
 ·by_cases c:n.toInt<=cO t-1
  ·rw[dO b,dO c,apU (by omega) b c,MD];rfl
  ·rw[dO b,Zx c];simp only[Bool.and_false,T6];rcases F.o with a|a
   ·rw[a,Zx (show ¬n.toInt< -2^(t.bW-1).toNat from λh=>by have:n.toInt< -cO t:=h;omega)];simp only[Z7,Tq,re,T6];rw[show((1:Int)==2)=false from rfl];unfold qA;simp only[T6];rw[show max (-cO t) (min (cO t-1) n.toInt)=cO t-1 by omega]
   ·rw[a];show some (⟨Int64.ofInt (((Int64.ofInt _).toInt).fdiv (2^k)),1⟩:aB)=_;rw[Eb,br,mg,mg,Int.fdiv_eq_ediv_of_nonneg _ (by omega),Int.mul_emod,Int.emod_emod,<-Int.mul_emod,agF f g (by unfold cO at i;omega)];rfl
 ·rw[Zx b];simp only[Bool.false_and,T6];rcases F.o with a|a
  ·have y:n.toInt< -cO t:=by omega
   rw[a,dO (show n.toInt< -2^(t.bW-1).toNat from y)];simp only[Z7,Tq,re];rw[show((1:Int)==2)=false from rfl];unfold qA;simp only[T6];rw[show max (-cO t) (min (cO t-1) n.toInt)= -cO t by omega];rfl
  ·rw[a];show some (⟨Int64.ofInt (((Int64.ofInt _).toInt).fdiv (2^k)),1⟩:aB)=_;rw[Eb,br,mg,mg,Int.fdiv_eq_ediv_of_nonneg _ (by omega),Int.mul_emod,Int.emod_emod,<-Int.mul_emod,agF f g (by unfold cO at i;omega)];rfl
def amp(N:Nat)(e:2147483648<N){t:aM}(v:aB)(c:dz t=true)(f:t.bB=2):tO N t v=some (dI t v):=by
 have h:=rE N e t v c;unfold nM at h;rw[rf,c,re,f]at h;have a:Option.bind (tO N t v) (λx=>some x)=some (dI t v):=h;cases d:tO N t v with
 |none=>rw[d]at a;cases a
 |some b=>rw[d]at a;exact a
def wW:aM:=⟨1,0,0,0,0⟩
def Rw:dz wW=true:=rfl
def qn(N:Nat)(d:2147483648<N)(v:aB):lI N v=some (dI wW v):=by
 have h:=rE N d wW v Rw;unfold nM at h;rw[rf,Rw,re]at h;have a:Option.bind (lI N v) (λx=>some x)=some (dI wW v):=h;cases c:lI N v with
 |none=>rw[c]at a;cases a
 |some b=>rw[c]at a;exact a
def ir.ok{v:aB}(h:ir v):dI wW v=true:=by
 unfold dI;show(decide (v.xN.toInt<=2147483647)&&(decide (-2147483647<=v.xN.toInt)&&(decide (1<=v.xD.toInt)&&(decide (v.xD.toInt<=2147483647)&&(Nat.gcd v.xN.toInt.natAbs v.xD.toInt.toNat==1)))))=true;rw[dO h.n2,dO h.n1,dO h.d1,dO h.d2,h.g];rfl
def aac(N:Nat)(a:2147483648<N){t:aM}(b:dz t=true)(c:t.bB=2):∀(l:I aB)(k:Nat),(∀v∈l,dI t v=true)->Oo N t l k=some 0
 |[],_,_=>rfl
 |v::l,k,h=>by
  rw[Oo,amp N a v b c,h v Zq];exact aac N a b c l (k+1) λx d=>h x (Zg _ d)
def aeP(N:Nat){t:aM}(b:dz t=true)(a:t.bB=2):xH N t=some 0:=by
 have F:=lS b a;have c:(t.cC==1||t.cC==2)=true:=by rcases F.o with h|h<;>rw[h]<;>rfl
 rw[Um N t (by rw[a];rfl),dO F.b1,dO F.b2,dO F.f1,dO F.f2,dO F.r1,dO F.r2,c];rfl
def afp(N:Nat)(c:2147483648<N){t:aM}(a:dz t=true)(b:t.bB=2){l:I aB}(h:∀v∈l,dI t v=true):sW N t l=some 0:=by
 unfold sW;rw[aeP N a b,re];exact aac N c a b l 0 h
def ajQ{a b:Nat}(d:0<b)(o:a<=9223372036854775808)(r:b<=9223372036854775808)(c:Bool)(how:Int):uf (a:Int) (b:Int) c how=((nZ a b c how:Nat):Int):=by
 have t:a / b<=a:=Nat.div_le_self _ _;have u:a%b<b:=Nat.mod_lt _ d;have e:u64.wrap ((a:Int).tdiv (b:Int))=((a / b:Nat):Int):=by rw[<-Int.ofNat_tdiv,mg];generalize a / b=q at*;omega
 have f:(a:Int).tmod (b:Int)=((a%b:Nat):Int):=(Int.ofNat_tmod a b).symm;have g:u64.wrap (2*((a%b:Nat):Int))=((2*(a%b):Nat):Int):=by rw[mg];generalize a%b=q at*;omega
 have h:u64.wrap (((a / b:Nat):Int)+1)=((a / b+1:Nat):Int):=by rw[mg];generalize a / b=q at*;omega
 have i:((a / b:Nat):Int).tmod 2=((a / b%2:Nat):Int):=(Int.ofNat_tmod (a / b) 2).symm;unfold uf iY nZ CD;simp only[e,f,g,h,i];have j:(((a%b:Nat):Int)==0)=(a%b==0):=tG _ 0;have k:decide (((2*(a%b):Nat):Int)<(b:Int))=decide (2*(a%b)<b):=ov (by omega);have l:(((2*(a%b):Nat):Int)==(b:Int))=(2*(a%b)==b):=tG _ _;have n:(((a / b%2:Nat):Int)==0)=(a / b%2==0):=tG _ 0;rw[j,k,l,n];generalize ((a%b==0||how==3)||((how==1&& !c)||(how==2&&c))||(how==4&&(decide (2*(a%b)<b)||(2*(a%b)==b&&a / b%2==0))))=z;cases z<;>rfl
def afl(N:Nat)(v:Int64):H5 N v=some ((v.toInt.natAbs:Nat):Int):=by
 unfold H5;have:=lX v;by_cases h:v.toInt<0
 ·rw[dO h];simp only[Tq,mg]
  congr 1
  omega
 ·rw[Zx h];simp only[T6,mg]
  congr 1
  omega
def aiw{a b:Nat}(c:Bool)(how:Int):nZ a b c how<=a+1:=by
 have d:a / b<=a:=Nat.div_le_self _ _;unfold nZ;cases CD a b c how;{simp only[T6];omega};{simp only[Tq];omega}
def SF(N:Nat)(n d:Int64){how:Int}(h1:1<=how)(g:how<=4)(j: -4611686018427387904<=n.toInt)(k:n.toInt<=4611686018427387904):
 Dv N n d how=some (bif d.toInt==0 then(0,4)else(Int64.ofInt (qR n.toInt d.toInt how),0)):=by
 unfold Dv IF;rw[nD,iq,dO h1,dO g];simp only[Bool.and_self,re,Tq];by_cases e:d.toInt=0;{rw[e];rfl}
 ·have l:=lX d;rw[WB e];simp only[T6];rw[afl,afl];unfold UP;simp only[re];rw[show(((d.toInt.natAbs:Nat):Int) !=0)=true by rw[Ue];omega];simp only[Tq,re];rw[ajQ (by omega) (by omega) (by omega)];have c:=aiy (n:=n.toInt) (d:=d.toInt) e h1 g;have h:=aiw (a:=n.toInt.natAbs) (b:=d.toInt.natAbs);cases i:(decide (n.toInt<0)==decide (d.toInt<0))with
  |true=>
   have f:(decide (n.toInt<0) !=decide (d.toInt<0))=false:=by unfold bne;rw[i];rfl
   rw[f]at c;simp only[T6]at c;have:=h false how;simp only[W1,Tq];rw[nD,Zx (show ¬(9223372036854775808:Int)<=((nZ n.toInt.natAbs d.toInt.natAbs false how:Nat):Int) by omega)];simp only[T6];rw[c]
  |false=>
   have f:(decide (n.toInt<0) !=decide (d.toInt<0))=true:=by unfold bne;rw[i];rfl
   rw[f]at c;simp only[Tq]at c;have:=h true how;simp only[Bool.not_false,T6];rw[<-c]
   congr 2
   refine Vb ?_;rw[Eb,Eb,mg,br,br];omega
def qP{t:aM}(F:vl t){v:aB}(V:O0 t v): -1073741824<=v.xN.toInt/\v.xN.toInt<=1073741824:=by
 have:=NG F;have:=V.n1;have:=V.n2;omega
structure Fx(N:Nat)(t:aM)(a b:aB):Prop where
 hN:2147483648<N
 ht:dz t=true
 hk:t.bB=2
 ha:dI t a=true
 hb:dI t b=true
def Fx.gN{N:Nat}{t:aM}{a b:aB}(h:Fx N t a b):sW N t [a,b]=some 0:=afp N h.hN h.ht h.hk λv c=>by
 simp only[Za,Yx,or_false]at c;rcases c with rfl|rfl
 ·exact h.ha
 ·exact h.hb
def aiZ{N:Nat}{t:aM}{a:aB}(h:Fx N t a a):EV N t a=some (mH t (-a.xN.toInt),0):=by
 have B:=qP (lS h.ht h.hk) (mR h.ha h.hk);unfold EV Un SA;rw[h.gN];show Option.bind (Option.bind (qJ N t (-a.xN)) (λb=>some (b,0))) _=_;rw[De N (lS h.ht h.hk),sB (by omega)];rfl
def anG{N:Nat}{t:aM}{a b:aB}(h:Fx N t a b):Es N t a b=some (mH t (a.xN.toInt+b.xN.toInt),0):=by
 have B:=qP (lS h.ht h.hk) (mR h.ha h.hk);have C:=qP (lS h.ht h.hk) (mR h.hb h.hk);unfold Es VO Te;rw[h.gN];show Option.bind (Option.bind (qJ N t (a.xN+b.xN)) (λc=>some (c,0))) _=_;rw[De N (lS h.ht h.hk),xf (by omega) (by omega)];rfl
def arL{N:Nat}{t:aM}{a b:aB}(h:Fx N t a b):Eo N t a b=some (mH t (a.xN.toInt-b.xN.toInt),0):=by
 have B:=qP (lS h.ht h.hk) (mR h.ha h.hk);have C:=qP (lS h.ht h.hk) (mR h.hb h.hk);unfold Eo TE V0;rw[h.gN];show Option.bind (Option.bind (qJ N t (a.xN-b.xN)) (λc=>some (c,0))) _=_;rw[De N (lS h.ht h.hk),qU (by omega) (by omega)];rfl
def zW{n d how:Int}(a:0<d)(h1: -4611686018427387904<=n)(b:n<=4611686018427387904):(Int64.ofInt (kh n d how)).toInt=kh n d how:=by
 have:=NV (how:=how) a (B:=4611686018427387904) (by decide) h1 b;exact ko (by omega) (by omega)
def asc{n d how:Int}(b:d≠0)(h1: -4611686018427387904<=n)(a:n<=4611686018427387904):(Int64.ofInt (qR n d how)).toInt=qR n d how:=by
 unfold qR;by_cases h:d<0;{rw[dO h];exact zW (by omega) (by omega) (by omega)};{rw[Zx h];exact zW (by omega) h1 a}
def aeS{n d how:Int}(a:0<d):qR n d how=kh n d how:=by unfold qR;rw[Zx (show ¬d<0 by omega)];rfl
def ap4{N:Nat}{t:aM}{a b:aB}(h:Fx N t a b):Hj N t a b=some (mH t (kh (a.xN.toInt*b.xN.toInt) (ZH t) t.ct),0):=by
 have F:=lS h.ht h.hk;have B:=qP F (mR h.ha h.hk);have C:=qP F (mR h.hb h.hk);have M:=zG B.1 B.2 C.1 C.2;have S:=EN F;obtain⟨f,c,g⟩:=F5 F.f1 F.f2;unfold Hj Wi Vo;have e:=sL (a:=a.xN) (b:=b.xN) (by omega) (by omega);have d:(Int64.ofInt ((1:Int)*2^(min (t.ck).toNat (IntKind.bits .i64)))).toInt=ZH t:=c;rw[h.gN,dO F.f1,SF N _ _ F.r1 F.r2 (by rw[e];omega) (by rw[e];omega),d,e,WB (show ZH t≠0 by omega)];simp only[re,Tq,T6,bne_self_eq_false];rw[De N F,aeS (by omega),zW (by omega) (by omega) (by omega)];rfl
def afq{n:Int64}{f:Int}(h1:0<=f)(a:f<=30)(b: -4294967296<=n.toInt)(c:n.toInt<=4294967296):
 (Int64.ofInt (n.toInt*2^(min f.toNat (IntKind.bits .i64)))).toInt=n.toInt*2^f.toNat/\-4611686018427387904<=n.toInt*2^f.toNat/\n.toInt*2^f.toNat<=4611686018427387904:=by
 obtain⟨e,g,d⟩:=F5 h1 a;have S:=adU (λx=>1<=x/\x<=1073741824) (by decide) h1 a;have M:=zG b c (show-1073741824<=2^f.toNat by omega) S.2;rw[d];exact⟨ko (by omega) (by omega),by omega,by omega⟩
def asy{N:Nat}{t:aM}{a b:aB}(h:Fx N t a b):Hn N t a b=some (bif b.xN.toInt==0 then(cf,4)else(mH t (qR (a.xN.toInt*ZH t) b.xN.toInt t.ct),0)):=by
 have F:=lS h.ht h.hk;have B:=qP F (mR h.ha h.hk);obtain⟨e,d,f⟩:=afq (n:=a.xN) F.f1 F.f2 (by omega) (by omega);unfold Hn SS SE;rw[h.gN,dO F.f1,SF N _ _ F.r1 F.r2 (by rw[e];omega) (by rw[e];omega),e];by_cases c:b.xN.toInt=0;{rw[c];rfl};{rw[WB c];simp only[re,Tq,T6,bne_self_eq_false];rw[De N F,asc c d f];rfl}
def BQ(N:Nat)(i:9223372036854775808<N)(n d:Int64):tN N n d=some (kP n.toInt d.toInt):=by
 unfold tN kP;have j:=lX n;have e:=lX d;by_cases a:d.toInt=0;{rw[a];rfl}
 ·rw[WB a];simp only[T6];rw[Ih,Ih];unfold DA;simp only[re];rw[MQ N N _ _ (by omega)];simp only[re];have k:0<Nat.gcd n.toInt.natAbs d.toInt.natAbs:=Nat.gcd_pos_of_pos_right _ (by omega);rw[show(((Nat.gcd n.toInt.natAbs d.toInt.natAbs:Nat):Int) !=0)=true by rw[Ue];omega]
  change _=some (bif decide (2147483647<n.toInt.natAbs / Nat.gcd n.toInt.natAbs d.toInt.natAbs)||decide (2147483647<d.toInt.natAbs / Nat.gcd n.toInt.natAbs d.toInt.natAbs)then(cf,3)else(⟨Int64.ofInt (bif decide (n.toInt<0) !=decide (d.toInt<0)then-((n.toInt.natAbs / Nat.gcd n.toInt.natAbs d.toInt.natAbs:Nat):Int)else((n.toInt.natAbs / Nat.gcd n.toInt.natAbs d.toInt.natAbs:Nat):Int)),Int64.ofInt ((d.toInt.natAbs / Nat.gcd n.toInt.natAbs d.toInt.natAbs:Nat):Int)⟩,0))
  generalize f:Nat.gcd n.toInt.natAbs d.toInt.natAbs=g at*;have l:n.toInt.natAbs / g<=n.toInt.natAbs:=Nat.div_le_self _ _;have o:d.toInt.natAbs / g<=d.toInt.natAbs:=Nat.div_le_self _ _;have b:u64.wrap ((n.toInt.natAbs:Int).tdiv (g:Int))=((n.toInt.natAbs / g:Nat):Int):=by rw[<-Int.ofNat_tdiv,mg];generalize n.toInt.natAbs / g=q at*;omega
  have c:u64.wrap ((d.toInt.natAbs:Int).tdiv (g:Int))=((d.toInt.natAbs / g:Nat):Int):=by rw[<-Int.ofNat_tdiv,mg];generalize d.toInt.natAbs / g=q at*;omega
  simp only[Tq];rw[b,c,kO,re,ov (p:=((n.toInt.natAbs / g:Nat):Int)>2147483647) (q:=2147483647<n.toInt.natAbs / g) (by omega),ov (p:=((d.toInt.natAbs / g:Nat):Int)>2147483647) (q:=2147483647<d.toInt.natAbs / g) (by omega)];cases h:(decide (2147483647<n.toInt.natAbs / g)||decide (2147483647<d.toInt.natAbs / g))with
  |true=>rfl
  |false=>
   rw[Yt,UN,UN]at h;unfold bne;cases (decide (n.toInt<0)==decide (d.toInt<0))with
   |true=>rfl
   |false=>
    simp only[T6,Bool.not_false,Tq];clear b c;generalize n.toInt.natAbs / g=p at*;generalize d.toInt.natAbs / g=q at*
    congr 3
    refine Vb ?_;rw[sB (by rw[ko]<;>omega),ko (by omega) (by omega),ko (by omega) (by omega)]
def Iz{a b:Int}(d: -2147483647<=a)(c:a<=2147483647)(e: -2147483647<=b)(f:b<=2147483647): -4611686014132420609<=a*b/\a*b<=4611686014132420609:=by
 have:=zG d c e f;omega
def ir.d0{v:aB}(h:ir v): -2147483647<=v.xD.toInt:=by have:=h.d1;omega
def kr{a b:Int64}(h1: -2147483647<=a.toInt)(c:a.toInt<=2147483647)(d: -2147483647<=b.toInt)(e:b.toInt<=2147483647):(a*b).toInt=a.toInt*b.toInt:=by
 have:=Iz h1 c d e;exact sL (by omega) (by omega)
def aaT{a b:aB}(A:ir a)(B:ir b):(a.xN*b.xD+b.xN*a.xD).toInt=a.xN.toInt*b.xD.toInt+b.xN.toInt*a.xD.toInt:=by
 have p:=Iz A.n1 A.n2 B.d0 B.d2;have q:=Iz B.n1 B.n2 A.d0 A.d2;rw[xf]<;>rw[kr A.n1 A.n2 B.d0 B.d2,kr B.n1 B.n2 A.d0 A.d2]<;>omega
def afy{a b:aB}(A:ir a)(B:ir b):(a.xN*b.xD-b.xN*a.xD).toInt=a.xN.toInt*b.xD.toInt-b.xN.toInt*a.xD.toInt:=by
 have p:=Iz A.n1 A.n2 B.d0 B.d2;have q:=Iz B.n1 B.n2 A.d0 A.d2;rw[qU]<;>rw[kr A.n1 A.n2 B.d0 B.d2,kr B.n1 B.n2 A.d0 A.d2]<;>omega
def al7{N:Nat}(c:9223372036854775808<N){a b:aB}(A:ir a)(B:ir b):Fv N a b=some (kP (a.xN.toInt*b.xD.toInt+b.xN.toInt*a.xD.toInt) (a.xD.toInt*b.xD.toInt)):=by
 unfold Fv;rw[qn N (by omega),qn N (by omega),A.ok,B.ok,BQ N c,aaT A B,kr A.d0 A.d2 B.d0 B.d2];rfl
def akG{N:Nat}(c:9223372036854775808<N){a b:aB}(A:ir a)(B:ir b):IP N a b=some (kP (a.xN.toInt*b.xD.toInt-b.xN.toInt*a.xD.toInt) (a.xD.toInt*b.xD.toInt)):=by
 unfold IP;rw[qn N (by omega),qn N (by omega),A.ok,B.ok,BQ N c,afy A B,kr A.d0 A.d2 B.d0 B.d2];rfl
def anS{N:Nat}(c:9223372036854775808<N){a b:aB}(A:ir a)(B:ir b):GK N a b=some (kP (a.xN.toInt*b.xN.toInt) (a.xD.toInt*b.xD.toInt)):=by
 unfold GK;rw[qn N (by omega),qn N (by omega),A.ok,B.ok,BQ N c,kr A.n1 A.n2 B.n1 B.n2,kr A.d0 A.d2 B.d0 B.d2];rfl
def aqD{N:Nat}(c:9223372036854775808<N){a b:aB}(A:ir a)(B:ir b):I2 N a b=some (kP (a.xN.toInt*b.xD.toInt) (a.xD.toInt*b.xN.toInt)):=by
 unfold I2;rw[qn N (by omega),qn N (by omega),A.ok,B.ok,BQ N c,kr A.n1 A.n2 B.d0 B.d2,kr A.d0 A.d2 B.n1 B.n2];rfl
def alR(N:Nat)(n:Int64):qY N n=some (decide (-2147483647<=n.toInt)&&decide (n.toInt<=2147483647)):=by
 unfold qY;rw[nD,iq];rfl
def WI{a b:Int}: -(a.natAbs:Int)<=a.tdiv b/\a.tdiv b<=(a.natAbs:Int):=by
 have h:(a.tdiv b).natAbs<=a.natAbs:=by rw[Int.natAbs_tdiv];exact Nat.div_le_self _ _
 omega
def Sa{a b:Int}(c:b≠0): -(a.natAbs:Int)<=a.tmod b/\a.tmod b<=(a.natAbs:Int):=by
 have h:(a.tmod b).natAbs<=a.natAbs:=by rw[Int.natAbs_tmod];exact Nat.mod_le _ _
 omega
def akP(N:Nat)(e:Int)(a b:Int64)(h1: -2147483647<=a.toInt)(i:a.toInt<=2147483647)(j: -2147483647<=b.toInt)(k:b.toInt<=2147483647)(l:e=4\/e=5\/e=6\/e=7):
 Js N e a b=some (wa e a.toInt b.toInt):=by
 have o:=xf (a:=a) (b:=b) (by omega) (by omega);have q:=qU (a:=a) (b:=b) (by omega) (by omega);have r:=kr h1 i j k;have c:∀(z:Int64)(n:Int),z.toInt=n->((qY N z).bind λv=>bif v then some ((⟨z,1⟩:aB),(0:Int))else some (cf,(3:Int)))=some (bif decide (-2147483647<=n)&&decide (n<=2147483647)then(⟨Int64.ofInt n,1⟩,0)else(cf,3)):=λz n g=>by
  subst g;rw[alR,re,MD];cases (decide (-2147483647<=z.toInt)&&decide (z.toInt<=2147483647))<;>rfl
 unfold Js wa;rcases l with rfl|rfl|rfl|rfl
 ·exact c _ _ o
 ·exact c _ _ q
 ·exact c _ _ r
 ·show(bif b.toInt==0 then some (cf,(4:Int))else _)=some (bif true&&b.toInt==0 then(cf,4)else bif decide (-2147483647<=nK a.toInt b.toInt)&&decide (nK a.toInt b.toInt<=2147483647)then(⟨Int64.ofInt (nK a.toInt b.toInt),1⟩,0)else(cf,3));by_cases f:b.toInt=0
  ·rw[f];rfl
  ·have w:=WI (a:=a.toInt) (b:=b.toInt);have x:=Sa (a:=a.toInt) f;have q1:(Int64.ofInt (a.toInt.tmod b.toInt)).toInt=a.toInt.tmod b.toInt:=ko (by omega) (by omega);have h:(Int64.ofInt (a.toInt.tdiv b.toInt)).toInt=a.toInt.tdiv b.toInt:=ko (by omega) (by omega);have t:((Int64.ofInt (a.toInt.tdiv b.toInt))-(1:Int64)).toInt=a.toInt.tdiv b.toInt-1:=by
    rw[qU]<;>rw[h,show(1:Int64).toInt=1 from rfl]<;>omega
   have d:=ata (a:=a.toInt) f;rw[WB f,Ue.2 f,q1];simp only[T6,Tq,Bool.and_false];rw[iq,re];have u:(!(decide (a.toInt<0)==decide (b.toInt<0)))=(decide (a.toInt<0) !=decide (b.toInt<0)):=rfl;rw[u];cases g:(a.toInt.tmod b.toInt !=0&&(decide (a.toInt<0) !=decide (b.toInt<0)))with
   |true=>rw[g]at d;exact c _ _ (t.trans d)
   |false=>rw[g]at d;exact c _ _ (h.trans d)
def anL(N:Nat)(a b:Int64):CP N a b=some (vv a.toInt b.toInt):=by
 unfold CP vv;cases decide (a.toInt<b.toInt);{cases decide (a.toInt>b.toInt)<;>rfl};{rfl}
def afd(N:Nat)(c:2147483648<N)(t:aM)(a b:aB)(d:dz t=true):GS N t a b=some (lr t a b):=by
 unfold GS lr;rw[rE N c t a d,rE N c t b d,d];cases e:dI t a with
 |false=>rfl
 |true=>
  cases f:dI t b with
  |false=>rfl
  |true=>
   simp only[re,Tq,W1,T6,Bool.and_self];cases g:t.bB==1 with
   |true=>
    have h:t.bB=1:=by simpa using g
    have A:=qo e (by omega);have B:=qo f (by omega);simp only[Tq];unfold T3;rw[qn N c,qn N c,A.ok,B.ok,anL,kr A.n1 A.n2 B.d0 B.d2,kr B.n1 B.n2 A.d0 A.d2];rfl
   |false=>
    simp only[T6];unfold vv;cases decide (a.xN.toInt<b.xN.toInt);{cases decide (a.xN.toInt>b.xN.toInt)<;>rfl};{rfl}
def anh(N:Nat)(e:9223372036854775808<N){c:Int}{t:aM}{a b:aB}(i:dz t=true)(f:dI t a=true)(g:dI t b=true)(h:c=4\/c=5\/c=6\/c=7):
 Nj N c t a b=some (bif t.bB==2 then Im c t a.xN.toInt b.xN.toInt else bif t.bB==3 then wa c a.xN.toInt b.xN.toInt else zL c a b):=by
 unfold Nj;rcases kinds i with d|d|d
 ·have A:=qo f (by omega);have B:=qo g (by omega);rw[d];rcases h with rfl|rfl|rfl|rfl
  ·show Option.bind (Fv N a b) _=_;rw[al7 e A B];rfl
  ·show Option.bind (IP N a b) _=_;rw[akG e A B];rfl
  ·show Option.bind (GK N a b) _=_;rw[anS e A B];rfl
  ·show Option.bind (I2 N a b) _=_;rw[aqD e A B];rfl
 ·have X:Fx N t a b:=⟨by omega,i,d,f,g⟩;rw[d];rcases h with rfl|rfl|rfl|rfl
  ·show Option.bind (Es N t a b) _=_;rw[anG X];rfl
  ·show Option.bind (Eo N t a b) _=_;rw[arL X];rfl
  ·show Option.bind (Hj N t a b) _=_;rw[ap4 X];rfl
  ·show Option.bind (Hn N t a b) _=_;rw[asy X];rfl
 ·have A:=qo f (by omega);have B:=qo g (by omega);rw[d];show Option.bind (Js N c a.xN b.xN) _=_;rw[akP N c _ _ A.n1 A.n2 B.n1 B.n2 h];rfl
def ao0(N:Nat)(g:2147483648<N){t:aM}{a:aB}(f:dz t=true)(d:dI t a=true)(b:Int):Lv N t a=some (bif t.bB==2 then Im 8 t a.xN.toInt b else bif t.bB==3 then wa 8 a.xN.toInt b else zL 8 a a):=by
 unfold Lv;rcases kinds f with c|c|c
 ·rw[c];rfl
 ·rw[c];show Option.bind (EV N t a) _=_;rw[aiZ ⟨g,f,c,d,d⟩];rfl
 ·have A:=qo d (by omega);have D:=E2 d c;have e:(-a.xN).toInt= -a.xN.toInt:=sB (by have:=A.n1;omega);rw[c];unfold wa;rw[show((8:Int)==7&&b==0)=false from rfl,show((8:Int)==4)=false from rfl,show((8:Int)==5)=false from rfl,show((8:Int)==6)=false from rfl,show((8:Int)==7)=false from rfl,show((3:Int)==2)=false from rfl,show((3:Int)==3)=true from rfl];simp only[T6,Tq];rw[dO (show-2147483647<=-a.xN.toInt by have:=A.n2;omega),dO (show-a.xN.toInt<=2147483647 by have:=A.n1;omega)];simp only[Bool.and_self,Tq]
  congr 2
  exact Gc (by rw[e];exact(ko (by have:=A.n2;omega) (by have:=A.n1;omega)).symm) D
def afc(N:Nat)(f:2147483648<N){t:aM}{a b:aB}(g:dz t=true)(e:Int):BD N t a b e true=some (bif e==9 then(bif decide (lr t a b>0)then b else a)else(bif decide (lr t a b<0)then b else a),0):=by
 unfold BD;rw[afd N f t a b g];simp only[Tq,re];generalize lr t a b=c;cases i:e==9 with
 |true=>
  by_cases d:c>0;{rw[dO d,Ue.2 (show c≠0 by omega)];rfl};{rw[Zx d];rfl}
 |false=>
  by_cases d:c<0;{rw[dO d,Zx (show ¬c>0 by omega),Ue.2 (show c≠0 by omega)];rfl}
  ·rw[Zx d];by_cases h:c>0
   ·rw[dO h];rfl
   ·obtain rfl:c=0:=by omega
    rfl
def aom(a b c:aB):zL 8 a b=zL 8 a c:=by
 unfold zL;rw[show((8:Int)==4)=false from rfl,show((8:Int)==5)=false from rfl,show((8:Int)==6)=false from rfl,show((8:Int)==7)=false from rfl];simp only[T6]
def Ux(N:Nat)(f:9223372036854775808<N)(c:Int)(t:aM)(a b:aB):yZ N c t a b=some (ml c t a b):=by
 have e:2147483648<N:=Nat.lt_trans (by decide) f;unfold yZ ml;rw[kO,re,rf,re];by_cases g:c<4;{rw[dO g];rfl}
 by_cases n:c<=10
 ·rw[Zx g,Zx (show ¬c>10 by omega)];simp only[Bool.or_self,T6];cases d:dz t with
  |false=>rfl
  |true=>
   simp only[Tq,W1,T6,bne_self_eq_false];rw[rE N e t a d,rE N e t b d];cases h:dI t a with
   |false=>rfl
   |true=>
    simp only[re,Tq,W1,b7];rw[Ai,iq,re];by_cases i:c=8;{subst i;rw[ao0 N e d h b.xN.toInt,aom a a b];rfl}
    ·rw[WB i];simp only[Bool.not_false,Zt,T6];cases l:dI t b with
     |false=>rfl
     |true=>
      simp only[W1,T6];by_cases j:c=9;{subst j;rw[show((9:Int)==9)=true from rfl,afc N e d];rfl}
      ·rw[WB j];simp only[T6];by_cases k:c=10
       ·subst k;rw[show((10:Int)==10)=true from rfl,afc N e d];rfl
       ·rw[WB k];unfold BD;simp only[T6];rw[anh N f d h l (by omega)];rfl
 ·rw[dO (show c>10 by omega),Bool.or_true];rfl
def aoo(N:Nat)(d:9223372036854775808<N){t:aM}{v:aB}(a:dz t=true)(e:dI t v=true):K1 N t v=some (nN t v):=by
 unfold K1 nN;cases f:t.bB==2 with
 |false=>rfl
 |true=>
  have b:t.bB=2:=by simpa using f
  have F:=lS a b;obtain⟨i,g,j⟩:=F5 F.f1 F.f2;have h:(Int64.ofInt ((1:Int)*2^(min (t.ck).toNat (IntKind.bits .i64)))).toInt=ZH t:=g;simp only[Tq];unfold SR;rw[afp N (by omega) a b (l:=[v]) (by intro x c;simp only[Za,Yx,or_false]at c;subst c;exact e),dO F.f1,BQ N d,h];rfl
def ag9(N:Nat)(f:2147483648<N){v:aB}(V:ir v):Em N v=some (Int64.ofInt (v.xN.toInt / v.xD.toInt)):=by
 unfold Em MT;have h:=V.d1;have i:=WI (a:=v.xN.toInt) (b:=v.xD.toInt);have j:=Sa (a:=v.xN.toInt) (show v.xD.toInt≠0 by omega);have k:=V.n1;have l:=V.n2;rw[qn N f,V.ok,Ue.2 (show v.xD.toInt≠0 by omega),ko (by omega) (by omega)];simp only[re,Tq];have c:=aep (n:=v.xN.toInt) (d:=v.xD.toInt) (by omega);have g:(Int64.ofInt (v.xN.toInt.tdiv v.xD.toInt)).toInt=v.xN.toInt.tdiv v.xD.toInt:=ko (by omega) (by omega);cases e:decide (v.xN.toInt.tmod v.xD.toInt<0)with
 |true=>
  rw[e]at c;simp only[Tq]at c ⊢;rw[<-c]
  congr 1
  refine ub ?_;rw[qU]<;>rw[g,show(1:Int64).toInt=1 from rfl]<;>omega
 |false=>
  rw[e]at c;simp only[T6]at c ⊢;rw[<-c]
def am9(N:Nat)(c:2147483648<N){t:aM}{v:aB}(a:dz t=true)(b:t.bB=2)(V:ir v):GD N t v=some (mH t (kh (v.xN.toInt*ZH t) v.xD.toInt t.ct),0):=by
 have F:=lS a b;obtain⟨d,h,i⟩:=F5 F.f1 F.f2;have j:=V.n1;have k:=V.n2;have l:=V.d1;obtain⟨e,f,g⟩:=afq (n:=v.xN) F.f1 F.f2 (by omega) (by omega);unfold GD Q3 IF;rw[aeP N a b,qn N c,V.ok,d,nD,iq,dO F.r1,dO F.r2,dO F.f1,Zx (show ¬t.ck<0 by have:=F.f1;omega),Zx (show ¬t.ck>30 by have:=F.f2;omega)];simp only[re,bne_self_eq_false,T6,Tq,Bool.and_self,W1];rw[SF N _ _ F.r1 F.r2 (by rw[e];omega) (by rw[e];omega),e,WB (show v.xD.toInt≠0 by omega)];simp only[re,T6,bne_self_eq_false];rw[De N F,aeS (by omega),zW (by omega) f g];rfl
def an2(N:Nat)(f:9223372036854775808<N)(t u:aM)(v:aB):OC N t u v=some (Dr t u v):=by
 unfold OC Dr;rw[rf,rf];cases c:dz t with
 |false=>rfl
 |true=>
  cases d:dz u with
  |false=>rfl
  |true=>
   simp only[re,Tq,bne_self_eq_false,T6,W1,Bool.or_self];rw[rE N (by omega) t v c];cases e:dI t v with
   |false=>rfl
   |true=>
    simp only[re,Tq,W1,T6];have a:=ad7 c e;rw[aoo N f c e,re];rcases kinds d with b|b|b
    ·rw[b];rfl
    ·rw[b];show Option.bind (GD N u (nN t v)) _=_;rw[am9 N (by omega) d b a];rfl
    ·rw[b];show Option.bind (Em N (nN t v)) _=_;rw[ag9 N (by omega) a];rfl
def amh{n d:Int}: -(n.natAbs:Int)<=n.tdiv d*d/\n.tdiv d*d<=(n.natAbs:Int):=by
 have h:(n.tdiv d*d).natAbs<=n.natAbs:=by rw[Int.natAbs_mul,Int.natAbs_tdiv];exact Nat.div_mul_le_self _ _
 omega
def P9(N:Nat)(n d:Int64)(f:0<d.toInt)(i: -4611686025000000000<=n.toInt)(j:n.toInt<=4611686025000000000):
 zQ N n d=some (Int64.ofInt (n.toInt / d.toInt)):=by
 have k:=WI (a:=n.toInt) (b:=d.toInt);have l:=amh (n:=n.toInt) (d:=d.toInt);have q1:(Int64.ofInt (n.toInt.tdiv d.toInt)).toInt=n.toInt.tdiv d.toInt:=ko (by omega) (by omega);have g:((Int64.ofInt (n.toInt.tdiv d.toInt))*d).toInt=n.toInt.tdiv d.toInt*d.toInt:=by
  rw[sL]<;>rw[q1]<;>omega
 have h:((Int64.ofInt (n.toInt.tdiv d.toInt))-(1:Int64)).toInt=n.toInt.tdiv d.toInt-1:=by
  rw[qU]<;>rw[q1,show(1:Int64).toInt=1 from rfl]<;>omega
 have c:=aaC (n:=n.toInt) f;unfold zQ;rw[Ue.2 (show d.toInt≠0 by omega),g];simp only[Tq];cases e:decide (n.toInt.tdiv d.toInt*d.toInt>n.toInt)with
 |true=>
  rw[e]at c;simp only[Tq]at c ⊢
  congr 1
  exact ub (h.trans c)
 |false=>
  rw[e]at c;simp only[T6]at c ⊢;rw[<-c]
def TK{n d B:Int}(a:0<d)(b:0<=B)(h1: -B<=n)(c:n<=B): -B<=n / d/\n / d<=B/\n-d<n / d*d/\n / d*d<=n:=by
 have e:=Int.mul_ediv_add_emod n d;have f:=Int.emod_nonneg n (show d≠0 by omega);have g:=Int.emod_lt_of_pos n a;rw[Int.mul_comm]at e;refine⟨?_,?_,by omega,by omega⟩;{refine Int.le_ediv_of_mul_le a ?_;have:B*1<=B*d:=Yy (by omega) b;rw[Int.neg_mul];omega}
 ·by_cases h:0<=n
  ·exact Int.le_trans (Int.ediv_le_self _ h) c
  ·exact Int.le_trans (Int.le_of_lt (Int.ediv_neg_of_neg_of_pos (by omega) a)) b
def Q9(N:Nat)(n d:Int64)(how:Int)(e:0<d.toInt)(l:d.toInt<=4294967296)(g: -4611686018427387904<=n.toInt)(h:n.toInt<=4611686018427387904):
 CI N n d how=some (Int64.ofInt (kh n.toInt d.toInt how)):=by
 obtain⟨o,r,t,u⟩:=TK e (B:=4611686018427387904) (by decide) g h;have c:(Int64.ofInt (n.toInt / d.toInt)).toInt=n.toInt / d.toInt:=ko (by omega) (by omega);have q1:(Int64.ofInt (n.toInt / d.toInt)*d).toInt=n.toInt / d.toInt*d.toInt:=by rw[sL]<;>rw[c]<;>omega
 have f:(n-Int64.ofInt (n.toInt / d.toInt)*d).toInt=n.toInt-n.toInt / d.toInt*d.toInt:=by rw[qU]<;>rw[q1]<;>omega
 have i:(d-(n-Int64.ofInt (n.toInt / d.toInt)*d)).toInt=d.toInt-(n.toInt-n.toInt / d.toInt*d.toInt):=by rw[qU]<;>rw[f]<;>omega
 have j:Int64.ofInt (n.toInt / d.toInt)+(1:Int64)=Int64.ofInt (n.toInt / d.toInt+1):=ub (by rw[xf]<;>rw[c,show(1:Int64).toInt=1 from rfl]<;>omega);have k:(Int64.ofInt ((n.toInt / d.toInt).tmod 2)).toInt=(n.toInt / d.toInt).tmod 2:=by
  have:=Sa (a:=n.toInt / d.toInt) (b:=2) (by decide);exact ko (by omega) (by omega)
 rw[<-aqW how (n:=n.toInt) (d:=d.toInt) (q:=n.toInt / d.toInt) (rest:=n.toInt-n.toInt / d.toInt*d.toInt) rfl rfl];unfold CI;rw[P9 N n d e (by omega) (by omega),re,f,i,c,k,j,kO,re];generalize n.toInt-n.toInt / d.toInt*d.toInt=rest;generalize n.toInt / d.toInt=q;cases (rest==0||how==1)with
 |true=>rfl
 |false=>
  simp only[T6];cases how==2 with
  |true=>rfl
  |false=>
   simp only[T6];cases how==3 with
   |true=>simp only[Tq];cases decide (n.toInt<0)<;>rfl
   |false=>
    simp only[T6];rw[iq,kO,re];cases (decide (rest>d.toInt-rest)||(rest==d.toInt-rest&&q.tmod 2 !=0))<;>rfl
def aij(a b:Int64):(rj a b).toInt=max a.toInt b.toInt:=by unfold rj;split<;>omega
def aoD(a b:Int64):(sC a b).toInt=min a.toInt b.toInt:=by unfold sC;split<;>omega
def B8(N:Nat){t:aM}(F:vl t)(n:Int64)(Q: -4611686018427387905<=n.toInt)(R:n.toInt<=4611686018427387905):uT N t n=some (mH t n.toInt):=by
 obtain⟨o,S,q,f,T,W⟩:=Km F.b1 F.b2;obtain⟨r,h2⟩:=NG F;have u:(-(Int64.ofInt ((1:Int)*2^(min (u64.wrap (aF (t.bW-(1:Int)))).toNat (IntKind.bits .i64)))))=Int64.ofInt (-cO t):=ub q;have k:((Int64.ofInt ((1:Int)*2^(min (u64.wrap (aF (t.bW-(1:Int)))).toNat (IntKind.bits .i64))))-(1:Int64))=Int64.ofInt (cO t-1):=ub f;have g:(Int64.ofInt ((1:Int)*2^(min (u64.wrap (aF (t.bW-(1:Int)))).toNat (IntKind.bits .i64))))=Int64.ofInt (cO t):=by
  have c:=congrArg Int64.toInt k;have i:=f;have e:∀x:Int64,(x-1).toInt=cO t-1->x=Int64.ofInt (cO t):=λx v=>by
   refine ub ?_;rw[adF,show(1:Int64).toInt=1 from rfl,br]at v;have:=lX x;omega
  exact e _ f
 have j:(Int64.ofInt (cO t)).toInt=cO t:=ko (by omega) (by omega);have y:(Int64.ofInt (-cO t)).toInt= -cO t:=ko (by omega) (by omega);have A:(Int64.ofInt (cO t-1)).toInt=cO t-1:=ko (by omega) (by omega);have J:∀z:Int64,z.toInt=n.toInt/\(t.cC==2)=false\/(z.toInt=qA true (cO t) n.toInt/\(t.cC==2)=true)->Gu N t z=some (mH t n.toInt):=λz b=>by
  unfold Gu;rw[u,k];unfold mH
  congr 1
  refine Gc ?_ rfl;show(rj (Int64.ofInt (-cO t)) (sC (Int64.ofInt (cO t-1)) z)).toInt=(Int64.ofInt (qA (t.cC==2) (cO t) n.toInt)).toInt;have C:=aim (w:=t.cC==2) (h:=cO t) (n:=n.toInt) (by omega);rw[aij,aoD,y,A,ko (by omega) (by omega)];rcases b with⟨b,a⟩|⟨b,a⟩
  ·rw[b,a];rfl
  ·rw[a]at C ⊢;rw[b];omega
 unfold uT;rw[o];simp only[Tq];cases a:t.cC==2 with
 |false=>exact J n (.inl ⟨rfl,a⟩)
 |true=>
  simp only[Tq];rw[g];have c:(n+Int64.ofInt (cO t)).toInt=n.toInt+cO t:=by rw[xf]<;>rw[j]<;>omega
  have i:((2:Int64)*Int64.ofInt (cO t)).toInt=2*cO t:=by rw[sL]<;>rw[j,show(2:Int64).toInt=2 from rfl]<;>omega
  rw[P9 N _ _ (by rw[i];omega) (by rw[c];omega) (by rw[c];omega),re,c,i];obtain⟨k1,k2,k3,k4⟩:=TK (n:=n.toInt+cO t) (d:=2*cO t) (B:=4611686025000000000) (by omega) (by decide) (by omega) (by omega);have E:(Int64.ofInt ((n.toInt+cO t)/(2*cO t))).toInt=(n.toInt+cO t)/(2*cO t):=ko (by omega) (by omega);have G:(n.toInt+cO t)/(2*cO t)*(2*cO t)=(n.toInt+cO t)/(2*cO t)*2*cO t:=by rw[an]
  have H:(n.toInt+cO t)%(2*cO t)=n.toInt+cO t-(n.toInt+cO t)/(2*cO t)*(2*cO t):=by
   rw[Int.emod_def,Int.mul_comm]
  have tS:2<=cO t->-4611686025000000000<=(n.toInt+cO t)/(2*cO t)*2/\(n.toInt+cO t)/(2*cO t)*2<=4611686025000000000:=λhh=>by
   have K:(n.toInt+cO t)/(2*cO t)*2<=(n.toInt+cO t).natAbs:=by
    by_cases l:0<=(n.toInt+cO t)/(2*cO t);{have:(n.toInt+cO t)/(2*cO t)*2<=(n.toInt+cO t)/(2*cO t)*(2*cO t):=Yy (by omega) l;omega};{omega}
   have L: -((n.toInt+cO t).natAbs:Int)-4*cO t<=(n.toInt+cO t)/(2*cO t)*2:=by
    by_cases l:0<=(n.toInt+cO t)/(2*cO t);{omega};{have:(n.toInt+cO t)/(2*cO t)*(2*cO t)<=(n.toInt+cO t)/(2*cO t)*2:=Int.mul_le_mul_of_nonpos_left (by omega) (by omega);omega}
   omega
  obtain⟨K,L⟩:=tS r;have M:(Int64.ofInt ((n.toInt+cO t)/(2*cO t))*(2:Int64)).toInt=(n.toInt+cO t)/(2*cO t)*2:=by rw[sL]<;>rw[E,show(2:Int64).toInt=2 from rfl]<;>omega
  have P:(Int64.ofInt ((n.toInt+cO t)/(2*cO t))*(2:Int64)*Int64.ofInt (cO t)).toInt=(n.toInt+cO t)/(2*cO t)*(2*cO t):=by
   rw[sL]<;>rw[M,j,<-G]<;>omega
  refine J _ (.inr ⟨?_,a⟩);rw[qU]<;>rw[P];{unfold qA;simp only[Tq];rw[H];omega};{omega};{omega}
def Nk(N:Nat){t:aM}(F:vl t):vT N t=some (Int64.ofInt (ZH t)):=by
 obtain⟨a,b,d⟩:=F5 F.f1 F.f2;have c:(Int64.ofInt ((1:Int)*2^(min (t.ck).toNat (IntKind.bits .i64))))=Int64.ofInt (ZH t):=ub b;unfold vT;rw[a,dO F.f1,c];rfl
def R7{t:aM}(F:vl t):(Int64.ofInt (ZH t)).toInt=ZH t:=by
 have:=EN F;exact ko (by omega) (by omega)
def ajr(N:Nat){c:Int}{t:aM}{a b:aB}(F:vl t)(A:O0 t a)(B:c≠8->O0 t b):Oe N c t a.xN b.xN=some (Im c t a.xN.toInt b.xN.toInt):=by
 have g:=qP F A;have S:=EN F;have s:=R7 F;unfold Oe Im;by_cases h:c=8;{subst h;have e:(-a.xN).toInt= -a.xN.toInt:=sB (by omega);rw[show((8:Int)==4)=false from rfl,show((8:Int)==5)=false from rfl,show((8:Int)==6)=false from rfl,show((8:Int)==8)=true from rfl];simp only[T6,Tq];rw[B8 N F _ (by rw[e];omega) (by rw[e];omega),e];rfl}
 have k:=qP F (B h);rw[WB h];cases c==4 with
 |true=>
  have e:=xf (a:=a.xN) (b:=b.xN) (by omega) (by omega);simp only[Tq];rw[B8 N F _ (by rw[e];omega) (by rw[e];omega),e];rfl
 |false=>
  simp only[T6];cases c==5 with
  |true=>
   have e:=qU (a:=a.xN) (b:=b.xN) (by omega) (by omega);simp only[Tq];rw[B8 N F _ (by rw[e];omega) (by rw[e];omega),e];rfl
  |false=>
   simp only[T6];cases c==6 with
   |true=>
    have M:=zG g.1 g.2 k.1 k.2;have e:=sL (a:=a.xN) (b:=b.xN) (by omega) (by omega);simp only[Tq];rw[Nk N F,re,Q9 N _ _ _ (by rw[s];omega) (by rw[s];omega) (by rw[e];omega) (by rw[e];omega),re,e,s];have r:=NV (n:=a.xN.toInt*b.xN.toInt) (d:=ZH t) (how:=t.ct) (B:=4611686018427387904) (by omega) (by decide) (by omega) (by omega);have f:=zW (n:=a.xN.toInt*b.xN.toInt) (d:=ZH t) (how:=t.ct) (by omega) (by omega) (by omega);rw[B8 N F _ (by rw[f];omega) (by rw[f];omega),f];rfl
   |false=>
    simp only[T6];by_cases l:b.xN.toInt=0;{rw[l];rfl}
    ·rw[WB l];simp only[T6];have M:=zG g.1 g.2 (show-1073741824<=ZH t by omega) S.2;have J:∀x y:Int64,0<y.toInt->y.toInt<=1073741824->-1073741824<=x.toInt->x.toInt<=1073741824->EJ N t x y=some (mH t (kh (x.toInt*ZH t) y.toInt t.ct),0):=λx y v w q u=>by
       have M:=zG q u (show-1073741824<=ZH t by omega) S.2;have e:(x*Int64.ofInt (ZH t)).toInt=x.toInt*ZH t:=by rw[sL]<;>rw[s]<;>omega
       unfold EJ;rw[Nk N F,re,Q9 N _ _ _ (by omega) (by omega) (by rw[e];omega) (by rw[e];omega),re,e];have r:=NV (n:=x.toInt*ZH t) (d:=y.toInt) (how:=t.ct) (B:=4611686018427387904) (by omega) (by decide) (by omega) (by omega);have f:=zW (n:=x.toInt*ZH t) (d:=y.toInt) (how:=t.ct) (by omega) (by omega) (by omega);rw[B8 N F _ (by rw[f];omega) (by rw[f];omega),f];rfl
     unfold qR;by_cases o:b.xN.toInt<0;{have i:(-a.xN).toInt= -a.xN.toInt:=sB (by omega);have j:(-b.xN).toInt= -b.xN.toInt:=sB (by omega);rw[dO o];simp only[Tq];rw[J _ _ (by rw[j];omega) (by rw[j];omega) (by rw[i];omega) (by rw[i];omega),i,j,Int.neg_mul]};{rw[Zx o];simp only[T6];rw[J _ _ (by omega) (by omega) (by omega) (by omega)]}
def asL(N:Nat){e:Int}{a b:Int64}(h1: -2147483647<=a.toInt)(t:a.toInt<=2147483647)(f:e≠8->-2147483647<=b.toInt/\b.toInt<=2147483647)(A:4<=e/\e<=8):
 Lm N e a b=some (wa e a.toInt b.toInt):=by
 have c:∀(z:Int64)(n:Int),z.toInt=n->((bif (decide (z.toInt>2147483647))then some true else some (decide (z.toInt<(-2147483647:Int)))).bind λv=>bif v then some (cf,(3:Int))else some ((⟨z,1⟩:aB),(0:Int)))=some (bif decide (-2147483647<=n)&&decide (n<=2147483647)then(⟨Int64.ofInt n,1⟩,0)else(cf,3)):=λz n u=>by
  subst u;rw[kO,re,MD];by_cases k:z.toInt>2147483647;{rw[dO k,Zx (show ¬z.toInt<=2147483647 by omega),Bool.and_false];rfl}
  ·rw[Zx k,dO (show z.toInt<=2147483647 by omega),Bool.and_true];by_cases l:z.toInt< -2147483647
   ·rw[dO l,Zx (show ¬-2147483647<=z.toInt by omega)];rfl
   ·rw[Zx l,dO (show-2147483647<=z.toInt by omega)];rfl
 unfold Lm wa;rcases (by omega:e=4\/e=5\/e=6\/e=7\/e=8)with rfl|rfl|rfl|rfl|rfl
 ·obtain⟨g,h⟩:=f (by decide);exact c _ _ (xf (a:=a) (b:=b) (by omega) (by omega))
 ·obtain⟨g,h⟩:=f (by decide);exact c _ _ (qU (a:=a) (b:=b) (by omega) (by omega))
 ·obtain⟨g,h⟩:=f (by decide);exact c _ _ (kr h1 t g h)
 ·obtain⟨g,h⟩:=f (by decide);show(bif b.toInt==0 then some (cf,(4:Int))else _)=some (bif true&&b.toInt==0 then(cf,4)else bif decide (-2147483647<=nK a.toInt b.toInt)&&decide (nK a.toInt b.toInt<=2147483647)then(⟨Int64.ofInt (nK a.toInt b.toInt),1⟩,0)else(cf,3));by_cases o:b.toInt=0
  ·rw[o];rfl
  ·rw[WB o];simp only[T6,Bool.and_false];have J:∀x y:Int64,0<y.toInt->-2147483647<=x.toInt->x.toInt<=2147483647->nK a.toInt b.toInt=x.toInt / y.toInt->FP N x y=some (bif decide (-2147483647<=nK a.toInt b.toInt)&&decide (nK a.toInt b.toInt<=2147483647)then(⟨Int64.ofInt (nK a.toInt b.toInt),1⟩,0)else(cf,3)):=λx y q C E w=>by
     unfold FP;obtain⟨F,G,H,K⟩:=TK (n:=x.toInt) (d:=y.toInt) (B:=2147483647) q (by decide) (by omega) (by omega);rw[P9 N x y q (by omega) (by omega),re,w];exact c _ _ (ko (by omega) (by omega))
   by_cases i:b.toInt<0;{have j:(-a).toInt= -a.toInt:=sB (by omega);have r:(-b).toInt= -b.toInt:=sB (by omega);rw[dO i];exact J _ _ (by rw[r];omega) (by rw[j];omega) (by rw[j];omega) (by unfold nK;rw[dO i,j,r];rfl)};{rw[Zx i];exact J _ _ (by omega) (by omega) (by omega) (by unfold nK;rw[Zx i];rfl)}
 ·exact c _ _ (sB (by omega))
def qZ(N:Nat)(a:2147483648<N)(v:aB):oC N v=some (dI wW v):=by
 unfold oC;have h:=su N a wW v Rw;have b:nH N ⟨1,0,0,0,0⟩ v=some (dI wW v):=h;rw[b];rfl
def agT(N:Nat)(v:Int64):IG N v=some ((v.toInt.natAbs:Nat):Int):=by
 unfold IG;have c:=lX v;by_cases h:v.toInt<0
 ·have a:(v+(1:Int64)).toInt=v.toInt+1:=by rw[xf]<;>rw[show(1:Int64).toInt=1 from rfl]<;>omega
  have b:(-(v+(1:Int64))).toInt= -(v.toInt+1):=by rw[sB]<;>rw[a];omega
  rw[dO h,b];simp only[Tq,mg]
  congr 1
  omega
 ·rw[Zx h];simp only[T6,mg]
  congr 1
  omega
def acJ(N:Nat):∀(k a b:Nat),b<k->Jv N k (a:Int) (b:Int)=some ((Nat.gcd a b:Nat):Int)
 |0,a,b,h=>absurd h (ZG _)
 |k+1,a,b,h=>by
  rw[Jv];by_cases c:b=0;{subst c;simp};{rw[show(((b:Nat):Int) !=0)=true by rw[Ue];omega];simp only[Tq];rw[<-Int.ofNat_tmod,acJ N k b (a%b) (by have:=Nat.mod_lt a (Nat.pos_of_ne_zero c);omega),Nat.gcd_comm a b,Nat.gcd_rec b a,Nat.gcd_comm]}
def Ja(N:Nat)(e:9223372036854775808<N)(n d:Int64):wu N n d=some (kP n.toInt d.toInt):=by
 have h:=BQ N e n d;unfold tN DA at h;rw[Ih,Ih]at h;unfold wu Tc S1;rw[agT,agT];have f:=lX d;by_cases a:d.toInt=0;{rw[a]at h ⊢;exact h}
 ·rw[WB a]at h ⊢;simp only[T6,re]at h ⊢;rw[MQ N N _ _ (by omega)]at h;rw[acJ N N _ _ (by omega)];simp only[re]at h ⊢;have g:0<Nat.gcd n.toInt.natAbs d.toInt.natAbs:=Nat.gcd_pos_of_pos_right _ (by omega);rw[show(((Nat.gcd n.toInt.natAbs d.toInt.natAbs:Nat):Int) !=0)=true by rw[Ue];omega]at h ⊢;simp only[Tq]at h ⊢;rw[kO,re]at h ⊢;cases b:(decide (u64.wrap (((n.toInt.natAbs:Nat):Int).tdiv ((Nat.gcd n.toInt.natAbs d.toInt.natAbs:Nat):Int))>2147483647)||decide (u64.wrap (((d.toInt.natAbs:Nat):Int).tdiv ((Nat.gcd n.toInt.natAbs d.toInt.natAbs:Nat):Int))>2147483647))with
  |true=>rw[b]at h;exact h
  |false=>
   rw[b]at h;simp only[T6]at h ⊢;cases c:(decide (n.toInt<0)==decide (d.toInt<0))with
   |true=>rw[c]at h;exact h
   |false=>rw[c]at h;exact h
def aps{N:Nat}(c:9223372036854775808<N){a b:aB}(A:ir a)(B:ir b):JX N a b=some (kP (a.xN.toInt*b.xD.toInt+b.xN.toInt*a.xD.toInt) (a.xD.toInt*b.xD.toInt)):=by
 unfold JX;rw[qZ N (by omega),qZ N (by omega),A.ok,B.ok,Ja N c,aaT A B,kr A.d0 A.d2 B.d0 B.d2];rfl
def ang{N:Nat}(c:9223372036854775808<N){a b:aB}(A:ir a)(B:ir b):LL N a b=some (kP (a.xN.toInt*b.xD.toInt-b.xN.toInt*a.xD.toInt) (a.xD.toInt*b.xD.toInt)):=by
 unfold LL;rw[qZ N (by omega),qZ N (by omega),A.ok,B.ok,Ja N c,afy A B,kr A.d0 A.d2 B.d0 B.d2];rfl
def aq9{N:Nat}(c:9223372036854775808<N){a b:aB}(A:ir a)(B:ir b):J3 N a b=some (kP (a.xN.toInt*b.xN.toInt) (a.xD.toInt*b.xD.toInt)):=by
 unfold J3;rw[qZ N (by omega),qZ N (by omega),A.ok,B.ok,Ja N c,kr A.n1 A.n2 B.n1 B.n2,kr A.d0 A.d2 B.d0 B.d2];rfl
def amg{N:Nat}(c:9223372036854775808<N){a b:aB}(A:ir a)(B:ir b):OH N a b=some (kP (a.xN.toInt*b.xD.toInt) (a.xD.toInt*b.xN.toInt)):=by
 unfold OH;rw[qZ N (by omega),qZ N (by omega),A.ok,B.ok,Ja N c,kr A.n1 A.n2 B.d0 B.d2,kr A.d0 A.d2 B.n1 B.n2];rfl
def aj6{N:Nat}(b:2147483648<N){a:aB}(A:ir a):PS N a=some ⟨-a.xN,a.xD⟩:=by
 unfold PS;rw[qZ N b,A.ok];rfl
def ai7(N:Nat)(a b:Int64):Dw N a b=some (vv a.toInt b.toInt):=by
 unfold Dw vv;cases decide (a.toInt<b.toInt);{cases decide (a.toInt>b.toInt)<;>rfl};{rfl}
def vG{t:aM}{v:aB}(c:dz t=true)(b:dI t v=true):ir v:=by
 by_cases a:t.bB=2;{have F:=lS c a;have A:=mR b a;have B:=qP F A;have d:=A.d;exact⟨by omega,by omega,by omega,by omega,by rw[d];exact Nat.gcd_one_right _⟩};{exact qo b a}
def Sr(N:Nat)(e:2147483648<N)(t:aM)(a b:aB):Ij N t a b=some (lr t a b):=by
 unfold Ij JP lr;rw[sV];cases c:dz t with
 |false=>rfl
 |true=>
  simp only[re,Tq];rw[su N e t a c,su N e t b c];cases g:dI t a with
  |false=>rfl
  |true=>
   cases i:dI t b with
   |false=>rfl
   |true=>
    have A:=vG c g;have B:=vG c i;simp only[re,Tq,W1,T6,Bool.and_self];unfold Sw;rw[qZ N e,qZ N e,A.ok,B.ok];simp only[re,Tq];rw[ai7,kr A.n1 A.n2 B.d0 B.d2,kr B.n1 B.n2 A.d0 A.d2];cases f:t.bB==1 with
    |true=>rfl
    |false=>
     have j:a.xD.toInt=1:=by
      rcases kinds c with h|h|h
      ·rw[h]at f;cases f
      ·exact(mR g h).d
      ·exact E2 g h
     have k:b.xD.toInt=1:=by
      rcases kinds c with h|h|h
      ·rw[h]at f;cases f
      ·exact(mR i h).d
      ·exact E2 i h
     rw[j,k,Int.mul_one,Int.mul_one];rfl
def TG(N:Nat)(i:9223372036854775808<N)(c:Int)(t:aM)(a b:aB):Dz N c t a b=some (ml c t a b):=by
 have j:2147483648<N:=Nat.lt_trans (by decide) i;unfold Dz ml;rw[kO,re,sV,re];by_cases o:c<4;{rw[dO o];rfl}
 by_cases x:c<=10
 ·rw[Zx o,Zx (show ¬c>10 by omega)];simp only[Bool.or_self,T6];cases d:dz t with
  |false=>rfl
  |true=>
   simp only[Tq,W1,T6];rw[su N j t a d,su N j t b d];cases l:dI t a with
   |false=>rfl
   |true=>
    have A:=vG d l;simp only[re,Tq,W1,b7];rw[Ai,iq,re];have v:(!(c==8)&& !dI t b)=false->c≠8->dI t b=true:=λh k=>by
     rw[WB k]at h
     simpa using h
    cases w:(!(c==8)&& !dI t b)with
    |true=>rfl
    |false=>
     have f:=v w;simp only[T6];rw[kO,re];by_cases q:c=9;{subst q;rw[Sr N j t a b];simp only[Z7,Bool.true_or,Tq,re];cases decide (lr t a b>0)<;>rfl}
     ·by_cases r:c=10
      ·subst r;have f:=f (by decide);rw[Sr N j t a b,show((10:Int)==9)=false from rfl,show((10:Int)==10)=true from rfl];simp only[Bool.or_true,Tq,re,T6];by_cases n:lr t a b>0
       ·rw[dO n,Zx (show ¬lr t a b<0 by omega)];rfl
       ·by_cases u:lr t a b<0
        ·rw[Zx n,dO u];rfl
        ·have e:=alv d l f (by omega);subst e;rw[Zx n,Zx u];rfl
      ·rw[WB q,WB r];simp only[Bool.or_self,T6];rcases kinds d with g|g|g
       ·rw[g,show((1:Int)==2)=false from rfl,show((1:Int)==3)=false from rfl];simp only[T6];unfold zL;rcases (by omega:c=4\/c=5\/c=6\/c=7\/c=8)with rfl|rfl|rfl|rfl|rfl
        ·have B:=vG d (f (by decide));rw[aps i A B];rfl
        ·have B:=vG d (f (by decide));rw[ang i A B];rfl
        ·have B:=vG d (f (by decide));rw[aq9 i A B];rfl
        ·have B:=vG d (f (by decide));rw[amg i A B];rfl
        ·rw[aj6 j A];rfl
       ·rw[g,show((2:Int)==2)=true from rfl];simp only[Tq];rw[ajr N (lS d g) (mR l g) λk=>mR (f k) g];rfl
       ·rw[g,show((3:Int)==2)=false from rfl,show((3:Int)==3)=true from rfl];simp only[Tq,T6];rw[asL N A.n1 A.n2 (λk=>by have B:=vG d (f k);exact⟨B.n1,B.n2⟩) (by omega)];rfl
 ·rw[dO (show c>10 by omega),Bool.or_true];rfl
def aqE(N:Nat)(a:9223372036854775808<N){t:aM}{v:aB}(b:dz t=true):P5 N t v=some (nN t v):=by
 unfold P5 KQ nN;cases c:t.bB==2 with
 |false=>rfl
 |true=>
  have F:=lS b (by simpa using c);simp only[Tq];rw[Nk N F,re,Ja N a,R7 F];rfl
def amk(N:Nat)(f:9223372036854775808<N)(t u:aM)(v:aB):Ld N t u v=some (Dr t u v):=by
 have h:2147483648<N:=Nat.lt_trans (by decide) f;unfold Ld Dr;rw[sV,sV];cases b:dz t with
 |false=>rfl
 |true=>
  cases g:dz u with
  |false=>rfl
  |true=>
   simp only[re,Tq,T6,W1,Bool.or_self];rw[su N h t v b];cases i:dI t v with
   |false=>rfl
   |true=>
    simp only[re,Tq,W1,T6];have V:=ad7 b i;have j:=V.n1;have k:=V.n2;have l:=V.d1;have o:=V.d2;rw[aqE N f b,re];rcases kinds g with a|a|a
    ·rw[a];rfl
    ·have F:=lS g a;have S:=EN F;have s:=R7 F;have M:=zG j k (show-1073741824<=ZH u by omega) S.2;have e:((nN t v).xN*Int64.ofInt (ZH u)).toInt=(nN t v).xN.toInt*ZH u:=by rw[sL]<;>rw[s]<;>omega
     rw[a,show((2:Int)==3)=false from rfl,show((2:Int)==2)=true from rfl];simp only[Tq,T6];rw[Nk N F,re,Q9 N _ _ _ (by omega) (by omega) (by rw[e];omega) (by rw[e];omega),re,e];have r:=NV (n:=(nN t v).xN.toInt*ZH u) (d:=(nN t v).xD.toInt) (how:=u.ct) (B:=4611686018427387904) (by omega) (by decide) (by omega) (by omega);have c:=zW (n:=(nN t v).xN.toInt*ZH u) (d:=(nN t v).xD.toInt) (how:=u.ct) (by omega) (by omega) (by omega);rw[B8 N F _ (by rw[c];omega) (by rw[c];omega),c];rfl
    ·rw[a,show((3:Int)==3)=true from rfl];simp only[Tq];rw[P9 N _ _ (by omega) (by omega) (by omega)];rfl
def tY(d:I Int):Bool:=decide (d.length<=6)&&(d.all (λn=>decide (1<=n))&&decide (d.foldl (·*·) 1<=4096))
def afW{d:I Int}:d.all (λn=>decide (1<=n))=true↔∀n∈d,1<=n:=by rw[Zd];simp
def Ns(d:I Int)(a:Int):d.foldl (·*·) a=a*d.foldl (·*·) 1:=by
 induction d generalizing a with
 |nil=>simp
 |cons x d b=>rw[List.foldl_cons,List.foldl_cons,b (a*x),b (1*x),bf,an]
def xh{d:I Int}(h:∀n∈d,1<=n):1<=d.foldl (·*·) 1:=by
 induction d with
 |nil=>simp
 |cons x d a=>
  rw[List.foldl_cons,bf,Ns];have b:=h x Zq;have c:=a λn e=>h n (Zg _ e);have:=b6 b c (by decide) (by omega);omega
def wC{n:Int}(h1: -9223372036854775808<=n)(a:n<=9223372036854775807):aF n=n:=by unfold aF;rw[br];omega
def al3{s n:Int}(a:1<=s)(b:s<=4096):decide (n>i64.wrap ((4096:Int).tdiv s))=decide (4096<s*n):=by
 have e:(4096:Int).tdiv s=4096 / s:=ai (by decide);have c:0<=4096/ s:=Int.ediv_nonneg (by decide) (by omega);have d:(4096:Int)/ s<=4096:=Int.ediv_le_self s (by decide);rw[e,show i64.wrap ((4096:Int)/ s)=4096 / s from wC (by omega) (by omega)];refine decide_eq_decide.2 ?_;rw[gt_iff_lt,Int.ediv_lt_iff_lt_mul (by omega),Int.mul_comm]
def ags(N:Nat):∀(d:I Int)(k:Nat)(s:Int),1<=s->s<=4096->(∀n∈d,1<=n)->wF N d k s=some (bif decide (d.foldl (·*·) s<=4096)then 0 else 2)
 |[],k,s,a,b,h=>by unfold wF;rw[List.foldl_nil,dO b];rfl
 |n::d,k,s,a,b,h=>by
  unfold wF;rw[show(s !=0)=true by rw[Ue];omega,Tq,al3 a b,List.foldl_cons];have f:=h n Zq;have c:∀m∈d,1<=m:=λm g=>h m (Zg _ g);have i:1<=s*n:=by have:=b6 a f (by decide) (by omega);omega
  by_cases e:4096<s*n
  ·rw[dO e,Tq,Zx]
   ·rfl
   ·rw[Ns];have:=b6 (Int.le_refl (s*n)) (xh c) (by decide) (by omega);omega
  ·rw[Zx e,T6,wC (by omega) (by omega)];exact ags N d (k+1) (s*n) i (by omega) c
def afS(N:Nat)(v:I Int):∀(d:I Int)(k:Nat),(v=d\/True)->yg N v d k=bif d.all (λn=>decide (1<=n))then wF N v 0 1 else some 1
 |[],k,_=>rfl
 |n::d,k,_=>by
  unfold yg;rw[ZE,afS N v d (k+1) (.inr trivial)];by_cases h:n<1;{rw[dO h,Zx (show ¬1<=n by omega)];rfl};{rw[Zx h,dO (show 1<=n by omega)];rfl}
def QX(N:Nat)(d:I Int):∃e,zZ N d=some e/\(e !=0)= !tY d:=by
 unfold zZ tY;by_cases h:d.length<=6
 ·rw[Zx (show ¬(d.length:Int)>6 by omega),T6,dO h,Zt,afS N d d 0 (.inr trivial)];cases a:d.all (λn=>decide (1<=n))with
  |false=>exact⟨1,rfl,rfl⟩
  |true=>
   rw[Tq,ags N d 0 1 (by decide) (by decide) (afW.1 a),Zt];refine⟨_,rfl,?_⟩;cases decide (d.foldl (·*·) 1<=4096)<;>rfl
 ·rw[dO (show(d.length:Int)>6 by omega),Zx h];exact⟨2,rfl,rfl⟩
def adl(N:Nat):∀(d:I Int)(k:Nat)(s:Int),M0 N d k s=wF N d k s
 |[],k,s=>rfl
 |n::d,k,s=>by unfold M0 wF;simp only[adl N d (k+1)]
def afR(N:Nat)(v:I Int):∀(d:I Int)(k:Nat),Gm N v d k=yg N v d k
 |[],k=>by unfold Gm yg;exact adl N v 0 1
 |n::d,k=>by unfold Gm yg;rw[afR N v d (k+1)]
def aoV(N:Nat)(d:I Int):Ou N d=zZ N d:=by
 unfold Ou zZ;rw[afR]
def VG(N:Nat):∀(d:I Int)(k:Nat)(s:Int),1<=s->(∀n∈d,1<=n)->d.foldl (·*·) s<=4096->BU N d k s=some (d.foldl (·*·) s)
 |[],k,s,_,_,_=>rfl
 |n::d,k,s,c,h,a=>by
  unfold BU;rw[List.foldl_cons]at a ⊢;have e:=h n Zq;have b:∀m∈d,1<=m:=λm f=>h m (Zg _ f);have g:1<=s*n:=by have:=b6 c e (by decide) (by omega);omega
  have i:s*n<=4096:=by
   rw[Ns]at a;have:=b6 (Int.le_refl (s*n)) (xh b) (by decide) (by omega);omega
  simp only;rw[wC (by omega) (by omega)];exact VG N d (k+1) (s*n) g b a
def abQ(N:Nat):∀(d:I Int)(k:Nat)(s:Int),M8 N d k s=BU N d k s
 |[],k,s=>rfl
 |n::d,k,s=>by unfold M8 BU;exact abQ N d (k+1) _
structure afN(d:List Int):Prop where
 len:d.length<=6
 pos:∀n∈d,1<=n
 le:d.foldl (·*·) 1<=4096
def EL{d:I Int}(h:tY d=true):afN d:=by
 unfold tY at h;simp only[Zr,UR]at h;exact⟨h.1,afW.1 h.2.1,h.2.2⟩
def amK(N:Nat){d:I Int}(h:tY d=true):NU N d=some (d.foldl (·*·) 1):=by
 obtain⟨e,a,b⟩:=QX N d;unfold NU;rw[a,re,b,h];exact VG N d 0 1 (by decide) (EL h).pos (EL h).le
def aiT(N:Nat){d:I Int}(h:tY d=true):OS N d=some (d.foldl (·*·) 1):=by
 unfold OS;rw[abQ];exact VG N d 0 1 (by decide) (EL h).pos (EL h).le
def mo(t:bk):Bool:=dz t.aH&&(tY t.aR&&(((t.eD.length:Int)==t.aR.foldl (·*·) 1)&&t.eD.all (dI t.aH)))
def ad5(N:Nat)(a:2147483648<N)(t:bk)(b:dz t.aH=true):∀(l:I aB)(k:Nat),JN N t l k=some (bif l.all (dI t.aH)then 0 else 1)
 |[],k=>rfl
 |v::l,k=>by
  unfold JN;rw[rE N a _ _ b,re,ZE];cases dI t.aH v with
  |true=>rw[Tq,ad5 N a t b l (k+1),Zt]
  |false=>rfl
def agc(N:Nat)(a:2147483648<N)(t:bk)(b:dz t.aH=true):∀(l:I aB)(k:Nat),K6 N t l k=some (bif l.all (dI t.aH)then 0 else 1)
 |[],k=>rfl
 |v::l,k=>by
  unfold K6;rw[su N a _ _ b,re,ZE];cases dI t.aH v with
  |true=>rw[Tq,agc N a t b l (k+1),Zt]
  |false=>rfl
def afH(N:Nat)(d:2147483648<N)(t:bk):∃e,Ia N t=some e/\(e !=0)= !mo t:=by
 unfold Ia mo;rw[rf,re];cases f:dz t.aH with
 |false=>exact⟨10,rfl,rfl⟩
 |true=>
  rw[Tq,show((0:Int) !=0)=false from rfl,T6,Zt];obtain⟨e,g,a⟩:=QX N t.aR;rw[g,re,a];cases b:tY t.aR with
  |false=>
   refine⟨e,rfl,?_⟩;rw[a,b];rfl
  |true=>
   rw[W1,T6,amK N b,re,Zt];cases c:((t.eD.length:Int)==t.aR.foldl (·*·) 1)with
   |false=>
    refine⟨1,?_,rfl⟩;rw[show((t.eD.length:Int) !=t.aR.foldl (·*·) 1)=true by unfold bne;rw[c];rfl];rfl
   |true=>
    rw[show((t.eD.length:Int) !=t.aR.foldl (·*·) 1)=false by unfold bne;rw[c];rfl,T6,ad5 N d t f];refine⟨_,rfl,?_⟩;rw[Zt];cases t.eD.all (dI t.aH)<;>rfl
def aa5(N:Nat)(d:2147483648<N)(t:bk):∃e,Gj N t=some e/\(e !=0)= !mo t:=by
 unfold Gj mo;rw[sV,re];cases f:dz t.aH with
 |false=>exact⟨10,rfl,rfl⟩
 |true=>
  rw[Tq,Zt];obtain⟨e,g,a⟩:=QX N t.aR;rw[aoV,g,re,a];cases b:tY t.aR with
  |false=>
   refine⟨e,rfl,?_⟩;rw[a,b];rfl
  |true=>
   rw[W1,T6,aiT N b,re,Zt];cases c:((t.eD.length:Int)==t.aR.foldl (·*·) 1)with
   |false=>
    refine⟨1,?_,rfl⟩;rw[show((t.eD.length:Int) !=t.aR.foldl (·*·) 1)=true by unfold bne;rw[c];rfl];rfl
   |true=>
    rw[show((t.eD.length:Int) !=t.aR.foldl (·*·) 1)=false by unfold bne;rw[c];rfl,T6,agc N d t f];refine⟨_,rfl,?_⟩;rw[Zt];cases t.eD.all (dI t.aH)<;>rfl
def iS:I aL->so->U bk
 |[],_=>none
 |x::r,s=>bif bL x.ay==bL s then some x.xTensor else iS r s
def Qu:∀{l:I aL}{s:so}{t:bk},iS l s=some t->∃x∈l,x.xTensor=t/\bL x.ay=bL s
 |[],s,t,h=>by cases h
 |x::r,s,t,h=>by
  unfold iS at h;cases a:(bL x.ay==bL s)with
  |true=>rw[a]at h;cases h;exact⟨x,Zq,rfl,by simpa using a⟩
  |false=>
   rw[a]at h;obtain⟨y,b,c⟩:=Qu (l:=r) h;exact⟨y,Zg _ b,c⟩
def ae6(N:Nat)(s:so):∀(l:I aL)(k:Nat),(iS l s=none->Cg N s l k=some (-1))/\(∀t,iS l s=some t->∃i x,Cg N s l k=some ((k+i:Nat):Int)/\l[i]?=some x/\x.xTensor=t)
 |[],k=>⟨λ_=>rfl,λv h=>by cases h⟩
 |b::r,k=>by
  obtain⟨a,d⟩:=ae6 N s r (k+1);unfold iS Cg S8;simp only[re];cases g:(bL b.ay==bL s)with
  |true=>exact⟨λh=>(by cases h),λv h=>by cases h;exact⟨0,b,rfl,rfl,rfl⟩⟩
  |false=>
   simp only[T6];refine⟨a,λv h=> ?_⟩;obtain⟨i,c,q1,e,f⟩:=d v h;exact⟨i+1,c,by rw[q1];congr 2;omega,e,f⟩
def U8(N:Nat)(l:I aL)(s:so):wI N l s=some (match iS l s with|none=>(jd,false)|some t=>(t,true)):=by
 obtain⟨b,c⟩:=ae6 N s l 0;unfold wI;rw[show We N l s=Cg N s l 0 from rfl];cases a:iS l s with
 |none=>rw[b a];rfl
 |some t=>
  obtain⟨i,x,q1,d,e⟩:=c t a;rw[q1,re,ZQ,Zx (by omega),T6,dO (by omega),Tq,ZK,d,re,e]
def afD(N:Nat)(s:so):∀(l:I aL)(k:Nat),NL N s l k=some (match iS l s with|none=>(jd,false)|some t=>(t,true))
 |[],k=>rfl
 |x::r,k=>by
  unfold NL iS;cases a:(bL x.ay==bL s)with
  |true=>rfl
  |false=>exact afD N s r (k+1)
def Sk(N:Nat)(l:I aL)(s:so):Ag N l s=some (match iS l s with|none=>(jd,false)|some t=>(t,true)):=afD N s l 0
def mL(mem:I aL)(s:so):Except Int bk:=match iS mem s with
 |none=>.error 9
 |some t=>bif mo t then .ok t else .error 1
def afA(N:Nat)(a:2147483648<N)(mem:I aL)(s:so):HB N mem s=some (match mL mem s with| .ok t=>(t,0)| .error e=>(jd,e)):=by
 unfold HB mL;rw[Sk,re];cases iS mem s with
 |none=>rfl
 |some t=>
  simp only[Tq];obtain⟨e,b,c⟩:=aa5 N a t;rw[b,re,c];cases mo t<;>rfl
def uR(e:az):Prop:=∀x∈dQ e,qI x=true/\qE x=true
def uR.arg{e x:az}(h:uR e)(a:x∈e.bS):uR x:=λy b=>h y (I5 a b)
def uR.len{e:az}(h:uR e):(e.bS.length:Int)=py e.aD:=by
 have:=(h e Zq).1;unfold qI at this;rw[Zr,Ua]at this;exact this.1
def uR.op{e:az}(h:uR e):1<=e.aD/\e.aD<=18:=by
 have:=(h e Zq).2;unfold qE at this;simp only[Zr,UR]at this;exact⟨this.1,this.2.1⟩
def acj:∀l:I az,mw l=0->∀x∈l,oI x=0
 |[],_,x,a=>by cases a
 |y::l,h,x,a=>by
  rw[mw]at h;cases e:oI y !=0 with
  |true=>rw[e,Tq]at h;rw[h]at e;cases e
  |false=>
   rw[e,T6]at h;rcases Za.1 a with rfl|a
   ·exact jQ e
   ·exact acj l h x a
def Vw{e:az}(h:nV e=0):∀x∈dQ e,oI x=0:=λx c=>by
 unfold nV at h;cases a:decide (40<j5 40 e)with
 |true=>rw[a]at h;cases h
 |false=>
  cases b:decide (2000<(dQ e).length)with
  |true=>rw[a,b]at h;cases h
  |false=>rw[a,b]at h;exact acj (dQ e) h x c
def Uj{x:az}(h:oI x=0):qE x=true/\tK x=true/\qI x=true/\pg x=true/\wL x=true:=by
 unfold oI at h;cases p:qE x<;>cases q:tK x<;>cases r:qI x<;>cases s:pg x<;>cases t:wL x<;>rw[p,q,r,s,t]at h<;>first|exact⟨rfl,rfl,rfl,rfl,rfl⟩|(exact absurd h (by decide))
def ap7{e:az}(h:nV e=0):uR e:=λx a=>⟨(Uj (Vw h x a)).2.2.1,(Uj (Vw h x a)).1⟩
section
variable {α:Type}
def apB{l:I α}(h:(l.length:Int)=1):∃a,l=[a]:=by
 match l,h with
 |[a],_=>exact⟨a,rfl⟩
 |[],h=>simp at h
 |a::b::l,h=>simp at h;omega
def aql{l:I α}(h:(l.length:Int)=2):∃a b,l=[a,b]:=by
 match l,h with
 |[a,b],_=>exact⟨a,b,rfl⟩
 |[],h=>simp at h
 |[a],h=>simp at h
 |a::b::c::l,h=>simp at h;omega
def arZ{l:I α}(h:(l.length:Int)=3):∃a b c,l=[a,b,c]:=by
 match l,h with
 |[a,b,c],_=>exact⟨a,b,c,rfl⟩
 |[],h=>simp at h
 |[a],h=>simp at h
 |[a,b],h=>simp at h
 |a::b::c::d::l,h=>simp at h;omega
end
def Al(a b:U (aM×Int)):Prop:=∃t c x,a=some (t,x)/\b=some (c,x)/\(x=0->t=c)
def agD{α:Type}(f:α->Int)(x:α):gM f [x]=f x:=by
 rw[gM,gM];cases e:f x !=0 with
 |true=>rfl
 |false=>exact(jQ e).symm
def ajP{a:Int}(h1:1<=a)(b:a<=18):(a=1\/a=2\/a=3\/a=8\/a=11\/a=12)\/(a=4\/a=5\/a=6\/a=7\/a=9\/a=10)\/(a=13\/a=14\/a=15)\/(a=16\/a=17\/a=18):=by omega
section
variable {N:Nat} {m:I (so×Int)} {vars:I so} {p p':bo}
def aoA(g:VN m (vars++p'.bJ))(l:p.bn=p'.bn)(i:p.aP=p'.aP)(n:mn p.bn)(j:hX p.aP)(e:az)(h1:1<=e.aD)(o:e.aD<=18)(d:I aM)(f:(d.length:Int)=py e.aD)
 (q:az->bo->I (so×Int)->U (aM×Int)) (r:bo->I so->az->U (aM×Int)) (k:Nat):
 Al (zw N e p m q [] k d) (qK N e p' vars r [] k d):=by
 rw[zw,qK];unfold Pu Fe Ee Fw;rcases ajP h1 o with(h|h|h|h|h|h)|(h|h|h|h|h|h)|(h|h|h)|(h|h|h)
 ·rw[h];exact⟨_,_,_,rfl,rfl,λ_=>rfl⟩
 ·rw[h,Wr N g,SH,agD];exact⟨_,_,_,rfl,rfl,λ_=>rfl⟩
 ·rw[h,atk N g p n j,aga N vars p' (i▸j),l,i];exact⟨_,_,_,rfl,rfl,λ_=>rfl⟩
 ·rw[h]at f;obtain⟨a,rfl⟩:=apB f;rw[h];exact⟨_,_,_,rfl,rfl,λ_=>rfl⟩
 ·rw[h]at f;obtain⟨a,b,c,rfl⟩:=arZ f;rw[h];show Al (Option.bind (bif _ then _ else _) _) (bif _ then _ else _);cases ((b.bB==c.bB)&&((b.bW==c.bW)&&((b.ck==c.ck)&&((b.ct==c.ct)&&((b.cC==c.cC)&&true)))))with
  |true=>exact⟨_,_,_,rfl,rfl,λ_=>rfl⟩
  |false=>exact⟨_,_,_,rfl,rfl,λh=>by cases h⟩
 ·rw[h];exact⟨_,_,_,rfl,rfl,λ_=>rfl⟩
 all_goals first
  |(rw[h];exact⟨_,_,_,rfl,rfl,λ_=>rfl⟩)
  |(rw[h]at f
    obtain⟨a,b,rfl⟩:=aql f;rw[h];show Al (Option.bind (bif _ then _ else _) _) (bif _ then _ else _);cases ((a.bB==b.bB)&&((a.bW==b.bW)&&((a.ck==b.ck)&&((a.ct==b.ct)&&((a.cC==b.cC)&&true)))))with
    |true=>exact⟨_,_,_,rfl,rfl,λ_=>rfl⟩
    |false=>exact⟨_,_,_,rfl,rfl,λh=>by cases h⟩)
def afa(e:az)(c:az->bo->I (so×Int)->U (aM×Int))(d:bo->I so->az->U (aM×Int)):
 ∀(l:I az)(k:Nat)(a:I aM),a.length+l.length<=1000000000->(∀x∈l,Al (c x p m) (d p' vars x))->
  (∀(b:I aM)(f:Nat),b.length=a.length+l.length->Al (zw N e p m c [] f b) (qK N e p' vars d [] f b))->
  Al (zw N e p m c l k a) (qK N e p' vars d l k a)
 |[],k,a,_,_,g=>g a k rfl
 |x::l,k,a,i,h,g=>by
  rw[zw,qK];obtain⟨t,u,z,j,n,o⟩:=h x Zq;rw[j,n,re,re];dsimp only;cases q:z !=0 with
  |true=>exact⟨_,_,_,rfl,rfl,λ_=>rfl⟩
  |false=>
   obtain rfl:=o (jQ q);simp only[Zl]at i;rw[e9 (by omega)];exact afa e c d l (k+1) (a++[t]) (by simp only[Zk,Zl,Zf];omega) (λy r=>h y (Zg _ r)) λb f v=>g b f (by simp only[Zk,Zl,Zf]at*;omega)
def ae2(c:VN m (vars++p'.bJ))(f:p.bn=p'.bn)(g:p.aP=p'.aP)(i:mn p.bn)(j:hX p.aP):
 ∀(d:Nat)(e:az),SizeOf.sizeOf e<d->uR e->Al (Ao N d e p m) (tT N d p' vars e)
 |0,_,h,_=>absurd h (ZG _)
 |d+1,e,h,b=>by
  rw[Ao,tT];have a:=b.len;have q:(e.bS.length:Int)<=3:=by
    rw[a];unfold py;cases (e.aD==1||(e.aD==2||e.aD==3))<;>cases (e.aD==8||(e.aD==12||e.aD==18))<;>cases e.aD==11<;>decide
  refine afa e _ _ e.bS 0 [] (by simp only[Zf];omega) (λx k=>ae2 c f g i j d x (by have:=vq k;omega) (b.arg k)) λl n o=> ?_;exact aoA c f g i j e b.op.1 b.op.2 l (by rw[o,<-a];simp only[Zf,ZQ]) _ _ n
end
def ajW{m:I (so×Int)}{V W:I so}(h:VN m V)(e:∀s,dw W s=dw V s)(a:V.length<=W.length):VN m W:=⟨λs=>by rw[h.val,e],Zc h.len a⟩
def aem(N:Nat)(e:az)(p:bo):∀(l:I so)(k:Nat)(m:I (so×Int))(V:I so),VN m V->V.length+l.length<1000000000->∃a b,VN a (V++l)/\yB N e p l k m=yB N e p [] b a
 |[],k,m,V,h,_=>⟨m,k,by rw[ZV];exact h,rfl⟩
 |s::l,k,m,V,h,d=>by
  simp only[Zl]at d;rw[yB,show Nat.blt m.length 9223372036854775807=true from WX (by have:=h.len;omega),Tq];obtain⟨a,b,c,f⟩:=aem N e p l (k+1) _ _ (h.add s 3 rfl) (by simp only[Zk,Zl,Zf];omega);exact⟨a,b,by rw[ZR]at c;exact c,f⟩
def acV(N:Nat)(e:az)(p:bo)(vars:I so):∀(l:I so)(k:Nat)(m:I (so×Int))(V:I so),VN m V->V.length+l.length<1000000000->∃a,VN a (V++l)/\MB N e p vars l k m=yB N e p vars 0 a
 |[],k,m,V,h,_=>⟨m,by rw[ZV];exact h,rfl⟩
 |s::l,k,m,V,h,c=>by
  simp only[Zl]at c;rw[MB,show Nat.blt m.length 9223372036854775807=true from WX (by have:=h.len;omega),Tq];obtain⟨a,b,d⟩:=acV N e p vars l (k+1) _ _ (h.add s 1 rfl) (by simp only[Zk,Zl,Zf];omega);exact⟨a,by rw[ZR]at b;exact b,d⟩
def an3(N:Nat)(c:2147483648<N)(p p':bo)(vars:I so)(e:az)(d:SizeOf.sizeOf e<N)(h:oz e)(f:p.bJ=p'.bJ)(g:p.bn=p'.bn)(i:p.aP=p'.aP)(j:mn p.bn)(k:hX p.aP)
 (B:p.bJ.length+vars.length<1000000000):∃t x,N1 N p vars e=some (t,x)/\vR N p' vars e=some (t,x)/\(x=0->nV e=0):=by
 unfold N1 vR;rw[anT N c e h,ac7 N c e d h,re,re];cases a:nV e !=0 with
 |true=>exact⟨_,_,rfl,rfl,λb=>b⟩
 |false=>
  have a:=jQ a;simp only[T6];rw[ab0,M1,re,re];cases fq e with
  |true=>exact⟨_,_,rfl,rfl,λb=>by cases b⟩
  |false=>
   simp only[T6];obtain⟨l,n,o⟩:=acV N e p vars p.bJ 0 [] [] ⟨λ_=>rfl,Zv _⟩ (by simp only[Zf];omega);obtain⟨q,C,r,u⟩:=aem N e p vars 0 l _ n (by simp only[Zf,W2];omega);rw[o,u,yB];have v:VN q (vars++p'.bJ):=ajW r (λs=>by rw[W2,nm,nm,f,Bool.or_comm]) (by rw[f];simp only[Zk,W2];omega);unfold Re IU;obtain⟨t,E,x,w,y,z⟩:=ae2 (N:=N) v g i j k N e d (ap7 a);rw[w,y,re,re];dsimp only;cases A:x !=0 with
   |true=>exact⟨_,_,rfl,rfl,λ_=>a⟩
   |false=>obtain rfl:=z (jQ A);exact⟨_,_,rfl,rfl,λ_=>a⟩
def LU{y:az}:∀{l:I az},y∈lk l->∃x∈l,y∈dQ x
 |[],h=>by rw[lk]at h;cases h
 |x::l,h=>by
  rw[wT]at h;rcases ZN.1 h with h|h
  ·exact⟨x,Zq,h⟩
  ·obtain⟨z,a,b⟩:=LU h;exact⟨z,Zg _ a,b⟩
def apo{t a:aM}{x:Int}(h:yP t x=(a,0)):x=0:=congrArg Prod.snd h
def abC(N:Nat)(e:az)(p:bo)(vars:I so)(rec:bo->I so->az->U (aM×Int)):
 ∀(l:I az)(k:Nat)(a:I aM)(t:aM),qK N e p vars rec l k a=some (t,0)->
  (∀x∈l,∃g,rec p vars x=some (g,0))/\∃i j,qK N e p vars rec [] i j=some (t,0)
 |[],k,a,t,h=>⟨λ_ n=>(by cases n),k,a,h⟩
 |x::l,k,a,t,h=>by
  rw[qK]at h;cases c:rec p vars x with
  |none=>rw[c]at h;cases h
  |some q=>
   rw[c,re]at h;cases b:q.2 !=0 with
   |true=>rw[b,Tq]at h;rw[(Prod.mk.inj (Zw h)).2]at b;cases b
   |false=>
    rw[b,T6]at h;cases f:Nat.ble ((a.length+1)*40) 140737488355328 with
    |false=>rw[f]at h;cases h
    |true=>
     rw[f,Tq]at h;obtain⟨o,r⟩:=abC N e p vars rec l (k+1) (a++[q.1]) t h;refine⟨λy d=> ?_,r⟩;rcases Za.1 d with rfl|d
     ·exact⟨q.1,by rw[c,<-jQ b]⟩
     ·exact o y d
def adn(N:Nat)(p:bo)(vars:I so)(g:hX p.aP):∀(d:Nat)(e:az)(t:aM),tT N d p vars e=some (t,0)->∀y∈dQ e,(y.aD=3->yp (vars++p.bJ) p.bn p.aP y=0)/\(y.aD=2->pR (vars++p.bJ) y.bN=0)
 |0,e,t,h=>by cases h
 |d+1,e,t,h=>by
  rw[tT]at h;obtain⟨i,l,n,b⟩:=abC N e p vars _ _ _ _ _ h;intro y a;rcases Za.1 a with rfl|a
  ·refine⟨λc=> ?_,λc=> ?_⟩
   ·rw[qK,c,aga N vars p g]at b;exact apo (Zw b)
   ·rw[qK,c,SH,agD]at b;have f:=congrArg Prod.snd (Zw b);exact f
  ·obtain⟨x,j,a⟩:=LU a;obtain⟨k,f⟩:=i x j;exact adn N p vars g d x k f y a
def ak6(N:Nat)(p:bo)(vars:I so)(i:hX p.aP)(e:az)(t:aM)(h:vR N p vars e=some (t,0)):∀y∈dQ e,(y.aD=3->yp (vars++p.bJ) p.bn p.aP y=0)/\(y.aD=2->pR (vars++p.bJ) y.bN=0):=by
 unfold vR at h;cases f:Hx N e with
 |none=>rw[f]at h;cases h
 |some a=>
  rw[f,re]at h;cases b:a !=0 with
  |true=>rw[b,Tq]at h;rw[(Prod.mk.inj (Zw h)).2]at b;cases b
  |false=>
   rw[b,T6,M1,re]at h;cases g:fq e with
   |true=>rw[g]at h;cases h
   |false=>
    rw[g,T6]at h;cases c:IU N p vars e with
    |none=>rw[c]at h;cases h
    |some q=>
     rw[c,re]at h;cases d:q.2 !=0 with
     |true=>rw[d,Tq]at h;rw[(Prod.mk.inj (Zw h)).2]at d;cases d
     |false=>exact adn N p vars i N e q.1 (by unfold IU at c;rw[c,<-jQ d])
structure Bd(N:Nat)(p:bo):Prop where
 s:p.bJ.length<=1000
 w:p.dR.length<=1000
 q:p.bn.length<=1000
 d:p.aP.length<=1000
 o:p.dC.length<=1000
 P:mn p.bn
 D:hX p.aP
 W:∀c∈p.dR,np 1000000000 c.bN
 E:∀d∈p.aP,oz d.cw/\SizeOf.sizeOf d.cw<N
def WK(d:bZ):I so:=(d.aR++d.cl).map (·.ay)
structure th(p:bo)(k:Nat)(d:bZ):Prop where
 par:dw (p.bn.map (·.ay)) d.ay=false
 body:nV d.cw=0
 art:sI p.bJ [] (d.aR++d.cl)=0
 reads:∀y∈dQ d.cw,y.aD=3->yp (WK d++p.bJ) p.bn (p.aP.take k) y=0
 Eg:∀y∈dQ d.cw,y.aD=2->pR (WK d++p.bJ) y.bN=0
 len:d.aR.length<=6/\d.cl.length<=6
 apH:dw ((p.aP.take k).map (·.ay)) d.ay=false
def aek{D:I bZ}(h:hX D)(k:Nat):hX (D.take k):=⟨λd a=>h.len d (List.mem_of_mem_take a),λd a=>h.lR d (List.mem_of_mem_take a)⟩
section
variable {N:Nat} {p:bo}
def anM(C:2147483648<N)(B:Bd N p){m:I (so×Int)}{T:I so}{k:Nat}{d:bZ}(h:KN m p.bJ T)(f:p.aP[k]?=some d)(M:T.length<=1000000)(F:∀s,dw (p.bn.map (·.ay)++(p.aP.take k).map (·.ay)) s=true->dw T s=true):
 ∃x r,Kw N (k:Int) p m=some (x,r)/\xk N p (k:Int) (p.bJ++T)=some x/\(x=0->KN r p.bJ (T++[d.ay])/\th p k d):=by
 have g:=LR f;have G:=B.D.len d g;have b:d.aR.length+d.cl.length<1000000000:=by omega
 have c:∀x∈d.aR++d.cl,lg x.eu:=λx H=>(B.D.lR d g x H).ok;have Q:=B.s;unfold Kw xk;rw[show decide ((0:Int)<=(k:Int))=true from dO (by omega),ZK,f,Tq,Tq,re,re,
  VT N (by omega) _ 2 p h (by omega),Cu N (by omega),re,re,ai4,sV,re,re,yq,yq]
 dsimp only;cases e:jh (p.bJ++T) d.ay !=0 with
 |true=>exact⟨_,_,rfl,rfl,λa=>by rw[a]at e;cases e⟩
 |false=>
  have i:=jQ e;have u:=h.Xz (Fj i).2;rw[i];simp only[T6,Z7,Tq];cases dz d.aH with
  |false=>exact⟨_,_,rfl,rfl,λa=>by cases a⟩
  |true=>
   simp only[Tq];rw[show(bif !decide (d.aR.length<=6)then some true else some !decide (d.cl.length<=6))=some (!(decide (d.aR.length<=6)&&decide (d.cl.length<=6))) by cases decide (d.aR.length<=6)<;>cases decide (d.cl.length<=6)<;>rfl,re];cases v:decide (d.aR.length<=6)&&decide (d.cl.length<=6)with
   |false=>exact⟨_,_,rfl,rfl,λa=>by cases a⟩
   |true=>
    rw[Zr,UR,UR]at v;simp only[Tq,W1,T6];rw[e9 (by omega),e9 (by omega),anF N (by omega) d p u c b,afX N (by omega) _ _ c (by simp only[Zk];omega)];simp only[re,Tq,bne_self_eq_false,T6];cases j:sI p.bJ [] (d.aR++d.cl) !=0 with
    |true=>exact⟨_,_,rfl,rfl,λa=>by rw[a]at j;cases j⟩
    |false=>
     simp only[T6];rw[ahr,afQ,re,re];cases w:xa d !=0 with
     |true=>exact⟨_,_,rfl,rfl,λa=>by rw[a]at w;cases w⟩
     |false=>
      simp only[T6];have z:k<p.aP.length:=by
       by_cases z:k<p.aP.length;{exact z};{rw[Z9 (by omega)]at f;cases f}
      rw[show decide (k<=p.aP.length)=true from dO (by omega),Tq,Tq,apQ N d b,agz N d b,re,re,Yz];obtain⟨t,x,J,l,K⟩:=an3 N C ⟨p.bJ,p.dR,p.bn,p.aP.take k,p.dC⟩ ⟨p.bJ,[],p.bn,p.aP.take k,[]⟩ ((d.aR++d.cl).map (·.ay)) d.cw (B.E d g).2 (B.E d g).1 rfl rfl rfl B.P (aek B.D k)
        (by simp only[Zu,Zk];omega)
      rw[J,l,re,re];dsimp only;cases n:x !=0 with
      |true=>exact⟨_,_,rfl,rfl,λa=>by rw[a]at n;cases n⟩
      |false=>
       have A:=jQ n;simp only[T6];cases ((t.bB==d.aH.bB)&&((t.bW==d.aH.bW)&&((t.ck==d.aH.ck)&&((t.ct==d.aH.ct)&&((t.cC==d.aH.cC)&&true)))))with
       |false=>exact⟨_,_,rfl,rfl,λa=>by cases a⟩
       |true=>
        have o:dw (p.bn.map (·.ay)++(p.aP.take k).map (·.ay)) d.ay=false:=by
         cases L:dw (p.bn.map (·.ay)++(p.aP.take k).map (·.ay)) d.ay with
         |false=>rfl
         |true=>
          have:=(Fj i).2;rw[nm,F _ L,Bool.or_true]at this;cases this
        rw[nm,Yt]at o;rw[A]at l;have tr:=ak6 N _ _ (aek B.D k) d.cw t l;exact⟨_,_,rfl,rfl,λ_=>⟨u,o.1,K A,jQ j,λy q=>(tr y q).1,λy q=>(tr y q).2,v,o.2⟩⟩
def zp(p:bo):Bool:=decide (p.bJ.length<=64)&&(decide (p.bn.length<=64)&&(decide (p.aP.length<=64)&&(decide (p.dC.length<=64)&&decide (p.dR.length<=256))))
def akK:Lg N p=some (zp p):=by
 unfold Lg zp;simp only[OI];rw[show decide (((max (max (max p.bJ.length p.bn.length) p.aP.length) p.dC.length:Nat):Int)<=64)=decide (max (max (max p.bJ.length p.bn.length) p.aP.length) p.dC.length<=64)from xU _ 64,show decide ((p.dR.length:Int)<=256)=decide (p.dR.length<=256)from xU _ 256];rw[show decide (max (max (max p.bJ.length p.bn.length) p.aP.length) p.dC.length<=64)=(decide (p.bJ.length<=64)&&(decide (p.bn.length<=64)&&(decide (p.aP.length<=64)&&decide (p.dC.length<=64)))) by
  rw[Bool.eq_iff_iff];simp only[Zr,decide_eq_true_iff];omega]
 cases decide (p.bJ.length<=64)<;>cases decide (p.bn.length<=64)<;>cases decide (p.aP.length<=64)<;>cases decide (p.dC.length<=64)<;>rfl
def R8:(bif (decide ((p.bJ.length:Int)>64))then some true else(bif (decide ((p.bn.length:Int)>64))then some true else(bif (decide ((p.aP.length:Int)>64))then some true else(bif (decide ((p.dC.length:Int)>64))then some true else some (decide ((p.dR.length:Int)>256))))))=some (!zp p):=by
 unfold zp;rw[show ∀n:Nat,decide ((n:Int)>64)= !decide (n<=64)from λn=>l9 n 64,show decide ((p.bn.length:Int)>64)= !decide (p.bn.length<=64)from l9 _ 64,show decide ((p.aP.length:Int)>64)= !decide (p.aP.length<=64)from l9 _ 64,show decide ((p.dC.length:Int)>64)= !decide (p.dC.length<=64)from l9 _ 64,show decide ((p.dR.length:Int)>256)= !decide (p.dR.length<=256)from l9 _ 256];cases decide (p.bJ.length<=64)<;>cases decide (p.bn.length<=64)<;>cases decide (p.aP.length<=64)<;>cases decide (p.dC.length<=64)<;>rfl
def sX:I so->I so->Int
 |_,[]=>0
 |S,s::l=>bif jh S s !=0 then jh S s else sX (S++[s]) l
def Tb(c:16<N):∀(l:I so)(k:Nat)(m:I (so×Int))(S:I so),KN m S []->S.length+l.length<=1000->
 ∃a,KN a (S++l) []/\PI N p l k m=bif sX S l !=0 then some (0,sX S l)else FG N p a p.dR 0
 |[],k,m,S,h,_=>⟨m,by rw[ZV];exact h,rfl⟩
 |s::l,k,m,S,h,d=>by
  simp only[Zl]at d;rw[PI,VT N c s 1 p h (by simp only[Zf];omega),re,ZV,sX];dsimp only;cases e:jh S s !=0 with
  |true=>
   obtain⟨a,b,_⟩:=Tb c l k _ _ (h.rz s) (by simp only[Zk,Zl,Zf];omega);refine⟨a,by rw[ZR]at b;exact b,?_⟩;simp only[Tq];rw[e];rfl
  |false=>
   rw[jQ e];obtain⟨a,b,f⟩:=Tb c l (k+1) _ _ (h.rz s) (by simp only[Zk,Zl,Zf];omega);exact⟨a,by rw[ZR]at b;exact b,f⟩
def WN{α:Type}{L l:I α}{x:α}{k:Nat}(h:L.drop k=x::l):L.take (k+1)=L.take k++[x]:=by
 have:=aX h;rw[List.take_add_one,this];rfl
def rS{α:Type}{L l:I α}{x:α}{k:Nat}(h:L.drop k=x::l):L.drop (k+1)=l:=by
 rw[<-List.drop_drop,h];rfl
def aeY{α:Type}{L l:I α}{x:α}{k:Nat}(h:L.drop k=x::l):k<L.length:=by
 by_cases a:k<L.length;{exact a};{rw[List.drop_eq_nil_of_le (by omega)]at h;cases h}
def LC(a:16<N):∀(l:I so)(k:Nat),p.bJ.drop k=l->Ng N p l k=some (sX (p.bJ.take k) l)
 |[],_,_=>rfl
 |s::l,k,h=>by
  rw[Ng,ZK,show decide (k<=p.bJ.length)=true from dO (by have:=aeY h;omega),Tq,Yz,Cu N a,re,sX,LC a l (k+1) (rS h),WN h];cases jh (p.bJ.take k) s !=0<;>rfl
def aeR(a:16<N){m:I (so×Int)}(h:KN m p.bJ []):∀(l:I ik)(k:Nat),(∀c∈l,np 1000000000 c.bN)->
 FG N p m l k=bif gM (λc=>iT p.bJ c.bN) l !=0 then some (1,gM (λc=>iT p.bJ c.bN) l)else D4 N p p.bn 0 2 m
 |[],_,_=>rfl
 |c::l,k,b=>by
  have d:lg c.bN:=(b c Zq).ok;have f:MJ N c p m=some (iT p.bJ c.bN):=by
   unfold MJ UD;rw[Pd N a _ d,re,re,SZ N a _ p d h];unfold iT;cases jO c.bN<;>rfl
  rw[FG,f,re,gM,aeR a h l (k+1) λy g=>b y (Zg _ g)];cases e:iT p.bJ c.bN !=0 with
  |true=>simp only[Tq];rw[e];rfl
  |false=>rfl
def L2(a:16<N)(d:p.bJ.length<=1000):∀(l:I ik)(k:Nat),(∀c∈l,np 1000000000 c.bN)->
 IQ N p l k=bif gM (λc=>iT p.bJ c.bN) l !=0 then some (1,gM (λc=>iT p.bJ c.bN) l)else uZ N p p.bn 0 p.bJ 2
 |[],_,_=>by
  rw[IQ,e9 (by omega)];rfl
 |c::l,k,b=>by
  rw[IQ,TN N a _ (b c Zq).ok,re,gM,L2 a d l (k+1) λy f=>b y (Zg _ f)];cases e:iT p.bJ c.bN !=0 with
  |true=>simp only[Tq];rw[e];rfl
  |false=>rfl
def aeM(f:16<N)(i:p.bJ.length<=1000):∀(l:I eX)(k:Nat)(at_:Int)(m:I (so×Int))(T:I so),KN m p.bJ T->mn l->T.length+l.length<=1000->
 (∃a x,x≠0/\D4 N p l k at_ m=some (a,x)/\uZ N p l k (p.bJ++T) at_=some (a,x))\/
 ∃c g,KN g p.bJ (T++l.map (·.ay))/\D4 N p l k at_ m=BT N p p.aP 0 c g/\uZ N p l k (p.bJ++T) at_=qL N p p.aP 0 (p.bJ++(T++l.map (·.ay))) c
 |[],k,at_,m,T,h,_,_=>.inr ⟨at_,m,by rw[ah,ZV];exact h,rfl,by rw[ah,ZV];rfl⟩
 |x::l,k,at_,m,T,h,d,j=>by
  simp only[Zl]at j;obtain⟨n,o,q⟩:=aoR N f x p (λy b=>(d.lR x Zq y b).ok) h (by omega);rw[D4,uZ,o,agO N f x p.bJ T (λy b=>(d.lR x Zq y b).ok),re,re];dsimp only;cases e:uD p.bJ T x !=0 with
  |true=>exact .inl ⟨_,_,λr=>(by rw[r]at e;cases e),rfl,rfl⟩
  |false=>
   simp only[T6];rw[e9 (by simp only[Zk];omega),Tq,ZR];have:=aeM f i l (k+1) (aF (at_+1)) n (T++[x.ay]) (q (jQ e)) ⟨λy b=>d.len y (Zg _ b),λy b=>d.lR y (Zg _ b)⟩ (by simp only[Zk,Zl,Zf];omega);rw[ZR]at this;exact this
def aeI(n:2147483648<N)(B:Bd N p):∀(l:I bZ)(k:Nat)(at_:Int)(m:I (so×Int))(T:I so),p.aP.drop k=l->KN m p.bJ T->(∀s,dw (p.bn.map (·.ay)++(p.aP.take k).map (·.ay)) s=true->dw T s=true)->T.length+l.length<=10000->
 (∃a x,x≠0/\BT N p l k at_ m=some (a,x)/\qL N p l k (p.bJ++T) at_=some (a,x))\/
 ((∀i d,k<=i->p.aP[i]?=some d->th p i d)/\∃j o,KN o p.bJ (T++l.map (·.ay))/\BT N p l k at_ m=GJ N o p p.dC 0 j/\qL N p l k (p.bJ++T) at_=rD N p p.dC 0 j)
 |[],k,at_,m,T,c,h,_,_=>by
  refine .inr ⟨λi d r f=> ?_,at_,m,by rw[ah,ZV];exact h,rfl,rfl⟩
  ·have:p.aP.length<=k:=by
    by_cases t:p.aP.length<=k;{exact t};{have:=congrArg List.length c;simp at this;omega}
   rw[Z9 (by omega)]at f;cases f
 |d::l,k,at_,m,T,c,h,q,u=>by
  simp only[Zl]at u;have b:=B.s;obtain⟨x,v,w,y,z⟩:=anM n B h (aX c) (by omega) q;rw[BT,qL,w,y,re,re];dsimp only;cases e:x !=0 with
  |true=>exact .inl ⟨_,_,λA=>(by rw[A]at e;cases e),rfl,rfl⟩
  |false=>
   obtain⟨C,E⟩:=z (jQ e);simp only[T6];rw[e9 (by simp only[Zk];omega),Tq,ZR];have:=aeI n B l (k+1) (aF (at_+1)) v (T++[d.ay]) (rS c) C (λs b=>by
    rw[WN c,aa,<-ZR,nm]at b;rw[nm];rcases aq _ _▸b with b|b
    ·rw[q s b];rfl
    ·rw[show dw [d.ay] s=true from b,Bool.or_true]) (by simp only[Zk,Zl,Zf];omega)
   rw[ZR]at this;rcases this with this|⟨g,this⟩
   ·exact .inl this
   ·refine .inr ⟨λi F r f=> ?_,this⟩;by_cases G:i=k
    ·subst G;rw[aX c]at f;cases f;exact E
    ·exact g i F (by omega) f
def E1{α:Type}(f:α->so)(s:so):∀l:I α,dw (l.map f) s=(l.find? λx=>bL (f x)==bL s).isSome
 |[]=>rfl
 |x::l=>by
  rw[ZS,List.find?_cons,show dw (f x::l.map f) s=(bL (f x)==bL s||dw (l.map f) s)from Ys,E1 f s l];cases bL (f x)==bL s<;>rfl
def Uw(P:I eX)(D:I bZ)(s:so):(dW P D s).2.2=dw (P.map (·.ay)++D.map (·.ay)) s:=by
 unfold dW;rw[nm,E1,E1];show _=(_||(D.find? (mf s)).isSome);cases P.find? λx=>bL x.ay==bL s with
 |some x=>rfl
 |none=>cases D.find? (mf s)<;>rfl
def aez(b:hX p.aP){m:I (so×Int)}(h:KN m p.bJ (p.bn.map (·.ay)++p.aP.map (·.ay))):∀(l:I so)(k:Nat)(at_:Int),p.dC.drop k=l->
 ∃a x,GJ N m p l k at_=some (a,x)/\rD N p l k at_=some (a,x)
 |[],_,_,_=>⟨_,_,rfl,rfl⟩
 |s::l,k,at_,c=>by
  rw[GJ,rD,h.ne2,Jl N p s b,re,Uw,ZK,show decide (k<=p.dC.length)=true from dO (by have:=aeY c;omega),Yz,aiD,A8,re,re];cases dw (p.bn.map (·.ay)++p.aP.map (·.ay)) s with
  |false=>exact⟨_,_,rfl,rfl⟩
  |true=>
   cases dw (p.dC.take k) s with
   |true=>exact⟨_,_,rfl,rfl⟩
   |false=>exact aez b h l (k+1) (aF (at_+1)) (rS c)
def ahf(u:2147483648<N)(B:Bd N p):∃a x,J0 N p=some (a,x)/\vP N p=some (a,x)/\(x=0->∀i d,p.aP[i]?=some d->th p i d):=by
 have n:=B.s;have C:=B.q;have E:=B.d;unfold J0 vP Gs;rw[akK,R8,re,re];cases zp p with
 |false=>exact⟨_,_,rfl,rfl,λh=>by cases h⟩
 |true=>
  simp only[Tq,W1,T6];obtain⟨v,j,b⟩:=Tb (N:=N) (p:=p) (by omega) p.bJ 0 [] [] KN.nil (by simp only[Zf];omega);rw[W2]at j;rw[b,LC (by omega) p.bJ 0 rfl,re,List.take_zero];cases o:sX [] p.bJ !=0 with
  |true=>exact⟨_,_,rfl,rfl,λf=>by rw[f]at o;cases o⟩
  |false=>
   simp only[T6];rw[aeR (by omega) j _ _ B.W,L2 (by omega) n _ _ B.W];cases r:gM (λc=>iT p.bJ c.bN) p.dR !=0 with
   |true=>exact⟨_,_,rfl,rfl,λf=>by rw[f]at r;cases r⟩
   |false=>
    simp only[T6];have t:=aeM (N:=N) (p:=p) (by omega) n p.bn 0 2 v [] j B.P (by simp only[Zf];omega);rw[ZV,W2]at t;rcases t with⟨a,x,k,b,e⟩|⟨l,w,y,b,e⟩
    ·exact⟨a,x,b,e,λf=>absurd f k⟩
    ·rw[b,e];rcases aeI u B p.aP 0 l w _ rfl y (λs h=>by rw[List.take_zero,ah,ZV]at h;exact h) (by simp only[Zu];omega)with⟨a,x,k,b,e⟩|⟨g,z,F,A,b,e⟩
     ·exact⟨a,x,b,e,λf=>absurd f k⟩
     ·rw[b,e];obtain⟨a,x,b,e⟩:=aez (N:=N) B.D A p.dC 0 z rfl;exact⟨a,x,b,e,λ_ i d h=>g i d (Wv _) h⟩
end
def aeB:∀{l:I aL}{s s':so},bL s=bL s'->iS l s=iS l s'
 |[],_,_,_=>rfl
 |x::r,s,s',h=>by unfold iS;rw[h,aeB (l:=r) h]
structure CK(mem:List aL)(kv:List (ByteArray×bk)):Prop where
 ok:∀p∈kv,iS mem p.1=some p.2/\mo p.2=true
 nd:(kv.map λp=>bL p.1).Nodup
def CK.nil(mem:I aL):CK mem []:=⟨λp h=>(by cases h),by simp⟩
def agk{α:Type}:∀{l m:I α},l.Nodup->(∀x∈l,x∈m)->l.length<=m.length
 |[],m,_,_=>Wv _
 |x::l,m,h,d=>by
  have f:=d x Zq;obtain⟨a,b,rfl⟩:=List.append_of_mem f;rw[List.nodup_cons]at h;have:=agk (l:=l) (m:=a++b) h.2 λy e=>by
   have c:=d y (Zg _ e);rw[ZN,Za]at c;rw[ZN];rcases c with c|rfl|c
   ·exact .inl c
   ·exact absurd e h.1
   ·exact .inr c
  simp only[Zk,Zl]at this ⊢;omega
def CK.len{mem:I aL}{a:I (so×bk)}(h:CK mem a):a.length<=mem.length:=by
 have:=agk h.nd (m:=mem.map λx=>bL x.ay) λy b=>by
  obtain⟨p,c,rfl⟩:=UU.1 b;obtain⟨x,d,_,e⟩:=Qu (h.ok p c).1;exact UU.2 ⟨x,d,e⟩
 simpa using this
def ae7{mem:I aL}{s:so}{d:bk}:∀{a:I (so×bk)},(∀p∈a,iS mem p.1=some p.2/\mo p.2=true)->ni a s=true->iS mem s=some (ib a s d)/\mo (ib a s d)=true
 |[],_,h=>by cases h
 |(k,t)::a,c,h=>by
  unfold ni at h;unfold ib;cases b:(bL k==bL s)with
  |true=>
   rw[Tq];have:=c (k,t) Zq;rw[Ua]at b;rw[<-aeB b];exact this
  |false=>
   rw[b]at h;simp only[T6,b7]at h ⊢;exact ae7 (λp e=>c p (Zg _ e)) h
def acf{s:so}:∀{c:I (so×bk)},ni c s=false->bL s ∉ c.map λp=>bL p.1
 |[],_,h=>by cases h
 |(k,t)::c,a,h=>by
  unfold ni at a;rw[ZS,Za]at h;cases b:(bL k==bL s)with
  |true=>rw[b]at a;simp at a
  |false=>
   rw[b]at a;simp only[T6,b7]at a;rcases h with h|h
   ·rw[h]at b;simp at b
   ·exact acf a h
def mI{α β:Type}(r:Except Int α)(a:Int)(b:β)(f:α->β->Prop):Prop:=match r with
 | .ok x=>a=0/\f x b
 | .error z=>a=z/\z≠0
def UH{mem:I aL}{s:so}{z:Int}(h:mL mem s= .error z):z≠0:=by
 unfold mL at h;split at h;{cases h;decide}
 ·next t e=>
  cases a:mo t<;>rw[a]at h<;>cases h
  decide
def Gy{mem:I aL}{s:so}{t:bk}(h:mL mem s= .ok t):iS mem s=some t/\mo t=true:=by
 unfold mL at h;split at h;{cases h}
 ·next b e=>
  cases a:mo b<;>rw[a]at h<;>cases h
  exact⟨e,a⟩
def aet(N:Nat)(k:2147483648<N)(mem:I aL)(o:mem.length<=4611686018427387904)(s:so)(b:I (so×bk))(a:CK mem b):
 ∃t h i,Ep N s mem b=some (t,h,i)/\CK mem i/\mI (mL mem s) h t (λx y=>y=x):=by
 unfold Ep;cases j:ni b s with
 |true=>
  obtain⟨c,f⟩:=ae7 (d:=(⟨(⟨0,0,0,0,0⟩:aM),[],[]⟩:bk)) a.ok j;refine⟨_,_,_,rfl,a,?_⟩;unfold mL;rw[c];simp only[f,Tq];exact⟨rfl,rfl⟩
 |false=>
  rw[T6,U8,re];unfold mL;cases l:iS mem s with
  |none=>exact⟨_,_,_,rfl,a,rfl,by decide⟩
  |some t=>
   simp only[Tq];obtain⟨e,c,f⟩:=afH N k t;rw[c,re,f];cases n:mo t with
   |false=>exact⟨_,_,_,rfl,a,rfl,by decide⟩
   |true=>
    have q:=a.len;rw[W1,T6,show Nat.blt b.length 9223372036854775807=true by rw[Nat.blt_eq];omega,Tq];refine⟨_,_,_,rfl,⟨λp g=> ?_,?_⟩,rfl,rfl⟩
    ·rcases Za.1 g with rfl|g
     ·exact⟨l,n⟩
     ·exact a.ok p g
    ·rw[ZS,List.nodup_cons];exact⟨acf j,a.nd⟩
def oK(env:I aJ):I bE->I Int->Int->Except Int Int
 |[],_,a=>.ok a
 |_::_,[],a=>.ok a
 |l::b,d::c,a=>bif (dB l env).2 !=0 then .error (dB l env).2 else bif decide ((dB l env).1.toInt<0)||decide ((dB l env).1.toInt>=d)then .error 12 else oK env b c (a*d+(dB l env).1.toInt)
def D8(d:Int)(a:I Int):(d::a).foldl (·*·) 1=d*a.foldl (·*·) 1:=by rw[List.foldl_cons,bf,Ns]
def DO{a n d p q:Int}(b:0<=a)(h:a<p)(i:0<=n)(j:n<d)(c:1<=q)(e:p*(d*q)<=4096):0<=a*d+n/\a*d+n<p*d/\(p*d)*q<=4096/\aF (aF (a*d)+n)=a*d+n:=by
 have k:0<=a*d:=Int.mul_nonneg b (by omega);have f:(a+1)*d<=p*d:=Int.mul_le_mul_of_nonneg_right (by omega) (by omega);rw[Int.add_mul,bf]at f;have g:(p*d)*q<=4096:=by rw[an];exact e
 have l:(p*d)*1<=(p*d)*q:=Yy c (by omega);refine⟨by omega,by omega,g,?_⟩;rw[wC (n:=a*d) (by omega) (by omega),wC (by omega) (by omega)]
def aew(N:Nat)(a:Int)(n:Int64)(d:Int):Jb N a n d=some (bif decide (n.toInt<0)||decide (n.toInt>=d)then(0,12)else(aF (aF (a*d)+n.toInt),0)):=by
 unfold Jb;cases decide (n.toInt<0)with
 |true=>rfl
 |false=>
  rw[T6,re,b7];cases decide (n.toInt>=d)<;>rfl
def ace(r:Except Int Int)(p:Int):Prop:=∀a,r= .ok a->0<=a/\a<p
def RL(env:I aJ):∀(g:I bE)(e:I Int)(a p:Int),0<=a->a<p->(∀n∈e,1<=n)->g.length=e.length->p*e.foldl (·*·) 1<=4096->ace (oK env g e a) (p*e.foldl (·*·) 1)
 |[],[],a,p,h,i,_,_,_=>λb c=>by cases c;rw[List.foldl_nil,Int.mul_one];exact⟨h,i⟩
 |[],_::_,a,p,_,_,_,f,_=>by simp at f
 |_::_,[],a,p,_,_,_,f,_=>by simp at f
 |l::g,d::e,a,p,h,i,o,f,q=>by
  intro b c;unfold oK at c;cases r:((dB l env).2 !=0)with
  |true=>rw[r]at c;cases c
  |false=>
   rw[r,T6]at c;cases j:(decide ((dB l env).1.toInt<0)||decide ((dB l env).1.toInt>=d))with
   |true=>rw[j]at c;cases c
   |false=>
    rw[j,T6]at c;rw[Yt,UN,UN]at j;rw[D8]at q ⊢;have t:=xh λn k=>o n (Zg _ k);obtain⟨u,v,w,_⟩:=DO (n:=(dB l env).1.toInt) h i (by omega) (by omega) t q;have:=RL env g e _ _ u v (λn k=>o n (Zg _ k)) (by simpa using f) w b c;rw[an]at this;exact this
def rF(n ext:Int):Int:=max 0 (min n (ext-1))
def gS(mem:I aL)(env:I aJ)(x:c8)(ext:Int):Except Int Int64:=match mL mem x.de with
 | .error z=>.error z
 | .ok t=>bif t.aH.bB !=3 then .error 10 else bif (x.cQ.length:Int) !=(t.aR.length:Int)then .error 11 else match oK env x.cQ t.aR 0 with
   | .error z=>.error z
   | .ok a=>match t.eD[a.toNat]? with
     |some v=>.ok (Int64.ofInt (rF v.xN.toInt ext))
     |none=>.error 1
def ar6{n ext:Int}(h1:1<=ext)(a:ext<=4096):(if(if(aF (ext-(1:Int)))<n then(aF (ext-(1:Int)))else n)>0then(if(aF (ext-(1:Int)))<n then(aF (ext-(1:Int)))else n)else(0:Int))=rF n ext:=by
 rw[wC (by omega) (by omega)];unfold rF;split<;>split<;>omega
def ahD{n ext:Int}(h1:1<=ext)(a:ext<=4096):(if(if n<(aF (ext-(1:Int)))then n else(aF (ext-(1:Int))))>0then(if n<(aF (ext-(1:Int)))then n else(aF (ext-(1:Int))))else(0:Int))=rF n ext:=by
 rw[wC (by omega) (by omega)];unfold rF;split<;>split<;>omega
def adR{n ext:Int}(h1:1<=ext)(a:ext<=4096):(aF (rF n ext)==rF n ext)=true:=by
 rw[Ua];exact wC (by unfold rF;omega) (by unfold rF;omega)
structure xY(t:bk):Prop where
 ty:dz t.aH=true
 sh:afN t.aR
 len:(t.eD.length:Int)=t.aR.foldl (·*·) 1
 Ve:∀v∈t.eD,dI t.aH v=true
def IS{t:bk}(h:mo t=true):xY t:=by
 unfold mo at h;simp only[Zr,Ua]at h;exact⟨h.1,EL h.2.1,h.2.2.1,Zd.1 h.2.2.2⟩
def xY.get{t:bk}(h:xY t){a:Int}(c:0<=a)(h1:a<t.aR.foldl (·*·) 1):∃v,t.eD[a.toNat]?=some v/\v∈t.eD:=by
 have d:=h.len;have b:a.toNat<t.eD.length:=by omega
 exact⟨t.eD[a.toNat],Ze b,List.getElem_mem b⟩
def afG(N:Nat)(u:2147483648<N)(env:I aJ)(e:bk×Int×I (so×bk))(h:xY e.1)(ext:Int)(q:1<=ext)(r:ext<=4096):∀(f:I bE)(k:Nat)(c:I Int)(a p:Int),(∀l∈f,l.xL.length<=4611686018427387904)->e.1.aR.drop k=c->f.length=c.length->0<=a->a<p->p*c.foldl (·*·) 1=e.1.aR.foldl (·*·) 1->
 GP N e ext env f k a=some (match oK env f c a with| .error z=>(0,z,e.2.2)| .ok b=>match e.1.eD[b.toNat]? with|some v=>(Int64.ofInt (rF v.xN.toInt ext),0,e.2.2)|none=>(0,1,e.2.2))
 |[],k,c,a,p,_,i,j,o,w,g=>by
  cases c with
  |cons=>simp at j
  |nil=>
   rw[List.foldl_nil,Int.mul_one]at g;obtain⟨v,y,_⟩:=h.get o (by omega);unfold GP oK;rw[dO o,Tq,y,re,ar6 q r,adR q r,Tq];simp only[y]
 |l::f,k,c,a,p,A,i,j,o,w,g=>by
  cases c with
  |nil=>simp at j
  |cons d c=>
   have B:=aX i;have C:∀n∈d::c,1<=n:=λn t=>h.sh.pos n (a7 (i▸t));unfold GP oK;rw[GM N u l env (A l Zq),re];cases L:((dB l env).2 !=0)with
   |true=>rfl
   |false=>
    rw[T6,T6,ZK,B,re,aew,re];cases E:(decide ((dB l env).1.toInt<0)||decide ((dB l env).1.toInt>=d))with
    |true=>rfl
    |false=>
     rw[T6,T6];rw[Yt,UN,UN]at E;rw[D8]at g;have F:=xh λn t=>C n (Zg _ t);obtain⟨G,H,M,J⟩:=DO (n:=(dB l env).1.toInt) (d:=d) o w (by omega) (by omega) F (by rw[g];exact h.sh.le);simp only;rw[show((0:Int) !=0)=false from rfl,T6,J];exact afG N u env e h ext q r f (k+1) c _ (p*d) (λx K=>A x (Zg _ K)) (kM i) (by simpa using j) G H (by rw[an];exact g)
def aal(N:Nat)(u:2147483648<N)(env:I aJ)(e:bk×Int)(i:xY e.1)(ext:Int)(r:1<=ext)(t:ext<=4096):∀(f:I bE)(k:Nat)(c:I Int)(a p:Int),(∀l∈f,l.xL.length<=4611686018427387904)->e.1.aR.drop k=c->f.length=c.length->0<=a->a<p->p*c.foldl (·*·) 1=e.1.aR.foldl (·*·) 1->
 HV N e ext env f k a=some (match oK env f c a with| .error z=>(0,z)| .ok b=>match e.1.eD[b.toNat]? with|some v=>(Int64.ofInt (rF v.xN.toInt ext),0)|none=>(0,1))
 |[],k,c,a,p,_,j,o,q,w,g=>by
  cases c with
  |cons=>simp at o
  |nil=>
   rw[List.foldl_nil,Int.mul_one]at g;obtain⟨v,y,_⟩:=i.get q (by omega);unfold HV oK;rw[dO q,Tq,y,re,ahD r t,adR r t,Tq];simp only[y]
 |l::f,k,c,a,p,A,j,o,q,w,g=>by
  cases c with
  |nil=>simp at o
  |cons d c=>
   have B:=aX j;have C:∀n∈d::c,1<=n:=λn h=>i.sh.pos n (a7 (j▸h));unfold HV oK;rw[Gr N u l env (A l Zq),re];cases L:((dB l env).2 !=0)with
   |true=>rfl
   |false=>
    rw[T6,T6,ZK,B,re,re];cases h:decide ((dB l env).1.toInt<0)with
    |true=>rfl
    |false=>
     rw[T6,re,b7];cases E:decide ((dB l env).1.toInt>=d)with
     |true=>rfl
     |false=>
      rw[T6,T6];rw[UN]at E h;rw[D8]at g;have F:=xh λn h=>C n (Zg _ h);obtain⟨G,H,M,J⟩:=DO (n:=(dB l env).1.toInt) (d:=d) q w (by omega) (by omega) F (by rw[g];exact i.sh.le);simp only;rw[J];exact aal N u env e i ext r t f (k+1) c _ (p*d) (λx K=>A x (Zg _ K)) (kM j) (by simpa using o) G H (by rw[an];exact g)
def agx{mem:I aL}{env:I aJ}{x:c8}{ext z:Int}(h:gS mem env x ext= .error z):z≠0:=by
 unfold gS at h;split at h;{next e=>cases h;exact UH e}
 ·next t e=>
  cases j:(t.aH.bB !=3)with
  |true=>rw[j]at h;cases h;decide
  |false=>
   rw[j,T6]at h;cases k:((x.cQ.length:Int) !=(t.aR.length:Int))with
   |true=>rw[k]at h;cases h;decide
   |false=>
    rw[k,T6]at h;split at h
    ·next n=>
     cases h
     have g:∀(f:I bE)(c:I Int)(a:Int),oK env f c a= .error z->z≠0:=by
      intro f
      induction f with
      |nil=>intro c a h;cases h
      |cons l f q=>
       intro c a h;cases c with
       |nil=>cases h
       |cons d c=>
        unfold oK at h;cases i:((dB l env).2 !=0)with
        |true=>rw[i]at h;cases h;simpa using i
        |false=>
         rw[i,T6]at h;cases o:(decide ((dB l env).1.toInt<0)||decide ((dB l env).1.toInt>=d))with
         |true=>rw[o]at h;cases h;decide
         |false=>rw[o,T6]at h;exact q _ _ h
     exact g _ _ _ n
    ·next b n=>
     split at h;{cases h};{cases h;decide}
def asB(N:Nat)(j:2147483648<N)(mem:I aL)(w:mem.length<=4611686018427387904)(env:I aJ)(x:c8)(y:∀l∈x.cQ,l.xL.length<=4611686018427387904)(ext:Int)(A:1<=ext)(B:ext<=4096)(h:I (so×bk))(C:CK mem h):
 ∃n i d,NT N env x ext mem h=some (n,i,d)/\CK mem d/\mI (gS mem env x ext) i n (λa b=>b=a):=by
 unfold NT;obtain⟨t,i,d,E,c,e⟩:=aet N j mem w x.de h C;rw[E,re];unfold gS;cases f:mL mem x.de with
 |error z=>
  rw[f]at e;obtain⟨rfl,k⟩:=e;simp only;rw[Ue.2 k,Tq];exact⟨_,_,_,rfl,c,rfl,k⟩
 |ok K=>
  rw[f]at e;obtain⟨rfl,rfl⟩:=e;simp only;rw[show((0:Int) !=0)=false from rfl,T6];have g:=IS (Gy f).2;cases F:(t.aH.bB !=3)with
  |true=>exact⟨_,_,_,rfl,c,rfl,by decide⟩
  |false=>
   rw[T6,T6];cases o:((x.cQ.length:Int) !=(t.aR.length:Int))with
   |true=>exact⟨_,_,_,rfl,c,rfl,by decide⟩
   |false=>
    rw[T6,T6];have q:x.cQ.length=t.aR.length:=by
      have:(x.cQ.length:Int)=t.aR.length:=by simpa using o
      omega
    rw[afG N j env (t,0,d) g ext A B x.cQ 0 t.aR 0 1 y rfl q (by decide) (by decide) (bf _)];have G:=RL env x.cQ t.aR 0 1 (by decide) (by decide) g.sh.pos q (by rw[bf];exact g.sh.le);cases r:oK env x.cQ t.aR 0 with
    |error z=>
     refine⟨_,_,_,rfl,c,rfl,?_⟩;refine agx (mem:=mem) (env:=env) (x:=x) (ext:=ext) ?_;unfold gS;rw[f];simp only[F,o,T6,r]
    |ok b=>
     obtain⟨H,u⟩:=G b r;rw[bf]at u;obtain⟨v,J,_⟩:=g.get H u;simp only[J];exact⟨_,_,_,rfl,c,rfl,rfl⟩
def uF(mem:I aL)(env:I aJ)(x:c8)(a:Int):Except Int Int64:=bif bL x.de==bL (bs [])then(bif (dB x.bN env).2 !=0 then .error (dB x.bN env).2 else .ok (dB x.bN env).1)else gS mem env x a
structure LW(x:c8):Prop where
 l:x.bN.xL.length<=4611686018427387904
 a:∀l∈x.cQ,l.xL.length<=4611686018427387904
def aqG(N:Nat)(d:2147483648<N)(mem:I aL)(env:I aJ)(x:c8)(f:LW x)(ext:Int)(r:1<=ext)(u:ext<=4096):
 ∃n g,OG N mem env x ext=some (n,g)/\mI (uF mem env x ext) g n (λa b=>b=a):=by
 unfold OG uF;cases C:(bL x.de==bL (bs []))with
 |true=>
  rw[Tq,Tq,Gr N d _ _ f.l,re];refine⟨_,_,rfl,?_⟩;cases h:((dB x.bN env).2 !=0)with
  |true=>exact⟨rfl,by simpa using h⟩
  |false=>exact⟨by simpa using h,rfl⟩
 |false=>
  rw[T6,T6,afA N d,re];unfold gS;cases e:mL mem x.de with
  |error z=>
   have i:=UH e;simp only;rw[Ue.2 i,Tq];exact⟨_,_,rfl,rfl,i⟩
  |ok t=>
   simp only;rw[show((0:Int) !=0)=false from rfl,T6];have c:=IS (Gy e).2;cases w:(t.aH.bB !=3)with
   |true=>exact⟨_,_,rfl,rfl,by decide⟩
   |false=>
    rw[T6,T6];cases j:((x.cQ.length:Int) !=(t.aR.length:Int))with
    |true=>exact⟨_,_,rfl,rfl,by decide⟩
    |false=>
     rw[T6,T6];have k:x.cQ.length=t.aR.length:=by
       have:(x.cQ.length:Int)=t.aR.length:=by simpa using j
       omega
     rw[aal N d env (t,0) c ext r u x.cQ 0 t.aR 0 1 f.a rfl k (by decide) (by decide) (bf _)];have y:=RL env x.cQ t.aR 0 1 (by decide) (by decide) c.sh.pos k (by rw[bf];exact c.sh.le);cases o:oK env x.cQ t.aR 0 with
     |error z=>
      refine⟨_,_,rfl,rfl,?_⟩;refine agx (mem:=mem) (env:=env) (x:=x) (ext:=ext) ?_;unfold gS;rw[e];simp only[w,j,T6,o]
     |ok b=>
      obtain⟨A,q⟩:=y b o;rw[bf]at q;obtain⟨v,B,_⟩:=c.get A q;simp only[B];exact⟨_,_,rfl,rfl,rfl⟩
def oe(mem:I aL)(env:I aJ):I c8->I Int->Int->Except Int Int
 |[],_,a=>.ok a
 |_::_,[],a=>.ok a
 |x::b,d::c,a=>match uF mem env x d with
  | .error z=>.error z
  | .ok n=>bif decide (n.toInt<0)||decide (n.toInt>=d)then .error 12 else oe mem env b c (a*d+n.toInt)
def afr(mem:I aL)(env:I aJ):∀(xs:I c8)(e:I Int)(a p:Int),0<=a->a<p->(∀n∈e,1<=n)->xs.length=e.length->p*e.foldl (·*·) 1<=4096->ace (oe mem env xs e a) (p*e.foldl (·*·) 1)
 |[],[],a,p,g,h,_,_,_=>λb c=>by cases c;rw[List.foldl_nil,Int.mul_one];exact⟨g,h⟩
 |[],_::_,a,p,_,_,_,f,_=>by simp at f
 |_::_,[],a,p,_,_,_,f,_=>by simp at f
 |x::xs,d::e,a,p,g,h,k,f,l=>by
  intro b c;unfold oe at c;cases o:uF mem env x d with
  |error y=>rw[o]at c;cases c
  |ok n=>
   rw[o]at c;simp only at c;cases i:(decide (n.toInt<0)||decide (n.toInt>=d))with
   |true=>rw[i]at c;cases c
   |false=>
    rw[i,T6]at c;rw[Yt,UN,UN]at i;rw[D8]at l ⊢;have q:=xh λn j=>k n (Zg _ j);obtain⟨r,t,u,_⟩:=DO (n:=n.toInt) (d:=d) g h (by omega) (by omega) q l;have:=afr mem env xs e _ _ r t (λn j=>k n (Zg _ j)) (by simpa using f) u b c;rw[an]at this;exact this
def ad2{a:I Int}(e:∀n∈a,1<=n){p d q:Int}(b:1<=p)(h1:1<=d)(c:1<=q)(h:p*(d*q)<=4096):d<=4096:=by
 have f:d*1<=d*q:=Yy c (by omega);have g:1*(d*q)<=p*(d*q):=Int.mul_le_mul_of_nonneg_right b (by omega);omega
def adA(N:Nat)(G:2147483648<N)(mem:I aL)(K:mem.length<=4611686018427387904)(env:I aJ)(e:bk×Int×I (so×bk))(u:xY e.1):∀(xs:I c8)(k:Nat)(c:I Int)(a p:Int)(i:I (so×bk)),(∀x∈xs,LW x)->e.1.aR.drop k=c->xs.length=c.length->0<=a->a<p->p*c.foldl (·*·) 1=e.1.aR.foldl (·*·) 1->CK mem i->
 ∃t f g,ry N e env mem xs k a i=some (t,f,g)/\CK mem g/\mI (oe mem env xs c a) f t (λb y=>∃v,e.1.eD[b.toNat]?=some v/\y=(⟨v,e.1.aH⟩:fP))
 |[],k,c,a,p,i,_,w,A,B,L,h,C=>by
  cases c with
  |cons=>simp at A
  |nil=>
   rw[List.foldl_nil,Int.mul_one]at h;obtain⟨v,M,_⟩:=u.get B (by omega);unfold ry oe;rw[dO B,Tq,M,re];exact⟨_,_,_,rfl,C,rfl,v,M,rfl⟩
 |x::xs,k,c,a,p,i,P,w,A,B,L,h,C=>by
  cases c with
  |nil=>simp at A
  |cons d c=>
   have Q:=aX w;have H:∀n∈d::c,1<=n:=λn j=>u.sh.pos n (a7 (w▸j));have R:=H d Zq;have XX:=h;rw[D8]at h;have S:=xh λn j=>H n (Zg _ j);have o:p*(d*c.foldl (·*·) 1)<=4096:=by rw[h];exact u.sh.le
   have Vj:=ad2 (λn j=>H n (Zg _ j)) (by omega) R S o;have T:=P x Zq;have q:∀(f:Int)(n:Int64)(E:I (so×bk)),CK mem E->mI (uF mem env x d) f n (λa b=>b=a)->
       ∃t r g,BG N e k a (λbO eN=>ry N e env mem xs (k+1) bO eN) f n E=some (t,r,g)/\CK mem g/\mI (oe mem env (x::xs) (d::c) a) r t (λb y=>∃v,e.1.eD[b.toNat]?=some v/\y=(⟨v,e.1.aH⟩:fP)):=by
    intro f n E J F;unfold BG oe;cases W:uF mem env x d with
    |error z=>
     rw[W]at F;obtain⟨rfl,hz⟩:=F;rw[Ue.2 hz,Tq];exact⟨_,_,_,rfl,J,rfl,hz⟩
    |ok m=>
     rw[W]at F;obtain⟨rfl,rfl⟩:=F;rw[show((0:Int) !=0)=false from rfl,T6,ZK,Q,re,aew,re];simp only;cases hc:(decide (n.toInt<0)||decide (n.toInt>=d))with
     |true=>exact⟨_,_,_,rfl,J,rfl,by decide⟩
     |false=>
      rw[T6,T6];rw[Yt,UN,UN]at hc;obtain⟨k1,k2,k3,k4⟩:=DO (n:=n.toInt) (d:=d) B L (by omega) (by omega) S o;simp only;rw[show((0:Int) !=0)=false from rfl,T6,k4];exact adA N G mem K env e u xs (k+1) c _ (p*d) E (λy hy=>P y (Zg _ hy)) (kM w) (by simpa using A) k1 k2 (by rw[an];exact h) J
   unfold ry;cases hb:(bL x.de==bL (bs []))with
   |true=>
    rw[Tq,GM N G _ _ T.l,re];refine q _ _ _ C ?_;unfold uF;rw[hb,Tq];cases he:((dB x.bN env).2 !=0)with
    |true=>exact⟨rfl,by simpa using he⟩
    |false=>exact⟨by simpa using he,rfl⟩
   |false=>
    rw[T6,ZK,Q,re];obtain⟨n,f,g,h1,h2,h3⟩:=asB N G mem K env x T.a d R Vj i C;rw[h1,re];refine q _ _ _ h2 ?_;unfold uF;rw[hb,T6];exact h3
def ac2(N:Nat)(r:2147483648<N)(mem:I aL)(env:I aJ)(t:bk)(l:xY t):∀(xs:I c8)(k:Nat)(c:I Int)(a p:Int),(∀x∈xs,LW x)->t.aR.drop k=c->xs.length=c.length->0<=a->a<p->p*c.foldl (·*·) 1=t.aR.foldl (·*·) 1->
 ∃b o,EM N t mem env xs k a=some (b,o)/\mI (oe mem env xs c a) o b (λx y=>y=x)
 |[],k,c,a,p,_,g,h,u,v,i=>by
  cases c with
  |cons=>simp at h
  |nil=>
   unfold EM oe;exact⟨_,_,rfl,rfl,rfl⟩
 |x::xs,k,c,a,p,w,g,h,u,v,i=>by
  cases c with
  |nil=>simp at h
  |cons d c=>
   have F:=aX g;have q:∀n∈d::c,1<=n:=λn e=>l.sh.pos n (a7 (g▸e));have A:=q d Zq;rw[D8]at i;have B:=xh λn e=>q n (Zg _ e);have f:p*(d*c.foldl (·*·) 1)<=4096:=by rw[i];exact l.sh.le
   have G:=ad2 (λn e=>q n (Zg _ e)) (by omega) A B f;unfold EM oe;rw[ZK,F,re];obtain⟨n,o,H,j⟩:=aqG N r mem env x (w x Zq) d A G;rw[H,re];cases C:uF mem env x d with
   |error z=>
    rw[C]at j;obtain⟨rfl,E⟩:=j;simp only;rw[Ue.2 E,Tq];exact⟨_,_,rfl,rfl,E⟩
   |ok m=>
    rw[C]at j;obtain⟨rfl,rfl⟩:=j;simp only;rw[show((0:Int) !=0)=false from rfl,T6];cases e:decide (n.toInt<0)with
    |true=>exact⟨_,_,rfl,rfl,by decide⟩
    |false=>
     rw[T6,re,b7];cases J:decide (n.toInt>=d)with
     |true=>exact⟨_,_,rfl,rfl,by decide⟩
     |false=>
      rw[T6,T6];rw[UN]at J e;obtain⟨K,L,Q,M⟩:=DO (n:=n.toInt) (d:=d) u v (by omega) (by omega) B f;rw[M];exact ac2 N r mem env t l xs (k+1) c _ (p*d) (λy P=>w y (Zg _ P)) (kM g) (by simpa using h) K L (by rw[an];exact i)
def F0(mem:I aL)(env:I aJ)(e:az):Except Int (aB×aM):=match mL mem e.ay with
 | .error z=>.error z
 | .ok t=>bif (e.xIdx.length:Int) !=(t.aR.length:Int)then .error 11 else match oe mem env e.xIdx t.aR 0 with
   | .error z=>.error z
   | .ok a=>match t.eD[a.toNat]? with
     |some v=>.ok (v,t.aH)
     |none=>.error 1
def ae4:aM:=⟨3,0,0,0,0⟩
def rp(mem:I aL)(env:I aJ)(e:az):Except Int (aB×aM):=bif e.aD==1 then .ok (e.dP,e.aH)else bif e.aD==2 then(bif (dB e.bN env).2 !=0 then .error (dB e.bN env).2 else bif decide ((dB e.bN env).1.toInt>2147483647)||decide ((dB e.bN env).1.toInt< -2147483647)then .error 3 else .ok (⟨(dB e.bN env).1,1⟩,ae4))else F0 mem env e
structure E4(e:az):Prop where
 l:e.bN.xL.length<=4611686018427387904
 x:∀x∈e.xIdx,LW x
def aoP(N:Nat)(j:2147483648<N)(mem:I aL)(k:mem.length<=4611686018427387904)(env:I aJ)(e:az)(q:E4 e)(g:I (so×bk))(r:CK mem g):
 ∃t c a,Jo N env e mem g=some (t,c,a)/\CK mem a/\mI (F0 mem env e) c t (λx y=>y=(⟨x.1,x.2⟩:fP)):=by
 unfold Jo;obtain⟨t,c,a,u,h,d⟩:=aet N j mem k e.ay g r;rw[u,re];unfold F0;cases i:mL mem e.ay with
 |error z=>
  rw[i]at d;obtain⟨rfl,l⟩:=d;simp only;rw[Ue.2 l,Tq];exact⟨_,_,_,rfl,h,rfl,l⟩
 |ok E=>
  rw[i]at d;obtain⟨rfl,rfl⟩:=d;simp only;rw[show((0:Int) !=0)=false from rfl,T6];have w:=IS (Gy i).2;cases A:((e.xIdx.length:Int) !=(t.aR.length:Int))with
  |true=>exact⟨_,_,_,rfl,h,rfl,by decide⟩
  |false=>
   rw[T6,T6];have B:e.xIdx.length=t.aR.length:=by
     have:(e.xIdx.length:Int)=t.aR.length:=by simpa using A
     omega
   obtain⟨y,c,F,q1,C,f⟩:=adA N j mem k env (t,0,a) w e.xIdx 0 t.aR 0 1 a q.x rfl B (by decide) (by decide) (bf _) h;rw[q1];refine⟨_,_,_,rfl,C,?_⟩;cases n:oe mem env e.xIdx t.aR 0 with
   |error z=>rw[n]at f;exact f
   |ok b=>
    rw[n]at f;obtain⟨rfl,v,o,rfl⟩:=f;simp only at o ⊢;rw[o];exact⟨rfl,rfl⟩
def ahB(N:Nat)(g:2147483648<N)(mem:I aL)(j:mem.length<=4611686018427387904)(env:I aJ)(e:az)(h:E4 e)(c:I (so×bk))(a:CK mem c):
 ∃t d f,Oc N env e mem c=some (t,d,f)/\CK mem f/\mI (rp mem env e) d t (λx y=>y=(⟨x.1,x.2⟩:fP)):=by
 unfold Oc rp;cases o:(e.aD==1)with
 |true=>exact⟨_,_,_,rfl,a,rfl,rfl⟩
 |false=>
  rw[T6,T6];cases q:(e.aD==2)with
  |true=>
   rw[Tq,Tq,GM N g _ _ h.l,re];unfold MX;cases i:((dB e.bN env).2 !=0)with
   |true=>
    have b:(dB e.bN env).2≠0:=by simpa using i
    rw[show((dB e.bN env).2==0)=false by rw[Tv];exact b,T6,re,T6];exact⟨_,_,_,rfl,a,rfl,b⟩
   |false=>
    have b:(dB e.bN env).2=0:=by simpa using i
    rw[b,show((0:Int)==0)=true from rfl,Tq,T6];cases r:decide ((dB e.bN env).1.toInt>2147483647)with
    |true=>exact⟨_,_,_,rfl,a,rfl,by decide⟩
    |false=>
     rw[T6,re,b7];cases u:decide ((dB e.bN env).1.toInt< -2147483647)with
     |true=>exact⟨_,_,_,rfl,a,rfl,by decide⟩
     |false=>exact⟨_,_,_,rfl,a,rfl,rfl⟩
  |false=>
   rw[T6,T6];obtain⟨t,d,f,q1,k,n⟩:=aoP N g mem j env e h c a;rw[q1,re];exact⟨_,_,_,rfl,k,n⟩
def ah9(N:Nat)(i:2147483648<N)(mem:I aL)(env:I aJ)(e:az)(k:E4 e):
 ∃g,JA N mem env e=some g/\mI (rp mem env e) g.xE g (λx y=>y.xV=x.1/\y.xT=x.2)/\(g.xE≠0->g.xV=cf/\g.xT=dZ):=by
 unfold JA rp;cases C:(e.aD==1)with
 |true=>exact⟨_,rfl,⟨rfl,rfl,rfl⟩,λh=>absurd rfl h⟩
 |false=>
  rw[T6,T6];cases E:(e.aD==2)with
  |true=>
   rw[Tq,Tq,Gr N i _ _ k.l,re];unfold MG;cases n:((dB e.bN env).2 !=0)with
   |true=>
    have a:(dB e.bN env).2≠0:=by simpa using n
    rw[show((dB e.bN env).2==0)=false by rw[Tv];exact a,T6,re,T6,Tq];exact⟨_,rfl,⟨rfl,a⟩,λ_=>⟨rfl,rfl⟩⟩
   |false=>
    have a:(dB e.bN env).2=0:=by simpa using n
    rw[a,show((0:Int)==0)=true from rfl,Tq,T6];cases F:decide ((dB e.bN env).1.toInt>2147483647)with
    |true=>exact⟨_,rfl,⟨rfl,by decide⟩,λ_=>⟨rfl,rfl⟩⟩
    |false=>
     rw[T6,re,b7];cases G:decide ((dB e.bN env).1.toInt< -2147483647)with
     |true=>exact⟨_,rfl,⟨rfl,by decide⟩,λ_=>⟨rfl,rfl⟩⟩
     |false=>exact⟨_,rfl,⟨rfl,rfl,rfl⟩,λh=>absurd rfl h⟩
  |false=>
   rw[T6,T6,afA N i,re];unfold F0;cases o:mL mem e.ay with
   |error z=>
    have a:=UH o;simp only;rw[Ue.2 a,Tq];exact⟨_,rfl,⟨rfl,a⟩,λ_=>⟨rfl,rfl⟩⟩
   |ok t=>
    simp only;rw[show((0:Int) !=0)=false from rfl,T6];have d:=IS (Gy o).2;unfold Ql;cases w:((e.xIdx.length:Int) !=(t.aR.length:Int))with
    |true=>exact⟨_,rfl,⟨rfl,by decide⟩,λ_=>⟨rfl,rfl⟩⟩
    |false=>
     rw[T6,T6];have q:e.xIdx.length=t.aR.length:=by
       have:(e.xIdx.length:Int)=t.aR.length:=by simpa using w
       omega
     obtain⟨b,H,q1,f⟩:=ac2 N i mem env t d e.xIdx 0 t.aR 0 1 k.x rfl q (by decide) (by decide) (bf _);have A:=afr mem env e.xIdx t.aR 0 1 (by decide) (by decide) d.sh.pos q (by rw[bf];exact d.sh.le);rw[q1,re];cases j:oe mem env e.xIdx t.aR 0 with
     |error z=>
      rw[j]at f;obtain⟨rfl,a⟩:=f;simp only;rw[Ue.2 a,Tq];exact⟨_,rfl,⟨rfl,a⟩,λ_=>⟨rfl,rfl⟩⟩
     |ok c=>
      rw[j]at f;obtain⟨rfl,rfl⟩:=f;obtain⟨r,u⟩:=A b j;rw[bf]at u;obtain⟨v,B,_⟩:=d.get r u;simp only;rw[show((0:Int) !=0)=false from rfl,T6,dO r,Tq,B,re];exact⟨_,rfl,⟨rfl,rfl,rfl⟩,λh=>absurd rfl h⟩
def aif{mem:I aL}{env:I aJ}{e:az}(h1:e.aD=1->dz e.aH=true/\dI e.aH e.dP=true){x:aB×aM}(h:rp mem env e= .ok x):dz x.2=true/\dI x.2 x.1=true:=by
 unfold rp at h;cases a:(e.aD==1)with
 |true=>
  rw[a,Tq]at h;cases h;exact h1 (by simpa using a)
 |false=>
  rw[a,T6]at h;cases g:(e.aD==2)with
  |true=>
   rw[g,Tq]at h;cases i:((dB e.bN env).2 !=0)with
   |true=>rw[i]at h;cases h
   |false=>
    rw[i,T6]at h;cases b:(decide ((dB e.bN env).1.toInt>2147483647)||decide ((dB e.bN env).1.toInt< -2147483647))with
    |true=>rw[b]at h;cases h
    |false=>
     rw[b,T6]at h;cases h;rw[Yt,UN,UN]at b;refine⟨rfl,?_⟩;unfold dI ae4;simp only;rw[show((3:Int)==2)=false from rfl,T6,show((3:Int)==3)=true from rfl,Tq,dO (show(dB e.bN env).1.toInt<=2147483647 by omega),dO (show-2147483647<=(dB e.bN env).1.toInt by omega)];rfl
  |false=>
   rw[g,T6]at h;unfold F0 at h;cases d:mL mem e.ay with
   |error z=>rw[d]at h;cases h
   |ok t=>
    rw[d]at h;simp only at h;have j:=IS (Gy d).2;cases k:((e.xIdx.length:Int) !=(t.aR.length:Int))with
    |true=>rw[k]at h;cases h
    |false=>
     rw[k,T6]at h;cases l:oe mem env e.xIdx t.aR 0 with
     |error z=>rw[l]at h;cases h
     |ok c=>
      rw[l]at h;simp only at h;cases f:t.eD[c.toNat]? with
      |none=>rw[f]at h;cases h
      |some v=>rw[f]at h;cases h;exact⟨j.ty,j.Ve v (ZY f)⟩
def ji(a b:aM):Bool:=(a.bB==b.bB)&&((a.bW==b.bW)&&((a.ck==b.ck)&&((a.ct==b.ct)&&((a.cC==b.cC)&&true))))
def asD{a b:aM}:ji a b=true↔a=b:=by
 unfold ji;simp only[Zr,Ua,Bool.and_true];constructor;{rintro⟨c,d,e,f,g⟩;cases a;cases b;simp_all};{rintro rfl;exact⟨rfl,rfl,rfl,rfl,rfl⟩}
def qc(t:aM)(r:aB×Int):Except Int (aB×aM):=bif r.2 !=0 then .error r.2 else .ok (r.1,t)
def ye(a c:Int):Bool:=bif a==13 then decide (c<0)else bif a==14 then decide (c<=0)else c==0
def ky{α β:Type}(r:Except Int α)(f:α->Except Int β):Except Int β:=match r with
 | .ok x=>f x
 | .error z=>.error z
mutual
def fA(mem:I aL)(env:I aJ)(e:az):Except Int (aB×aM):=
 bif decide (e.aD<=3)then rp mem env e else
 match h:e.bS with
 |[a]=>ky (fA mem env a) λx=>bif e.aD==12 then qc e.aH (Dr x.2 e.aH x.1)else qc x.2 (ml 8 x.2 x.1 x.1)
 |[a,b]=>ky (fA mem env a) λx=>ky (fA mem env b) λy=>bif ji x.2 y.2 then qc x.2 (ml e.aD x.2 x.1 y.1)else .error 10
 |[c,a,b]=>ky (kx mem env c) λt=>bif t then fA mem env a else fA mem env b
 |_=>.error 1
termination_by SizeOf.sizeOf e
decreasing_by all_goals (exact vq (by rw[h];simp))
def kx(mem:I aL)(env:I aJ)(e:az):Except Int Bool:=
 match h:e.bS with
 |[a]=>ky (kx mem env a) λt=>.ok (!t)
 |[a,b]=>bif decide (e.aD<16)then ky (fA mem env a) λx=>ky (fA mem env b) λy=>(bif ji x.2 y.2 then .ok (ye e.aD (lr x.2 x.1 y.1))else .error 10)else ky (kx mem env a) λs=>ky (kx mem env b) λt=>.ok (bif e.aD==16 then s&&t else s||t)
 |_=>.error 1
termination_by SizeOf.sizeOf e
decreasing_by all_goals (exact vq (by rw[h];simp))
end
def acd{mem:I aL}{env:I aJ}{e:az}(h:e.aD<=3):fA mem env e=rp mem env e:=by
 rw[fA,dO h,Tq]
def Lj{mem:I aL}{env:I aJ}{e a:az}(h:¬e.aD<=3)(b:e.bS=[a]):fA mem env e=ky (fA mem env a) λx=>bif e.aD==12 then qc e.aH (Dr x.2 e.aH x.1)else qc x.2 (ml 8 x.2 x.1 x.1):=by
 rw[fA,Zx h,T6];split<;>simp_all
def agB{mem:I aL}{env:I aJ}{e a b:az}(h:¬e.aD<=3)(c:e.bS=[a,b]):fA mem env e=ky (fA mem env a) λx=>ky (fA mem env b) λy=>bif ji x.2 y.2 then qc x.2 (ml e.aD x.2 x.1 y.1)else .error 10:=by
 rw[fA,Zx h,T6];split<;>simp_all
def aan{mem:I aL}{env:I aJ}{e c a b:az}(h:¬e.aD<=3)(d:e.bS=[c,a,b]):fA mem env e=ky (kx mem env c) λt=>bif t then fA mem env a else fA mem env b:=by
 rw[fA,Zx h,T6];split<;>simp_all
def adK{mem:I aL}{env:I aJ}{e a:az}(b:e.bS=[a]):kx mem env e=ky (kx mem env a) λt=>.ok (!t):=by
 rw[kx];split<;>simp_all
def Ms{mem:I aL}{env:I aJ}{e a b:az}(c:e.bS=[a,b]):kx mem env e=bif decide (e.aD<16)then ky (fA mem env a) λx=>ky (fA mem env b) λy=>(bif ji x.2 y.2 then .ok (ye e.aD (lr x.2 x.1 y.1))else .error 10)else ky (kx mem env a) λs=>ky (kx mem env b) λt=>.ok (bif e.aD==16 then s&&t else s||t):=by
 rw[kx];split<;>simp_all
structure Ev(e:az):Prop where
 v:∀y∈dQ e,oI y=0
 f:∀y∈dQ e,E4 y
def Ev.arg{e x:az}(h:Ev e)(b:x∈e.bS):Ev x:=⟨λy a=>h.v y (I5 b a),λy a=>h.f y (I5 b a)⟩
def Ev.here{e:az}(h:Ev e):oI e=0:=h.v e Zq
structure Fh(e:az):Prop where
 lo:1<=e.aD
 hi:e.aD<=18
 Zm:(e.bS.length:Int)=py e.aD
 lit:e.aD=1->dz e.aH=true/\dI e.aH e.dP=true
 cast:e.aD=12->dz e.aH=true
 want:∀(i:Nat)(x:az),e.bS[i]?=some x->fq x=jT e.aD i
def aaY(b:Int):∀(l:I az)(k:Nat),xd b k l=true->∀(i:Nat)(x:az),l[i]?=some x->fq x=jT b (k+i)
 |[],_,_,i,x,a=>by simp at a
 |y::l,k,h,i,x,a=>by
  unfold xd at h;rw[Zr,Ua]at h;cases i with
  |zero=>cases a;exact h.1
  |succ i=>
   rw[show k+(i+1)=k+1+i by omega];exact aaY b l (k+1) h.2 i x a
def Ev.n{e:az}(h:Ev e):Fh e:=by
 obtain⟨c,k,d,a,f⟩:=Uj h.here;unfold qE at c;unfold qI at d;unfold pg at a;unfold wL at f;simp only[Zr,UR,Ua]at c d a f;refine⟨c.1,c.2.1,d.1,λh=> ?_,λh=> ?_,λi x j=> ?_⟩;{have b:=a.1;have g:=f.1;rw[h]at b g;exact⟨by simpa using b,by simpa using g⟩}
 ·have b:=a.1;rw[h]at b
  simpa using b
 ·have:=aaY e.aD e.bS 0 a.2 i x j
  rwa [ZQ]at this
def abq{e:az}(h:Fh e):fq e=decide (13<=e.aD):=by
 unfold fq;rw[dO h.hi,Bool.and_true]
def Ru{α:Type}{l:I α}(h:(l.length:Int)=1):∃a,l=[a]:=by
 match l,h with
 |[a],_=>exact⟨a,rfl⟩
 |[],h=>simp at h
 |_::_::_,h=>simp only[Zl]at h;omega
def ad1{α:Type}{l:I α}(h:(l.length:Int)=2):∃a b,l=[a,b]:=by
 match l,h with
 |[a,b],_=>exact⟨a,b,rfl⟩
 |[],h=>simp at h
 |[_],h=>simp at h
 |_::_::_::_,h=>simp only[Zl]at h;omega
def akH{α:Type}{l:I α}(h:(l.length:Int)=3):∃a b c,l=[a,b,c]:=by
 match l,h with
 |[a,b,c],_=>exact⟨a,b,c,rfl⟩
 |[],h=>simp at h
 |[_],h=>simp at h
 |[_,_],h=>simp at h
 |_::_::_::_::_,h=>simp only[Zl]at h;omega
inductive aaF(e:az):Prop
 |leaf (h:e.aD<=3)
 |cast (a:az) (h:e.bS=[a]) (ho:e.aD=12)
 |neg (a:az) (h:e.bS=[a]) (ho:e.aD=8)
 |bin (a b:az) (h:e.bS=[a,b]) (ho:4<=e.aD/\e.aD<=10/\e.aD≠8)
 |ite (c a b:az) (h:e.bS=[c,a,b]) (ho:e.aD=11)
inductive aa4(e:az):Prop
 |not (a:az) (h:e.bS=[a]) (ho:e.aD=18)
 |cmp (a b:az) (h:e.bS=[a,b]) (ho:13<=e.aD/\e.aD<=15)
 |log (a b:az) (h:e.bS=[a,b]) (ho:e.aD=16\/e.aD=17)
def ae1{e:az}(h:Fh e)(k:fq e=false):aaF e:=by
 rw[abq h,UN]at k;have o:=h.lo;have d:=h.Zm;by_cases n:e.aD<=3;{exact .leaf n}
 ·unfold py at d;rw[show(e.aD==1)=false by rw[Tv];omega,show(e.aD==2)=false by rw[Tv];omega,show(e.aD==3)=false by rw[Tv];omega]at d;simp only[Bool.or_false,b7,T6]at d;by_cases g:e.aD=8
  ·rw[g]at d;obtain⟨a,f⟩:=Ru (l:=e.bS) d;exact .neg a f g
  ·by_cases i:e.aD=12
   ·rw[i]at d;obtain⟨a,f⟩:=Ru (l:=e.bS) d;exact .cast a f i
   ·rw[show(e.aD==8)=false by rw[Tv];exact g,show(e.aD==12)=false by rw[Tv];exact i,show(e.aD==18)=false by rw[Tv];omega]at d;simp only[Bool.or_false,b7,T6]at d;by_cases j:e.aD=11
    ·rw[j]at d;obtain⟨a,b,c,f⟩:=akH (l:=e.bS) d;exact .ite a b c f j
    ·rw[show(e.aD==11)=false by rw[Tv];exact j,T6]at d;obtain⟨a,b,f⟩:=ad1 d;exact .bin a b f ⟨by omega,by omega,g⟩
def kc{e:az}(h:Fh e)(g:fq e=true):aa4 e:=by
 rw[abq h,UR]at g;have j:=h.hi;have c:=h.Zm;unfold py at c;rw[show(e.aD==1)=false by rw[Tv];omega,show(e.aD==2)=false by rw[Tv];omega,show(e.aD==3)=false by rw[Tv];omega,show(e.aD==8)=false by rw[Tv];omega,show(e.aD==12)=false by rw[Tv];omega,show(e.aD==11)=false by rw[Tv];omega]at c;simp only[Bool.or_false,b7,T6]at c;by_cases f:e.aD=18;{rw[f]at c;obtain⟨a,d⟩:=Ru (l:=e.bS) c;exact .not a d f}
 ·rw[show(e.aD==18)=false by rw[Tv];exact f,T6]at c;obtain⟨a,b,d⟩:=ad1 c;by_cases i:e.aD<=15
  ·exact .cmp a b d ⟨g,i⟩
  ·exact .log a b d (by omega)
def QA(r:Except Int (aB×aM))(a:Int)(t:fP):Prop:=mI r a t λx y=>y.iQ=x.1/\y.gw=x.2/\dz x.2=true
def AgH(r:Except Int Bool)(a:Int)(b:Bool):Prop:=match r with
 | .ok x=>a=0/\b=x
 | .error z=>a=z/\z≠0/\b=false
def WC{t:aM}{r:aB×Int}(a:dz t=true):QA (qc t r) r.2 (⟨r.1,t⟩:fP):=by
 unfold qc;cases h:(r.2 !=0)with
 |true=>exact⟨rfl,by simpa using h⟩
 |false=>exact⟨by simpa using h,rfl,rfl,a⟩
structure O4(N:Nat)(mem:List aL)(env:List aJ)(e:az):Prop where
 v:fq e=false->∀(d:Nat)(kv:List (ByteArray×bk)),3*SizeOf.sizeOf e<=d->CK mem kv->∃t er eP,m4 N d e env mem kv=some (t,er,eP)/\CK mem eP/\QA (fA mem env e) er t
 h:fq e=true->∀(d:Nat)(kv:List (ByteArray×bk)),3*SizeOf.sizeOf e<=d->CK mem kv->∃b er eP,qM N d e env mem kv=some (b,er,eP)/\CK mem eP/\AgH (kx mem env e) er b
def aj9(N:Nat)(env:I aJ)(e:az)(mem:I aL)(a:I (so×bk))(d:Nat):m4 N (d+1) e env mem a=zy N env e mem a (qM N d) (m4 N d) (rR N d) (e.aD==1||(e.aD==2||e.aD==3)):=by
 rw[m4];cases b:(e.aD==1)with
 |true=>rfl
 |false=>
  cases c:(e.aD==2)with
  |true=>rfl
  |false=>rfl
def anD{e:az}(h:Fh e):(e.aD==1||(e.aD==2||e.aD==3))=decide (e.aD<=3):=by
 have:=h.lo;by_cases a:e.aD<=3
 ·rw[dO a];have:e.aD=1\/e.aD=2\/e.aD=3:=by omega
  rcases this with h|h|h<;>rw[h]<;>rfl
 ·rw[Zx a,show(e.aD==1)=false by rw[Tv];omega,show(e.aD==2)=false by rw[Tv];omega,show(e.aD==3)=false by rw[Tv];omega];rfl
def abF{N:Nat}{mem:I aL}{env:I aJ}{e a b:az}(F:e.bS=[a,b])(A:O4 N mem env a)(B:O4 N mem env b)(G:fq a=false)(H:fq b=false)(d:Nat)(i:I (so×bk))(l:3*SizeOf.sizeOf a<=d/\3*SizeOf.sizeOf b<=d)(J:CK mem i):
 ∃x y c j,zl N (d+1) e env mem i=some (x,y,c,j)/\CK mem j/\mI (ky (fA mem env a) λp=>ky (fA mem env b) λq=>bif ji p.2 q.2 then .ok (p,q)else .error 10) c (x,y) λp r=>r.1.iQ=p.1.1/\r.1.gw=p.1.2/\r.2.iQ=p.2.1/\r.2.gw=p.2.2/\dz p.1.2=true:=by
 rw[zl,F];simp only[List.getElem?_cons_zero,Z2,re];obtain⟨t,c,K,L,n,g⟩:=A.v G d i l.1 J;rw[L,re];cases o:fA mem env a with
 |error z=>
  rw[o]at g;obtain⟨rfl,f⟩:=g;simp only;rw[Ue.2 f,Tq];exact⟨_,_,_,_,rfl,n,rfl,f⟩
 |ok p=>
  rw[o]at g;obtain⟨rfl,M,w,P⟩:=g;simp only;rw[show((0:Int) !=0)=false from rfl,T6];obtain⟨u,c,R,q1,k,h⟩:=B.v H d K l.2 n;rw[q1,re];unfold Ju;cases C:fA mem env b with
  |error z=>
   rw[C]at h;obtain⟨rfl,f⟩:=h;simp only;rw[show(c==0)=false by rw[Tv];exact f,T6,re,T6];exact⟨_,_,_,_,rfl,k,rfl,f⟩
  |ok q=>
   rw[C]at h;obtain⟨rfl,Q,E,S⟩:=h;simp only;rw[show((0:Int)==0)=true from rfl,Tq,re];show ∃x y c j,(bif !(ji t.gw u.gw)then _ else _)=_/\_/\mI (bif ji p.2 q.2 then _ else _) _ _ _;rw[w,E];cases ji p.2 q.2 with
   |true=>exact⟨_,_,_,_,rfl,k,rfl,M,w,Q,E,P⟩
   |false=>exact⟨_,_,_,_,rfl,k,rfl,by decide⟩
def mch(N:Nat)(hN:9223372036854775808<N)(mem:I aL)(hm:mem.length<=4611686018427387904)(env:I aJ):∀(n:Nat)(e:az),SizeOf.sizeOf e<=n->Ev e->O4 N mem env e:=by
 intro n
 induction n with
 |zero=>intro e hs _;have:0<SizeOf.sizeOf e:=by cases e;simp;omega
        omega
 |succ n ih=>
  intro e hs hv;have E:=hv.n;have iV:0<SizeOf.sizeOf e:=by cases e;simp;omega
  have o:∀x∈e.bS,O4 N mem env x/\3*SizeOf.sizeOf x+3<=3*SizeOf.sizeOf e:=λx hx=>by
   have:=vq hx;exact⟨ih x (by omega) (hv.arg hx),by omega⟩
  constructor
  ·intro hc d P hd Q;obtain⟨d,rfl⟩:∃L,d=L+1:=⟨d-1,by omega⟩;rw[aj9,anD E];unfold zy;cases ae1 E hc with
   |leaf J=>
    rw[dO J,Tq,acd J];obtain⟨t,G,eP,H,l,g⟩:=ahB N (by omega) mem hm env e (hv.f e Zq) P Q;rw[H,re];refine⟨_,_,_,rfl,l,?_⟩;cases hl:rp mem env e with
    |error z=>rw[hl]at g;exact g
    |ok x=>
     rw[hl]at g;obtain⟨rfl,rfl⟩:=g;exact⟨rfl,rfl,rfl,(aif E.lit hl).1⟩
   |cast a j F=>
    have J:¬e.aD<=3:=by omega
    have Hy:a∈e.bS:=by rw[j];simp
    obtain⟨A,pj⟩:=o a Hy;have K:fq a=false:=by rw[E.want 0 a (by rw[j];rfl),F];rfl
    rw[Zx J,T6,show(e.aD==11)=false by rw[F];rfl,T6,Lj J j,F];obtain⟨d,rfl⟩:∃L,d=L+1:=⟨d-1,by omega⟩;rw[rR,j,F];simp only[List.getElem?_cons_zero,re,Int.reduceBEq,T6,Tq];obtain⟨t,G,og,H,l,g⟩:=A.v K d P (by omega) Q;rw[H,re];cases M:fA mem env a with
    |error z=>
     rw[M]at g;obtain⟨rfl,k⟩:=g;simp only;rw[Ue.2 k,Tq,re];exact⟨_,_,_,rfl,l,rfl,k⟩
    |ok p=>
     rw[M]at g;obtain⟨rfl,R,S,T⟩:=g;simp only;rw[show((0:Int) !=0)=false from rfl,T6,an2 N hN,re,re,R,S];exact⟨_,_,_,rfl,l,WC (E.cast F)⟩
   |neg a j F=>
    have J:¬e.aD<=3:=by omega
    have Hy:a∈e.bS:=by rw[j];simp
    obtain⟨A,pj⟩:=o a Hy;have K:fq a=false:=by rw[E.want 0 a (by rw[j];rfl),F];rfl
    rw[Zx J,T6,show(e.aD==11)=false by rw[F];rfl,T6,Lj J j,F];obtain⟨d,rfl⟩:∃L,d=L+1:=⟨d-1,by omega⟩;rw[rR,j,F];simp only[List.getElem?_cons_zero,re,Int.reduceBEq,T6,Tq];obtain⟨t,G,og,H,l,g⟩:=A.v K d P (by omega) Q;rw[H,re];cases M:fA mem env a with
    |error z=>
     rw[M]at g;obtain⟨rfl,k⟩:=g;simp only;rw[Ue.2 k,Tq,re];exact⟨_,_,_,rfl,l,rfl,k⟩
    |ok p=>
     rw[M]at g;obtain⟨rfl,R,S,T⟩:=g;simp only;rw[show((0:Int) !=0)=false from rfl,T6,Ux N hN,re,re,R,S];exact⟨_,_,_,rfl,l,WC T⟩
   |bin a b j F=>
    have J:¬e.aD<=3:=by omega
    obtain⟨A,pj⟩:=o a (by rw[j];simp);obtain⟨B,yS⟩:=o b (by rw[j];simp);have w0:jT e.aD 0=false:=by
     unfold jT;rw[show(e.aD==11)=false by rw[Tv];omega,show(e.aD==16)=false by rw[Tv];omega,show(e.aD==17)=false by rw[Tv];omega,show(e.aD==18)=false by rw[Tv];omega];rfl
    have w1:jT e.aD 1=false:=by
     unfold jT;rw[show(e.aD==11)=false by rw[Tv];omega,show(e.aD==16)=false by rw[Tv];omega,show(e.aD==17)=false by rw[Tv];omega,show(e.aD==18)=false by rw[Tv];omega];rfl
    have K:fq a=false:=by rw[E.want 0 a (by rw[j];rfl),w0]
    have cb:fq b=false:=by rw[E.want 1 b (by rw[j];rfl),w1]
    rw[Zx J,T6,show(e.aD==11)=false by rw[Tv];omega,T6,agB J j];obtain⟨d,rfl⟩:∃L,d=L+1+1:=⟨d-2,by omega⟩;rw[rR,show(e.aD==8)=false by rw[Tv];omega,T6,show(e.aD==12)=false by rw[Tv];omega,re,T6];obtain⟨x,y,G,eP,H,l,g⟩:=abF (e:=e) j A B K cb d P ⟨by omega,by omega⟩ Q;rw[H,re];cases M:fA mem env a with
    |error z=>
     rw[M]at g;obtain⟨rfl,k⟩:=g;simp only;rw[Ue.2 k,Tq,re];exact⟨_,_,_,rfl,l,rfl,k⟩
    |ok p=>
     rw[M]at g;cases rV:fA mem env b with
     |error z=>
      rw[rV]at g;obtain⟨rfl,k⟩:=g;simp only;rw[Ue.2 k,Tq,re];exact⟨_,_,_,rfl,l,rfl,k⟩
     |ok q=>
      rw[rV]at g;show ∃t G eP,_=_/\_/\QA (bif ji p.2 q.2 then qc p.2 (ml e.aD p.2 p.1 q.1)else .error 10) G t;replace g:mI (bif ji p.2 q.2 then .ok (p,q)else .error 10) G (x,y) λp r=>r.1.iQ=p.1.1/\r.1.gw=p.1.2/\r.2.iQ=p.2.1/\r.2.gw=p.2.2/\dz p.1.2=true:=g;cases rK:ji p.2 q.2 with
      |false=>
       rw[rK]at g;obtain⟨rfl,k⟩:=g;simp only;rw[Ue.2 k,Tq,re];exact⟨_,_,_,rfl,l,rfl,k⟩
      |true=>
       rw[rK]at g;obtain⟨rfl,R,S,T,e4,e5⟩:=g;simp only at R S T e4 e5 ⊢;rw[show((0:Int) !=0)=false from rfl,T6,Ux N hN,re,re,R,S,T];exact⟨_,_,_,rfl,l,WC e5⟩
   |ite c a b j F=>
    have J:¬e.aD<=3:=by omega
    obtain⟨C,hsc⟩:=o c (by rw[j];simp);obtain⟨A,pj⟩:=o a (by rw[j];simp);obtain⟨B,yS⟩:=o b (by rw[j];simp);have cc:fq c=true:=by rw[E.want 0 c (by rw[j];rfl),F];rfl
    have K:fq a=false:=by rw[E.want 1 a (by rw[j];rfl),F];rfl
    have cb:fq b=false:=by rw[E.want 2 b (by rw[j];rfl),F];rfl
    rw[Zx J,T6,show(e.aD==11)=true by rw[F];rfl,Tq,aan J j,j];simp only[List.getElem?_cons_zero,Z2,re];obtain⟨t,G,og,H,l,g⟩:=C.h cc d P (by omega) Q;rw[H,re];cases W:kx mem env c with
    |error z=>
     rw[W]at g;obtain⟨rfl,k,rfl⟩:=g;simp only;rw[Ue.2 k,Tq];exact⟨_,_,_,rfl,l,rfl,k⟩
    |ok s=>
     rw[W]at g;obtain⟨rfl,rfl⟩:=g;simp only;rw[show((0:Int) !=0)=false from rfl,T6];cases t with
     |true=>
      obtain⟨u,G,MV,q1,q2,q3⟩:=A.v K d og (by omega) l;rw[Tq,q1,re];exact⟨_,_,_,rfl,q2,q3⟩
     |false=>
      obtain⟨u,G,MV,q1,q2,q3⟩:=B.v cb d og (by omega) l;rw[T6,q1,re];exact⟨_,_,_,rfl,q2,q3⟩
  ·intro hc d P hd Q;obtain⟨d,rfl⟩:∃L,d=L+1+1:=⟨d-2,by omega⟩;rw[qM,Jf];cases kc E hc with
   |not a j F=>
    obtain⟨A,pj⟩:=o a (by rw[j];simp);have K:fq a=true:=by rw[E.want 0 a (by rw[j];rfl),F];rfl
    rw[j,F,adK j,Zx (by decide),T6];simp only[List.getElem?_cons_zero,re];obtain⟨t,G,og,H,l,g⟩:=A.h K d P (by omega) Q;rw[H,re];cases W:kx mem env a with
    |error z=>
     rw[W]at g;obtain⟨rfl,k,rfl⟩:=g;simp only;rw[Ue.2 k,Tq,re,Tq,show(G==0)=false by rw[Tv];exact k,T6,re,re];exact⟨_,_,_,rfl,l,rfl,k,rfl⟩
    |ok s=>
     rw[W]at g;obtain⟨rfl,rfl⟩:=g;exact⟨_,_,_,rfl,l,rfl,rfl⟩
   |cmp a b j F=>
    obtain⟨A,pj⟩:=o a (by rw[j];simp);obtain⟨B,yS⟩:=o b (by rw[j];simp);have w:∀i,jT e.aD i=false:=λi=>by
     unfold jT;rw[show(e.aD==11)=false by rw[Tv];omega,show(e.aD==16)=false by rw[Tv];omega,show(e.aD==17)=false by rw[Tv];omega,show(e.aD==18)=false by rw[Tv];omega];rfl
    have K:fq a=false:=by rw[E.want 0 a (by rw[j];rfl),w]
    have cb:fq b=false:=by rw[E.want 1 b (by rw[j];rfl),w]
    rw[dO (show e.aD<16 by omega),Tq,Ms j,dO (show e.aD<16 by omega),Tq];obtain⟨d,rfl⟩:∃L,d=L+1:=⟨d-1,by omega⟩;obtain⟨x,y,G,eP,H,l,g⟩:=abF (e:=e) j A B K cb d P ⟨by omega,by omega⟩ Q;rw[H,re];cases M:fA mem env a with
    |error z=>
     rw[M]at g;obtain⟨rfl,k⟩:=g;simp only;rw[Ue.2 k,Tq,re];exact⟨_,_,_,rfl,l,rfl,k,rfl⟩
    |ok p=>
     rw[M]at g;cases rV:fA mem env b with
     |error z=>
      rw[rV]at g;obtain⟨rfl,k⟩:=g;simp only;rw[Ue.2 k,Tq,re];exact⟨_,_,_,rfl,l,rfl,k,rfl⟩
     |ok q=>
      rw[rV]at g;show ∃b G eP,_=_/\_/\AgH (bif ji p.2 q.2 then .ok (ye e.aD (lr p.2 p.1 q.1))else .error 10) G b;replace g:mI (bif ji p.2 q.2 then .ok (p,q)else .error 10) G (x,y) λp r=>r.1.iQ=p.1.1/\r.1.gw=p.1.2/\r.2.iQ=p.2.1/\r.2.gw=p.2.2/\dz p.1.2=true:=g;cases rK:ji p.2 q.2 with
      |false=>
       rw[rK]at g;obtain⟨rfl,k⟩:=g;simp only;rw[Ue.2 k,Tq,re];exact⟨_,_,_,rfl,l,rfl,k,rfl⟩
      |true=>
       rw[rK]at g;obtain⟨rfl,R,S,T,e4,e5⟩:=g;simp only at R S T e4 e5 ⊢;rw[show((0:Int) !=0)=false from rfl,T6,R,S,T,afd N (by omega) _ _ _ e5,re];unfold UI ye;cases (e.aD==13)with
       |true=>exact⟨_,_,_,rfl,l,rfl,rfl⟩
       |false=>
        cases (e.aD==14)with
        |true=>exact⟨_,_,_,rfl,l,rfl,rfl⟩
        |false=>exact⟨_,_,_,rfl,l,rfl,rfl⟩
   |log a b j F=>
    obtain⟨A,pj⟩:=o a (by rw[j];simp);obtain⟨B,yS⟩:=o b (by rw[j];simp);have w:∀i,jT e.aD i=true:=λi=>by
     unfold jT;rcases F with h|h<;>rw[h]<;>simp
    have K:fq a=true:=by rw[E.want 0 a (by rw[j];rfl),w]
    have cb:fq b=true:=by rw[E.want 1 b (by rw[j];rfl),w]
    rw[Zx (show ¬e.aD<16 by omega),T6,Ms j,Zx (show ¬e.aD<16 by omega),T6,j];simp only[List.getElem?_cons_zero,Z2,re];obtain⟨t,G,og,H,l,g⟩:=A.h K d P (by omega) Q;rw[H,re];cases W:kx mem env a with
    |error z=>
     rw[W]at g;obtain⟨rfl,k,rfl⟩:=g;simp only;rw[Ue.2 k,Tq,re,Tq,show(G==0)=false by rw[Tv];exact k,T6,re,re];exact⟨_,_,_,rfl,l,rfl,k,rfl⟩
    |ok s=>
     rw[W]at g;obtain⟨rfl,rfl⟩:=g;simp only;rw[show((0:Int) !=0)=false from rfl,T6,show(e.aD==18)=false by rw[Tv];omega,re,T6];obtain⟨u,G,MV,q1,q2,q3⟩:=B.h cb d og (by omega) l;rw[q1,re];cases hg:kx mem env b with
     |error z=>
      rw[hg]at q3;obtain⟨rfl,k,rfl⟩:=q3;simp only;rw[Ue.2 k,Tq,re];exact⟨_,_,_,rfl,q2,rfl,k,rfl⟩
     |ok s2=>
      rw[hg]at q3;obtain⟨rfl,rfl⟩:=q3;simp only;rw[show((0:Int) !=0)=false from rfl,T6];unfold ky;simp only;cases (e.aD==16)<;>cases t<;>exact⟨_,_,_,rfl,q2,rfl,rfl⟩
end Go.Proofs.YtnnapanbbbcalaaGreatDoor
