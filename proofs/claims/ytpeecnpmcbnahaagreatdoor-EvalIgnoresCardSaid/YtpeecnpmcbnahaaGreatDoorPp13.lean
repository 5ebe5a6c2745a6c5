/-
  Part 13 of the proof: InVal1, InVal2, InLin, InLin2, InLin3, EvA, EvB, EvC, SmV, SmVR, SmVF, EvD, InVal3, InVal4, EvE, EvF, EvG, EvH, Wts, EvI, EvJ.
-/
import Derived.Test.YtpeecnpmcbnahaaGreatDoorPp12
import Derived.Laws.Bits64
namespace Go.Proofs.YtpeecnpmcbnahaaGreatDoor
open Go.RowKit
set_option linter.unusedSimpArgs false
set_option linter.unusedVariables false
def cS(l:apf apg)(s:apg):Bool:=l.any λw=>bL w==bL s
theorem yV(N:Nat)(l:apf apg)(s:apg):xZ N l s=some (cS l s):=SN N s l 0
theorem ly(a b:apf apg)(s:apg):cS (a++b) s=(cS a s||cS b s):=List.any_append
theorem abY{s x:apg}(h:(bL s==bL x)=true)(l:apf apg):cS l x=cS l s:=by
 unfold cS;rw[beq_iff_eq.1 h]
theorem Ez(s x:apg):cS [s] x=(bL s==bL x):=by unfold cS;rw[apc,List.any_nil,Bool.or_false]
theorem ahp(N:Nat)(l:apf apg)(s:apg):Ab N l s=some (cS l s):=by
 unfold Ab Mn;obtain⟨z,J,h2⟩:=ND N s l 0;rw[J,aoq,h2];rfl
def iI(t:apf apg)(s:apg):Int:=bif ij s then bif cS t s then 8 else 0 else 7
theorem AP(N:Nat)(hN:16<N)(s:apg)(t:apf apg):Bo N s t=some (iI t s):=by
 unfold Bo iI;rw[HY N s hN,aoq,yV,aoq];cases ij s<;>cases cS t s<;>rfl
theorem Rl{t:apf apg}{s:apg}(h:iI t s=0):ij s=true/\cS t s=false:=by
 unfold iI at h;cases J:ij s<;>cases h2:cS t s<;>rw[J,h2]at h<;>first|exact⟨rfl,rfl⟩|(exact absurd h (by decide))
structure KN(m:List (ByteArray×Int))(S T:List ByteArray):Prop where
 val:∀s,gg m s 0=bif cS S s then 1 else bif cS T s then 2 else 0
 len:m.length<=S.length+T.length
 UA:∀s,cS T s=true->cS S s=false
section
variable {m:apf (apg×Int)} {S T:apf apg}
theorem KN.ne0(h:KN m S T)(s:apg):(gg m s 0 !=0)=cS (S++T) s:=by
 rw[h.val,ly];cases cS S s<;>cases cS T s<;>rfl
theorem KN.ne1(h:KN m S T)(s:apg):(gg m s 0 !=1)= !cS S s:=by
 rw[h.val];cases cS S s<;>cases cS T s<;>rfl
theorem KN.Cd(h:KN m S T)(s:apg):(gg m s 0==1)=cS S s:=by
 rw[h.val];cases cS S s<;>cases cS T s<;>rfl
theorem KN.ne2(h:KN m S T)(s:apg):(gg m s 0 !=2)= !cS T s:=by
 have:=h.UA s;rw[h.val];cases e1:cS S s<;>cases e2:cS T s<;>first|rfl|(rw[e1]at this;exact absurd (this e2) (by decide))
theorem IJ{V:Type}(k:apg)(v:V)(m:apf (apg×V))(s:apg)(d:V):gg ((k,v)::m) s d=bif bL k==bL s then v else gg m s d:=rfl
theorem KN.Yg(h:KN m S T){s:apg}(hs:cS (S++T) s=false):KN ((s,2)::m) S (T++[s]):=by
 rw[ly,ape]at hs;refine⟨λx=> ?_,by have:=h.len;simp only[aou,aos,aoD];omega,λx hx=> ?_⟩
 rotate_left
 ·rw[ly,Ez]at hx;cases e:bL s==bL x with
  |true=>rw[abY e];exact hs.1
  |false=>rw[e,Bool.or_false]at hx;exact h.UA x hx
 rw[IJ,h.val,ly,Ez];cases e:bL s==bL x with
 |true=>rw[abY e,hs.1];cases cS T x<;>rfl
 |false=>cases cS S x<;>cases cS T x<;>rfl
theorem KN.qf(h:KN m S [])(s:apg):KN ((s,1)::m) (S++[s]) []:=by
 refine⟨λx=> ?_,by have:=h.len;simp only[aou,aos,aoD]at*;omega,λx hx=>by cases hx⟩;rw[IJ,h.val,ly,Ez];cases e:bL s==bL x<;>cases cS S x<;>rfl
theorem KN.nil:KN [] [] []:=⟨λ_=>rfl,aoC _,λ_ h=>by cases h⟩
theorem Qn(N:Nat)(hN:16<N)(s:apg)(k:Int)(p:aV)(h:KN m S T)(hl:S.length+T.length<9223372036854775807):
 g_program_checker_name N s k p m=some (iI (S++T) s,bif iI (S++T) s==0 then(s,k)::m else m):=by
 unfold g_program_checker_name iI;rw[Hx N s hN,aoq,h.ne0,show Nat.blt m.length 9223372036854775807=true from Nat.ble_eq_true_of_le (by have:=h.len;omega)];cases ij s<;>cases cS (S++T) s<;>rfl
def xt(V:apf apg)(l:bp):Bool:=l.xL.all λm=>cS V m.au
def iF(S:apf apg)(l:bp):Int:=bif jj l then bif xt S l then 0 else 9 else 1
theorem aaf(N:Nat)(h:KN m S T):∀(l:apf dw)(k:Nat),HS N m l k=some (bif l.all (λm=>cS S m.au)then 0 else 9)
 |[],_=>rfl
 |x::l,k=>by
  rw[HS,h.ne1,apb,aaf N h l];cases cS S x.au<;>rfl
theorem OS(N:Nat)(hN:16<N)(l:bp)(p:aV)(hl:j7 l)(h:KN m S T):zy N l p m=some (iF S l):=by
 unfold zy iF;rw[KY N hN l hl,aoq,aaf N h];cases jj l<;>rfl
theorem abe(N:Nat)(V W:apf apg):∀(l:apf dw)(k:Nat),GN N V W l k=some (l.all λm=>cS (V++W) m.au)
 |[],_=>rfl
 |x::l,k=>by
  rw[GN,yV,yV,apb,abe N V W l,ly];cases cS V x.au<;>cases cS W x.au<;>rfl
theorem O2(N:Nat)(V W:apf apg)(l:bp):IG N l V W=some (xt (V++W) l):=abe N V W l.xL 0
theorem PB(N:Nat)(hN:16<N)(l:bp)(hl:j7 l)(S:apf apg):Fw N l S=some (iF S l):=by
 unfold Fw iF;rw[Gi N hN l hl,aoq,O2,aoq];rw[List.nil_append];cases jj l<;>cases xt S l<;>rfl
theorem xJ(n:Nat):decide ((n:Int)>6)= !decide (n<=6):=kL n 6
theorem alC(N:Nat)(t:aM)(n:Nat):xX N t [(n:Int)]=some (bif db t then bif decide (n<=6)then 0 else 11 else 10):=by
 unfold xX;rw[pw,aoq,show F1 N [(n:Int)]=some (n:Int)from rfl,aoq,xJ];cases db t<;>cases decide (n<=6)<;>rfl
theorem ab8(N:Nat)(t:aM)(n k:Nat):xX N t [(n:Int),(k:Int)]=some (bif db t then bif decide (n<=6)&&decide (k<=6)then 0 else 11 else 10):=by
 unfold xX;rw[pw,aoq,show F1 N [(n:Int),(k:Int)]=some (if(k:Int)>(n:Int)then(k:Int)else(n:Int))from rfl,aoq,It,xJ];have:decide (max n k<=6)=(decide (n<=6)&&decide (k<=6)):=by
  rw[Bool.eq_iff_iff,aot,decide_eq_true_iff,decide_eq_true_iff,decide_eq_true_iff];omega
 rw[this];cases db t<;>cases (decide (n<=6)&&decide (k<=6))<;>rfl
def fU{α:Type}(f:α->Int):apf α->Int
 |[]=>0
 |x::l=>bif f x !=0 then f x else fU f l
def tW(S T:apf apg)(x:dX):Int:=bif iI (S++T) x.au !=0 then iI (S++T) x.au else bif db x.aB then bif decide (x.aU.length<=6)then fU (iF S) x.aU else 11 else 10
theorem Zj(N:Nat)(hN:16<N)(p:aV)(q:Int×apf (apg×Int))(h:KN q.2 S T):∀(l:apf bp)(k:Nat),(∀x∈l,j7 x)->Hr N q p l k=some (fU (iF S) l,q.2)
 |[],_,_=>rfl
 |x::l,k,hx=>by
  rw[Hr,OS N hN x p (hx x aox) h,aoq,fU];cases iF S x !=0 with
  |true=>rfl
  |false=>exact Zj N hN p q h l (k+1) λy hy=>hx y (aoA _ hy)
theorem jr{a:Int}(h:(a !=0)=false):a=0:=by
 rw[bne_eq_false_iff_eq]at h;exact h
theorem alF(N:Nat)(hN:16<N)(x:dX)(p:aV)(hx:∀y∈x.aU,j7 y)(h:KN m S T)(hl:S.length+T.length<9223372036854775807):
 ∃m',GB N x p m=some (tW S T x,m')/\(tW S T x=0->KN m' S (T++[x.au])):=by
 unfold GB tW;rw[Qn N hN x.au 2 p h hl,aoq,alC];simp only[];cases e:iI (S++T) x.au !=0 with
 |true=>exact⟨_,rfl,λh0=>by rw[cond_true]at h0;rw[h0]at e;cases e⟩
 |false=>
  have e0:=jr e;have k:=h.Yg (Rl e0).2;rw[e0];simp only[apa,cond_true,cond_false];cases db x.aB with
  |false=>exact⟨_,rfl,λh0=>by cases h0⟩
  |true=>
   cases decide (x.aU.length<=6)with
   |false=>exact⟨_,rfl,λh0=>by cases h0⟩
   |true=>exact⟨_,Zj N hN p (0,(x.au,2)::m) k x.aU 0 hx,λ_=>k⟩
theorem Wm(N:Nat)(hN:16<N)(S:apf apg):∀(l:apf bp)(k:Nat),(∀x∈l,j7 x)->KG N S l k=some (fU (iF S) l)
 |[],_,_=>rfl
 |x::l,k,hx=>by
  rw[KG,PB N hN x (hx x aox),aoq,fU];cases iF S x !=0 with
  |true=>rfl
  |false=>exact Wm N hN S l (k+1) λy hy=>hx y (aoA _ hy)
theorem Ut(N:Nat)(hN:16<N)(x:dX)(S T:apf apg)(hx:∀y∈x.aU,j7 y):QK N x S (S++T)=some (tW S T x):=by
 unfold QK tW;rw[AP N hN,aoq,Hc,aoq,xJ,Wm N hN S _ _ hx];cases iI (S++T) x.au !=0<;>cases db x.aB<;>cases decide (x.aU.length<=6)<;>rfl
def qC(S:apf apg):apf apg->apf dg->Int
 |_,[]=>0
 |O,a::l=>bif iI (S++O) a.au !=0 then iI (S++O) a.au else bif iF S a.dR !=0 then iF S a.dR else qC S (O++[a.au]) l
structure ON(w:List (ByteArray×Bool))(O:List ByteArray):Prop where
 val:∀s,gg w s false=cS O s
 len:w.length<=O.length
theorem ON.add{w:apf (apg×Bool)}{O:apf apg}(h:ON w O)(s:apg):ON ((s,true)::w) (O++[s]):=by
 refine⟨λx=> ?_,by have:=h.len;simp only[aou,aos,aoD];omega⟩;rw[IJ,h.val,ly,Ez];cases bL s==bL x<;>cases cS O x<;>rfl
theorem ZH(N:Nat)(hN:16<N)(p:aV)(h:KN m S T):∀(l:apf dg)(k:Nat)(w:apf (apg×Bool))(O:apf apg),ON w O->(∀x∈l,j7 x.dR)->O.length+l.length<9223372036854775807->
 Ig N m p l k w=some (qC S O l)
 |[],_,_,_,_,_,_=>rfl
 |a::l,k,w,O,hw,hx,hl=>by
  have pv:O.length+l.length+1<9223372036854775807:=by simp only[aou]at hl;omega
  rw[Ig,Hx N _ hN,aoq,hw.val,h.Cd,OS N hN _ p (hx a aox) h,aoq,qC,
    show Nat.blt w.length 9223372036854775807=true from Nat.ble_eq_true_of_le (by have:=hw.len;omega)]
  have ih:=ZH N hN p h l (k+1) _ _ (hw.add a.au) (λy hy=>hx y (aoA _ hy)) (by simp only[aos,aou,aoD];omega);unfold iI;dsimp only;rw[ly,ih];cases ij a.au<;>cases cS S a.au<;>cases cS O a.au<;>first|rfl|(cases iF S a.dR !=0<;>rfl)
theorem aaU(N:Nat)(hN:16<N)(S:apf apg):∀(l:apf dg)(k:Nat)(O:apf apg),(∀x∈l,j7 x.dR)->S.length+O.length+l.length<1000000000->
 HZ N S l k (S++O)=some (qC S O l)
 |[],_,_,_,_=>rfl
 |a::l,k,O,hx,hl=>by
  have pv:S.length+O.length+l.length+1<1000000000:=by simp only[aou]at hl;omega
  rw[HZ,AP N hN,aoq,PB N hN _ (hx a aox),aoq,qC,
    show Nat.ble (((S++O).length+1)*16) 140737488355328=true from Nat.ble_eq_true_of_le (by rw[aos];omega)]
  have ih:=aaU N hN S l (k+1) (O++[a.au]) (λy hy=>hx y (aoA _ hy)) (by simp only[aos,aou,aoD];omega);rw[<-aoI]at ih;dsimp only;rw[ih];cases iI (S++O) a.au !=0<;>cases iF S a.dR !=0<;>rfl
theorem Uw(N:Nat)(hN:16<N)(S:apf apg)(l:apf dg)(hx:∀x∈l,j7 x.dR)(hl:S.length+l.length<1000000000):MW N l S=some (qC S [] l):=by
 unfold MW;have:=aaU N hN S l 0 [] hx (by simp only[aoD];omega);rw[aoM]at this;rw[this,show Nat.ble ((0+S.length)*16) 140737488355328=true from Nat.ble_eq_true_of_le (by omega)];rfl
theorem H6{n:Nat}(h:n<=9223372036854775807):aQ (n:Int)=(n:Int):=jd (by omega) (by omega)
theorem Ze(N:Nat)(a b:apf dg)(h:a.length+b.length<1000000000):BO N [a,b]=some (a++b):=by
 unfold BO;rw[vg,show aQ ((0:Int)+(a.length:Int))=((a.length:Nat):Int) by rw[Int.zero_add,H6 (by omega)],show decide ((a.length:Int)<0)=false from ao9 (by omega)];simp only[cond_false];rw[vg,show aQ ((a.length:Int)+(b.length:Int))=((a.length+b.length:Nat):Int) by rw[<-Int.natCast_add,H6 (by omega)],show decide (((a.length+b.length:Nat):Int)<0)=false from ao9 (by omega)];simp only[cond_false];rw[vg];unfold R7;rw[show decide ((0:Int)<=((a.length+b.length:Nat):Int))=true from ao8 (by omega),aoS,show Nat.ble ((a.length+b.length)*48) 140737488355328=true from Nat.ble_eq_true_of_le (by omega)];simp only[Bool.and_self,cond_true,aoq];rw[xS];rw[show Nat.ble ((([]:apf dg).length+a.length)*48) 140737488355328=true from Nat.ble_eq_true_of_le (by simp only[aoD];omega)];simp only[cond_true,List.nil_append];rw[xS];rw[show Nat.ble ((a.length+b.length)*48) 140737488355328=true from Nat.ble_eq_true_of_le (by omega)];rfl
theorem ahy(N:Nat)(hN:16<N)(d:bD)(p:aV)(h:KN m S T)(hx:∀x∈d.aU++d.bY,j7 x.dR)(hl:d.aU.length+d.bY.length<1000000000):
 J4 N d p m=some (qC S [] (d.aU++d.bY)):=by
 unfold J4;rw[Ze N _ _ hl,aoq];exact ZH N hN p h _ 0 [] [] ⟨λ_=>rfl,aoC _⟩ hx (by simp only[aos,aoD];omega)
end
def uz(d:bD):Int:=bif d.dm==0 then bif d.bY.length==0 then 0 else 11 else bif decide (1<=d.dm)&&decide (d.dm<=4)then bif d.bY.length==0 then 11 else 0 else bif d.dm==5 then bif d.bY.length==0&& !(d.aU.length==0)then 0 else 11 else 1
theorem XH(f:Int):f=0\/f=1\/f=2\/f=3\/f=4\/f=5\/(f<0\/5<f):=by omega
theorem aiX(N:Nat)(d:bD):Mg N d=some (uz d):=by
 unfold Mg uz Bv;rw[KM,uk,uk];rcases XH d.dm with h|h|h|h|h|h|h
 ·rw[h];cases d.bY.length==0<;>rfl
 ·rw[h];cases d.bY.length==0<;>rfl
 ·rw[h];cases d.bY.length==0<;>rfl
 ·rw[h];cases d.bY.length==0<;>rfl
 ·rw[h];cases d.bY.length==0<;>rfl
 ·rw[h];cases d.bY.length==0<;>cases d.aU.length==0<;>rfl
 ·have e:∀k:Int,0<=k->k<=5->(d.dm==k)=false:=λk J h2=>beq_eq_false_iff_ne.2 (by omega);have e2:(decide (1<=d.dm)&&decide (d.dm<=4))=false:=by
   rw[Bool.and_eq_false_iff,decide_eq_false_iff_not,decide_eq_false_iff_not];omega
  rw[e 0 (by decide) (by decide),e 1 (by decide) (by decide),e 2 (by decide) (by decide),e 3 (by decide) (by decide),e 4 (by decide) (by decide),e 5 (by decide) (by decide),e2];rfl
theorem aau(N:Nat)(d:bD):M5 N d=some (uz d):=by
 unfold M5 uz;rw[uk,uk];rcases XH d.dm with h|h|h|h|h|h|h
 ·rw[h];cases d.bY.length==0<;>rfl
 ·rw[h];cases d.bY.length==0<;>rfl
 ·rw[h];cases d.bY.length==0<;>rfl
 ·rw[h];cases d.bY.length==0<;>rfl
 ·rw[h];cases d.bY.length==0<;>rfl
 ·rw[h];cases d.bY.length==0<;>cases d.aU.length==0<;>rfl
 ·have e:∀k:Int,0<=k->k<=5->(d.dm==k)=false:=λk J h2=>beq_eq_false_iff_ne.2 (by omega);have e2:(decide (1<=d.dm)&&decide (d.dm<=4))=false:=by
   rw[Bool.and_eq_false_iff,decide_eq_false_iff_not,decide_eq_false_iff_not];omega
  have e3:(bif decide (d.dm<0)then some true else some (decide (d.dm>5)))=some true:=by
   rcases h with h|h
   ·rw[ao8 h];rfl
   ·rw[show decide (d.dm>5)=true from ao8 h];cases decide (d.dm<0)<;>rfl
  rw[e3,e 0 (by decide) (by decide),e 5 (by decide) (by decide),e2];rfl
def lB(B:Nat)(l:bp):Prop:=l.xL.length<=B
theorem lB.ok{l:bp}(h:lB 1000000000 l):j7 l:=aoJ h (by decide)
theorem fz{n k:Nat}(h:n<=k):Nat.ble n k=true:=Nat.ble_eq_true_of_le h
theorem TE(N:Nat):∀(l:apf dg)(k:Nat)(acc:apf apg),acc.length+l.length<=1000000000->F9 N l k acc=some (acc++l.map (·.au))
 |[],_,acc,_=>by rw[F9,List.map_nil,aoM]
 |a::l,k,acc,h=>by
  simp only[aou]at h;rw[F9,fz (by omega),cond_true];dsimp only;rw[TE N l (k+1) _ (by simp only[aos,aou,aoD];omega)];rw[aoQ,aoI];rfl
theorem afY(N:Nat)(d:bD)(h:d.aU.length+d.bY.length<1000000000):Hp N d=some ((d.aU++d.bY).map (·.au)):=by
 unfold Hp;rw[Ze N _ _ h,aoq,TE N _ _ _ (by simp only[aos,aoD];omega),List.nil_append]
theorem YM(N:Nat):∀(l:apf dg)(k:Nat)(acc:apf apg),acc.length+l.length<=1000000000->F0 N l k acc=some (acc++l.map (·.au))
 |[],_,acc,_=>by rw[F0,List.map_nil,aoM]
 |a::l,k,acc,h=>by
  simp only[aou]at h;rw[F0,fz (by omega),cond_true];dsimp only;rw[YM N l (k+1) _ (by simp only[aos,aou,aoD];omega)];rw[aoQ,aoI];rfl
theorem Vq(N:Nat)(d:bD):∀(l:apf dg)(k:Nat)(acc:apf apg),acc.length+l.length+d.bY.length<=1000000000->EZ N d l k acc=some (acc++(l++d.bY).map (·.au))
 |[],_,acc,h=>by rw[EZ,YM N _ _ _ (by simp only[aoD]at h;omega),List.nil_append]
 |a::l,k,acc,h=>by
  simp only[aou]at h;rw[EZ,fz (by omega),cond_true];dsimp only;rw[Vq N d l (k+1) _ (by simp only[aos,aou,aoD];omega)];rw[List.cons_append,aoQ,aoI];rfl
theorem aak(N:Nat)(d:bD)(h:d.aU.length+d.bY.length<1000000000):NR N d=some ((d.aU++d.bY).map (·.au)):=by
 unfold NR;rw[Vq N d _ _ _ (by simp only[aoD];omega),List.nil_append]
theorem Vg(N:Nat)(l:bp)(h:lB 1000000000 l):C4 N l=some l:=by
 unfold C4 Oi;rw[fz (by have:=h;unfold lB at this;omega)];rfl
theorem abq(N:Nat):∀(l:apf bp)(k:Nat)(acc:apf bp),acc.length+l.length<=1000000000->(∀x∈l,lB 1000000000 x)->D7 N l k acc=some (acc++l)
 |[],_,acc,_,_=>by rw[D7,aoM]
 |a::l,k,acc,h,hx=>by
  simp only[aou]at h;rw[D7,Vg N a (hx a aox),aoq,fz (by omega),cond_true];dsimp only;rw[abq N l (k+1) _ (by simp only[aos,aou,aoD];omega) λy hy=>hx y (aoA _ hy)];rw[aoI];rfl
theorem ahz(N:Nat)(l:apf bp)(h:l.length<=1000000000)(hx:∀x∈l,lB 1000000000 x):Lz N l=some l:=by
 unfold Lz;rw[abq N l 0 [] (by simp only[aoD];omega) hx,List.nil_append]
def kX(s:apg)(d:bD):Bool:=bL d.au==bL s
def AA(D:apf bD)(s:apg)(k:Nat):Int:=match D.findIdx? (kX s)with|some i=>((k+i:Nat):Int)|none=> -1
theorem anm(d:bD)(D:apf bD)(s:apg)(k:Nat):AA (d::D) s k=bif kX s d then(k:Int)else AA D s (k+1):=by
 unfold AA;rw[List.findIdx?_cons];cases kX s d with
 |true=>rfl
 |false=>
  cases D.findIdx? (kX s)with
  |none=>rfl
  |some i=>simp only[cond_false,Bool.false_eq_true,if_false,Option.map_some];rw[Nat.add_assoc,Nat.add_comm 1 i]
theorem VX(N:Nat)(s:apg):∀(l:apf bD)(k:Nat),Is N s l k=some (AA l s k)
 |[],_=>rfl
 |d::l,k=>by
  rw[Is,anm,show OJ N d s=some (kX s d)from rfl,aoq,VX N s l];cases kX s d<;>rfl
theorem ajf(N:Nat)(p:aV)(s:apg):JH N p s=some (AA p.aO s 0):=by
 unfold JH PT;rw[VX];rfl
theorem Yd{α:Type}(f:α->Bool):∀l:apf α,(l.findIdx? f=none/\l.find? f=none)\/∃i d,l.findIdx? f=some i/\l[i]?=some d/\l.find? f=some d/\f d=true
 |[]=> .inl ⟨rfl,rfl⟩
 |x::l=>by
  rw[List.findIdx?_cons,List.find?_cons];cases e:f x with
  |true=>exact .inr ⟨0,x,rfl,rfl,rfl,e⟩
  |false=>
   simp only[Bool.false_eq_true,if_false];rcases Yd f l with⟨J,h2⟩|⟨i,d,J,h2,h3,h4⟩
   ·exact .inl ⟨by rw[J];rfl,h2⟩
   ·exact .inr ⟨i+1,d,by rw[J];rfl,by rw[ao2];exact h2,h3,h4⟩
def dN(P:apf dX)(D:apf bD)(s:apg):aM×apf bp×Bool:=
 match P.find? (λx=>bL x.au==bL s)with
 |some x=>(x.aB,x.aU,true)
 |none=>match D.find? (kX s)with
  |some d=>(d.aB,d.aU.map (·.dR),true)
  |none=>(dY,[],false)
theorem V4(N:Nat)(d:bD):∀(l:apf dg)(k:Nat)(acc:apf bp),acc.length+l.length<=1000000000->(∀x∈l,lB 1000000000 x.dR)->EJ N d l k acc=some (d.aB,acc++l.map (·.dR),true)
 |[],_,acc,_,_=>by rw[EJ,List.map_nil,aoM]
 |a::l,k,acc,h,hx=>by
  simp only[aou]at h;rw[EJ,Vg N _ (hx a aox),aoq,fz (by omega),cond_true];dsimp only;rw[V4 N d l (k+1) _ (by simp only[aos,aou,aoD];omega) λy hy=>hx y (aoA _ hy)];rw[aoQ,aoI];rfl
theorem aas(N:Nat)(d:bD):∀(l:apf dg)(k:Nat)(acc:apf bp),acc.length+l.length<=1000000000->Fb N d l k acc=some (d.aB,acc++l.map (·.dR),true)
 |[],_,acc,_=>by rw[Fb,List.map_nil,aoM]
 |a::l,k,acc,h=>by
  simp only[aou]at h;rw[Fb,fz (by omega),cond_true];dsimp only;rw[aas N d l (k+1) _ (by simp only[aos,aou,aoD];omega)];rw[aoQ,aoI];rfl
structure lJ(P:List dX):Prop where
 len:∀x∈P,x.aU.length<=1000000000
 lk:∀x∈P,∀y∈x.aU,lB 1000000000 y
structure gX(D:List bD):Prop where
 len:∀d∈D,d.aU.length+d.bY.length<900000000
 lk:∀d∈D,∀y∈d.aU++d.bY,lB 1000000000 y.dR
theorem gX.yR{D:apf bD}(h:gX D){d:bD}(hd:d∈D):∀y∈d.aU,lB 1000000000 y.dR:=λy hy=>h.lk d hd y (List.mem_append_left _ hy)
theorem JX{α:Type}{l:apf α}{i:Nat}{d:α}(h:l[i]?=some d):d∈l:=aoE h
theorem WS(N:Nat)(p:aV)(s:apg)(hD:gX p.aO):∀(l:apf dX)(k:Nat),lJ l->DJ N p s l k=some (dN l p.aO s)
 |[],k,_=>by
  rw[DJ,ajf,aoq];unfold dN AA;rw[List.find?_nil];rcases Yd (kX s) p.aO with⟨J,h2⟩|⟨i,d,J,h2,h3,_⟩
  ·rw[J,h2];rfl
  ·rw[J,h3];simp only[aoL];rw[show decide ((i:Int)>=0)=true from ao8 (by omega),aoS,h2];simp only[cond_true,aoq];rw[V4 N d _ _ _ (by have:=hD.len d (JX h2);simp only[aoD];omega) (hD.yR (JX h2)),List.nil_append]
 |x::l,k,hP=>by
  rw[DJ,WS N p s hD l (k+1) ⟨λy hy=>hP.len y (aoA _ hy),λy hy=>hP.lk y (aoA _ hy)⟩];unfold dN;rw[List.find?_cons];cases bL x.au==bL s with
  |true=>simp only[cond_true];rw[ahz N _ (hP.len x aox) (hP.lk x aox)];rfl
  |false=>rfl
theorem MC(N:Nat)(p:aV)(s:apg)(hP:lJ p.aY)(hD:gX p.aO):CJ N p s=some (dN p.aY p.aO s):=WS N p s hD p.aY 0 hP
theorem ZZ(N:Nat)(s:apg):∀(D:apf bD)(k:Nat),gX D->JG N s D k=some (dN [] D s)
 |[],_,_=>rfl
 |d::D,k,h=>by
  rw[JG,ZZ N s D (k+1) ⟨λy hy=>h.len y (aoA _ hy),λy hy=>h.lk y (aoA _ hy)⟩];unfold dN;rw[List.find?_nil,List.find?_cons];unfold kX;cases bL d.au==bL s with
  |true=>
   simp only[cond_true];rw[aas N d _ _ _ (by have:=h.len d aox;simp only[aoD];omega),List.nil_append]
  |false=>rfl
theorem Xb(N:Nat)(s:apg)(p:aV)(hD:gX p.aO):∀(l:apf dX)(k:Nat),E3 N s p l k=some (dN l p.aO s)
 |[],k=>by rw[E3,ZZ N s _ _ hD]
 |x::l,k=>by
  rw[E3,Xb N s p hD l];unfold dN;rw[List.find?_cons];cases bL x.au==bL s<;>rfl
theorem Fe(N:Nat)(p:aV)(s:apg)(hD:gX p.aO):Jp N p s=some (dN p.aY p.aO s):=Xb N s p hD p.aY 0
structure VN(m:List (ByteArray×Int))(V:List ByteArray):Prop where
 val:∀s,(gg m s 0==0)= !cS V s
 len:m.length<=V.length
theorem VN.add{m:apf (apg×Int)}{V:apf apg}(h:VN m V)(s:apg)(k:Int)(hk:(k==0)=false):VN ((s,k)::m) (V++[s]):=by
 refine⟨λx=> ?_,by have:=h.len;simp only[aou,aos,aoD];omega⟩;rw[IJ,ly,Ez];cases e:bL s==bL x with
 |true=>rw[cond_true,hk,Bool.or_true];rfl
 |false=>rw[cond_false,h.val,Bool.or_false]
def oF(V:apf apg)(l:bp):Int:=bif xt V l then 0 else 9
theorem ZY(N:Nat){m:apf (apg×Int)}{V:apf apg}(h:VN m V):∀(l:apf dw)(k:Nat),Mq N m l k=some (bif l.all (λm=>cS V m.au)then 0 else 9)
 |[],_=>rfl
 |x::l,k=>by
  rw[Mq,h.val,apb,ZY N h l];cases cS V x.au<;>rfl
theorem QD(N:Nat){m:apf (apg×Int)}{V:apf apg}(h:VN m V)(l:bp)(p:aV):EW N l p m=some (oF V l):=ZY N h l.xL 0
def xV(V:apf apg)(P:apf dX)(D:apf bD)(x:cJ):Int:=
 bif bL x.cP==[]then oF V x.bx else bif (dN P D x.cP).2.2 then bif (dN P D x.cP).1.bk !=3 then 10 else bif x.cN.length==(dN P D x.cP).2.1.length then fU (oF V) x.cN else 11 else 9
theorem De(a b:Nat):((a:Int) !=(b:Int))= !(a==b):=Xq a b
theorem Zx(N:Nat){m:apf (apg×Int)}{V:apf apg}(h:VN m V)(p:aV):∀(l:apf bp)(k:Nat),LQ N p m l k=some (fU (oF V) l)
 |[],_=>rfl
 |x::l,k=>by
  rw[LQ,QD N h,aoq,fU,Zx N h p l];cases oF V x !=0<;>rfl
theorem ajW(N:Nat){m:apf (apg×Int)}{V:apf apg}(h:VN m V)(p:aV)(hP:lJ p.aY)(hD:gX p.aO)(x:cJ):LB N x p m=some (xV V p.aY p.aO x):=by
 unfold LB xV;rw[sL,QD N h,MC N p _ hP hD,aoq,aoq,De,Zx N h p];cases bL x.cP==[]<;>cases (dN p.aY p.aO x.cP).2.2<;>cases (dN p.aY p.aO x.cP).1.bk !=3<;>cases x.cN.length==(dN p.aY p.aO x.cP).2.1.length<;>rfl
def vY(V:apf apg)(P:apf dX)(D:apf bD)(e:aw):Int:=
 bif (dN P D e.au).2.2 then bif e.xIdx.length==(dN P D e.au).2.1.length then fU (xV V P D) e.xIdx else 11 else 9
def yj(t:aM)(x:Int):aM×Int:=(bif x !=0 then dY else t,x)
theorem Wd(N:Nat){m:apf (apg×Int)}{V:apf apg}(h:VN m V)(p:aV)(hP:lJ p.aY)(hD:gX p.aO)(q:aM×apf bp×Bool):∀(l:apf cJ)(k:Nat),Hk N q p m l k=some (yj q.1 (fU (xV V p.aY p.aO) l))
 |[],_=>rfl
 |x::l,k=>by
  rw[Hk,ajW N h p hP hD,aoq,fU,Wd N h p hP hD q l];unfold yj;cases e:xV V p.aY p.aO x !=0 with
  |true=>simp only[cond_true];rw[e];rfl
  |false=>rfl
theorem ae6(N:Nat){m:apf (apg×Int)}{V:apf apg}(h:VN m V)(p:aV)(hP:lJ p.aY)(hD:gX p.aO)(e:aw):Lh N e p m=some (yj (dN p.aY p.aO e.au).1 (vY V p.aY p.aO e)):=by
 unfold Lh vY;rw[MC N p _ hP hD,aoq,De,Wd N h p hP hD];cases (dN p.aY p.aO e.au).2.2<;>cases e.xIdx.length==(dN p.aY p.aO e.au).2.1.length<;>rfl
theorem V8(N:Nat)(V:apf apg)(p:aV):∀(l:apf bp)(k:Nat),LK N V p l k=some (fU (oF (V++p.bm)) l)
 |[],_=>rfl
 |x::l,k=>by
  rw[LK,O2,aoq,fU,V8 N V p l];unfold oF;cases xt (V++p.bm) x<;>rfl
theorem NJ(N:Nat)(V:apf apg)(p:aV)(l:apf bp):Sp N p V l=some (fU (oF (V++p.bm)) l):=V8 N V p l 0
theorem aaN(N:Nat)(V:apf apg)(p:aV)(hD:gX p.aO)(q:aM×apf bp×Bool):∀(l:apf cJ)(k:Nat),Cq N q V p l k=some (yj q.1 (fU (xV (V++p.bm) p.aY p.aO) l))
 |[],_=>rfl
 |x::l,k=>by
  rw[Cq,sL,O2,Fe N p _ hD,aoq,aoq,De,NJ,aoq,fU,aaN N V p hD q l];unfold yj xV oF;rw[show(x.cN.length==(dN p.aY p.aO x.cP).2.1.length)=((dN p.aY p.aO x.cP).2.1.length==x.cN.length)from Bool.eq_iff_iff.2 (by rw[beq_iff_eq,beq_iff_eq];exact eq_comm)];cases bL x.cP==[]with
  |true=>cases xt (V++p.bm) x.bx<;>rfl
  |false=>
   cases (dN p.aY p.aO x.cP).2.2 with
   |false=>rfl
   |true=>
    cases (dN p.aY p.aO x.cP).1.bk !=3 with
    |true=>rfl
    |false=>
     cases (dN p.aY p.aO x.cP).2.1.length==x.cN.length with
     |false=>rfl
     |true=>
      simp only[cond_true,cond_false,Bool.not_true];cases e:fU (λl=>bif xt (V++p.bm) l then 0 else 9) x.cN !=0 with
      |true=>simp only[cond_true];first|rw[e];rfl|simp [e]
      |false=>rfl
theorem Z7(N:Nat)(V:apf apg)(p:aV)(hD:gX p.aO)(e:aw):Ro N p V e=some (yj (dN p.aY p.aO e.au).1 (vY (V++p.bm) p.aY p.aO e)):=by
 unfold Ro vY;rw[Fe N p _ hD,aoq,De,aaN N V p hD];rw[show((dN p.aY p.aO e.au).2.1.length==e.xIdx.length)=(e.xIdx.length==(dN p.aY p.aO e.au).2.1.length)from Bool.eq_iff_iff.2 (by rw[beq_iff_eq,beq_iff_eq];exact eq_comm)];cases (dN p.aY p.aO e.au).2.2<;>cases e.xIdx.length==(dN p.aY p.aO e.au).2.1.length<;>rfl
set_option maxRecDepth 100000
theorem Gg(n:Int):(Int64.ofInt n).toInt=IntKind.i64.wrap n:=by
 have h:=ky n;unfold ar bC aQ at h;injection h with h;injection h with h;injection h with _ h;exact h.symm
theorem ai6(a b:Int64):(a+b).toInt=IntKind.i64.wrap (a.toInt+b.toInt):=by
 have h:=C3 a b;unfold ar bC aQ at h;injection h with h;injection h with h;injection h with _ h;exact h.symm
theorem aeS(a b:Int64):(a*b).toInt=IntKind.i64.wrap (a.toInt*b.toInt):=by
 have h:=lu a b;unfold ar bC aQ at h;injection h with h;injection h with h;injection h with _ h;exact h.symm
theorem ahR(a b:Int64):(a-b).toInt=IntKind.i64.wrap (a.toInt-b.toInt):=by
 have h:=xE a b;unfold ar bC aQ at h;injection h with h;injection h with h;injection h with _ h;exact h.symm
theorem mI(a:Int64): -9223372036854775808<=a.toInt/\a.toInt<=9223372036854775807:=ot.1 (ala a)
theorem MD{a b:Int64}(h:a.toInt=b.toInt):a=b:=Int64.toInt_inj.1 h
theorem Py(x:Int)(h:0<=x/\x<18446744073709551616):IntKind.u64.wrap ((BitVec.ofInt IntKind.u64.bits x&&&BitVec.ofInt IntKind.u64.bits 4294967295).toNat:Int)=x%4294967296:=by
 obtain⟨n,rfl⟩:=Int.eq_ofNat_of_zero_le h.1;have e:(BitVec.ofInt IntKind.u64.bits (n:Int)&&&BitVec.ofInt IntKind.u64.bits 4294967295).toNat=n%4294967296:=by
  show(BitVec.ofInt 64 (n:Int)&&&BitVec.ofInt 64 4294967295).toNat=_;rw[BitVec.toNat_and];have J:(BitVec.ofInt 64 (n:Int)).toNat=n:=by
   rw[BitVec.toNat_ofInt];omega
  have h2:(BitVec.ofInt 64 (4294967295:Int)).toNat=2^32-1:=by decide
  rw[J,h2,Nat.and_two_pow_sub_one_eq_mod]
 rw[e,IntKind.wrap_u64];omega
theorem akN(x:Int):x.fdiv (2^min (32:Int).toNat IntKind.u64.bits)=x / 4294967296:=by
 show x.fdiv 4294967296=_;rw[Int.fdiv_eq_ediv_of_nonneg _ (by omega)]
theorem aki(a b:Int)(ha:0<=a/\a<18446744073709551616)(hb:0<=b/\b<18446744073709551616):
 let ah:=a / 4294967296
 let al:=a%4294967296
 let bh:=b / 4294967296
 let bl:=b%4294967296
 let W:=IntKind.u64.wrap
 let low:=W (al*bl)
 let vB:=W (W (ah*bl)+low / 4294967296)
 let JQ:=W (W (al*bh)+vB%4294967296)
 W (W (W (ah*bh)+vB / 4294967296)+JQ / 4294967296)=a*b / 18446744073709551616:=by
 intro ah al bh bl W low vB JQ;have J:0<=ah/\ah<=4294967295:=by omega
 have h2:0<=al/\al<=4294967295:=by omega
 have h3:0<=bh/\bh<=4294967295:=by omega
 have h4:0<=bl/\bl<=4294967295:=by omega
 have pb:∀{x y:Int},(0<=x/\x<=4294967295)->(0<=y/\y<=4294967295)->0<=x*y/\x*y<=18446744065119617025:=λhx hy=>
  ⟨Int.mul_nonneg hx.1 hy.1,Int.le_trans (Int.mul_le_mul hx.2 hy.2 hy.1 (by omega)) (by decide)⟩
 have p1:=pb J h3;have p2:=pb J h4;have p3:=pb h2 h3;have p4:=pb h2 h4;have e:a*b=18446744073709551616*(ah*bh)+4294967296*(ah*bl)+4294967296*(al*bh)+al*bl:=by
  have ea:a=4294967296*ah+al:=by omega
  have eb:b=4294967296*bh+bl:=by omega
  have:∀x y z w:Int,(4294967296*x+y)*(4294967296*z+w)=18446744073709551616*(x*z)+4294967296*(x*w)+4294967296*(y*z)+y*w:=λx y z w=>by
   rw[Int.add_mul,Int.mul_add,Int.mul_add];rw[show 4294967296*x*(4294967296*z)=18446744073709551616*(x*z)from by
     rw[Int.mul_assoc,Int.mul_left_comm x,<-Int.mul_assoc];rfl]
   rw[Int.mul_assoc 4294967296 x w,Int.mul_left_comm y];omega
  rw[<-this,<-ea,<-eb]
 generalize hP:ah*bh=P at*;generalize hQ:ah*bl=Q at*;generalize hR:al*bh=R at*;generalize hT:al*bl=T at*;have w1:low=T:=by show IntKind.u64.wrap _=_;rw[IntKind.wrap_u64];omega
 have w2:vB=Q+T / 4294967296:=by show IntKind.u64.wrap (IntKind.u64.wrap _+low / _)=_;rw[IntKind.wrap_u64,IntKind.wrap_u64,w1];omega
 have w3:JQ=R+vB%4294967296:=by show IntKind.u64.wrap (IntKind.u64.wrap _+vB%_)=_;rw[IntKind.wrap_u64,IntKind.wrap_u64];omega
 show IntKind.u64.wrap (IntKind.u64.wrap (IntKind.u64.wrap P+vB / 4294967296)+JQ / 4294967296)=_;rw[IntKind.wrap_u64,IntKind.wrap_u64,IntKind.wrap_u64,e,w3,w2];omega
theorem tJ(n:Int):0<=IntKind.u64.wrap n/\IntKind.u64.wrap n<18446744073709551616:=by rw[IntKind.wrap_u64];omega
theorem akp(N:Nat)(a b:Int)(ha:0<=a/\a<18446744073709551616)(hb:0<=b/\b<18446744073709551616):LJ N a b=some (a*b / 18446744073709551616,a*b%18446744073709551616):=by
 unfold LJ;simp only[Py _ ha,Py _ hb,Py _ (tJ _),akN];rw[aki a b ha hb,IntKind.wrap_u64 (a*b)]
theorem RP(N:Nat)(a:Int64):BS N a=some (a.toInt.natAbs:Int):=by
 unfold BS;have:=mI a;rw[IntKind.wrap_u64,IntKind.wrap_u64];by_cases h:a.toInt<0
 ·rw[ao8 h,cond_true];congr 1;omega
 ·rw[ao9 h,cond_false];congr 1;omega
theorem Uh(a b:Int):(a.natAbs:Int)*b.natAbs=if(decide (a<0)==decide (b<0))=true then a*b else-(a*b):=by
 by_cases J:a<0<;>by_cases h2:b<0
 ·rw[show(a.natAbs:Int)= -a by omega,show(b.natAbs:Int)= -b by omega,Int.neg_mul_neg];simp [J,h2]
 ·rw[show(a.natAbs:Int)= -a by omega,show(b.natAbs:Int)=b by omega,Int.neg_mul];simp [J,h2]
 ·rw[show(a.natAbs:Int)=a by omega,show(b.natAbs:Int)= -b by omega,Int.mul_neg];simp [J,h2]
 ·rw[show(a.natAbs:Int)=a by omega,show(b.natAbs:Int)=b by omega];simp [J,h2]
def lU:apf aI->apg->aph Int64
 |[],_=>none
 |b::r,s=>bif bL b.au==bL s then some b.de else lU r s
def qy(env:apf aI):apf dw->Int->aph Int
 |[],a=>some a
 |m::r,a=>match lU env m.au with
  |none=>none
  |some v=>qy env r (a+m.dM.toInt*v.toInt)
def dx(l:bp)(env:apf aI):Int64×Int:=bif !jj l then(0,1)else match qy env l.xL l.xK.toInt with
 |none=>(0,9)
 |some s=>bif rH s then(Int64.ofInt s,0)else(0,3)
def wv(w:jG):Int:=w.kg+w.ld*18446744073709551616+w.nK*340282366920938463463374607431768211456
structure U3(w:jG):Prop where
 h0:0<=w.nK
 J:w.nK<18446744073709551616
 m0:0<=w.ld
 m1:w.ld<18446744073709551616
 l0:0<=w.kg
 l1:w.kg<18446744073709551616
abbrev kr:Int:=6277101735386680763835789423207666416102355444464034512896
theorem N5{x:Int}(h0:0<=x)(J:x<18446744073709551616):IntKind.u64.wrap ((BitVec.ofInt (IntKind.bits .u64) (IntKind.max .u64)^^^BitVec.ofInt (IntKind.bits .u64) x).toNat:Int)=18446744073709551615-x:=by
 obtain⟨n,rfl⟩:=Int.eq_ofNat_of_zero_le h0;have e:(BitVec.ofInt (IntKind.bits .u64) (IntKind.max .u64)^^^BitVec.ofInt (IntKind.bits .u64) (n:Int))= ~~~(BitVec.ofNat 64 n):=by
  show(BitVec.ofInt 64 18446744073709551615^^^BitVec.ofInt 64 (n:Int))=_;rw[show BitVec.ofInt 64 18446744073709551615=BitVec.allOnes 64 by decide,BitVec.allOnes_xor,BitVec.ofInt_natCast]
 have e2:(BitVec.ofInt (IntKind.bits .u64) (IntKind.max .u64)^^^BitVec.ofInt (IntKind.bits .u64) (n:Int)).toNat=2^64-1-n%2^64:=by
  have h:=congrArg BitVec.toNat e;have h2:(~~~(BitVec.ofNat 64 n)).toNat=2^64-1-n%2^64:=by rw[BitVec.toNat_not,BitVec.toNat_ofNat]
  exact h.trans h2
 rw[e2,IntKind.wrap_u64];omega
theorem Ie(N:Nat)(w:jG)(U:U3 w){top hi lo:Int}(t0:0<=top)(t1:top<18446744073709551616)(a0:0<=hi)(a1:hi<18446744073709551616)(b0:0<=lo)(b1:lo<18446744073709551616):
 ∃r:jG,sV N w hi lo top=some (r.nK,r.ld,r.kg)/\U3 r/\∃k:Int,wv r=wv w+(lo+hi*18446744073709551616+top*340282366920938463463374607431768211456)+k*kr:=by
 obtain⟨h0,J,m0,m1,l0,l1⟩:=U;obtain⟨H,M,L⟩:=w;simp only at h0 J m0 m1 l0 l1;have e1:∃c:Int,(c=0\/c=1)/\sV N ⟨H,M,L⟩ hi lo top=yo N ⟨H,M,L⟩ hi top lo c/\IntKind.u64.wrap (L+lo)=L+lo-c*18446744073709551616:=by
  unfold sV;simp only;rw[IntKind.wrap_u64];by_cases hc:(L+lo)%18446744073709551616<lo
  ·rw[ao8 hc];exact⟨1, .inr rfl,rfl,by omega⟩
  ·rw[ao9 hc];exact⟨0, .inl rfl,rfl,by omega⟩
 obtain⟨c,hc,e1,f1⟩:=e1;have e2:∃d:Int,(d=0\/d=1)/\yo N ⟨H,M,L⟩ hi top lo c=xw N ⟨H,M,L⟩ hi c top lo d/\IntKind.u64.wrap (M+hi)=M+hi-d*18446744073709551616:=by
  unfold yo;simp only;rw[IntKind.wrap_u64];by_cases hd:(M+hi)%18446744073709551616<hi
  ·rw[ao8 hd];exact⟨1, .inr rfl,rfl,by omega⟩
  ·rw[ao9 hd];exact⟨0, .inl rfl,rfl,by omega⟩
 obtain⟨d,hd,e2,f2⟩:=e2;have hx:=tJ (M+hi);rw[f2]at hx;have e3:∃e:Int,(e=0\/e=1)/\xw N ⟨H,M,L⟩ hi c top lo d=C6 N ⟨H,M,L⟩ top hi c lo (d+e)/\IntKind.u64.wrap (IntKind.u64.wrap (M+hi)+c)=M+hi+c-(d+e)*18446744073709551616/\d+e<=1:=by
  unfold xw;simp only;rw[f2,IntKind.wrap_u64 (M+hi-d*18446744073709551616+c),IntKind.wrap_u64 (d+1)];by_cases he:(M+hi-d*18446744073709551616+c)%18446744073709551616<M+hi-d*18446744073709551616
  ·rw[ao8 he];have:d=0:=by omega
   subst this;exact⟨1, .inr rfl,rfl,by omega,by omega⟩
  ·rw[ao9 he];exact⟨0, .inl rfl,by rw[Int.add_zero];rfl,by omega,by omega⟩
 obtain⟨e,he,e3,f3,f4⟩:=e3;refine⟨⟨IntKind.u64.wrap (H+IntKind.u64.wrap (top+(d+e))),IntKind.u64.wrap (IntKind.u64.wrap (M+hi)+c),IntKind.u64.wrap (L+lo)⟩,by rw[e1,e2,e3];rfl,?_,?_⟩
 ·refine⟨(tJ _).1,(tJ _).2,(tJ _).1,(tJ _).2,(tJ _).1,(tJ _).2⟩
 ·unfold wv;simp only;rw[f1,f3,IntKind.wrap_u64,IntKind.wrap_u64];refine⟨-((H+(top+(d+e))%18446744073709551616)/ 18446744073709551616+(top+(d+e))/ 18446744073709551616),?_⟩;unfold kr;generalize xl:(top+(d+e))/ 18446744073709551616=q1;generalize Ct:(top+(d+e))%18446744073709551616=r1;have g1:top+(d+e)=18446744073709551616*q1+r1:=by omega
  generalize qJ:(H+r1)/ 18446744073709551616=q2;generalize Gs:(H+r1)%18446744073709551616=r2;have g2:H+r1=18446744073709551616*q2+r2:=by omega
  omega
theorem WY(N:Nat)(w:jG)(U:U3 w){hi lo:Int}(a0:0<=hi)(a1:hi<18446744073709551616)(b0:0<=lo)(b1:lo<18446744073709551616)(neg:Bool):
 ∃r:jG,A6 N hi lo neg w=some (r.nK,r.ld,r.kg)/\U3 r/\∃k:Int,wv r=wv w+(bif neg then-(lo+hi*18446744073709551616)else lo+hi*18446744073709551616)+k*kr:=by
 unfold A6;rw[N5 a0 a1,N5 b0 b1,N5 (Int.le_refl 0) (by decide)];cases neg with
 |false=>
  rw[cond_false,cond_false];obtain⟨r,J,h2,k,h3⟩:=Ie N w U (top:=0) (by decide) (by decide) a0 a1 b0 b1;exact⟨r,J,h2,k,by rw[h3];omega⟩
 |true=>
  rw[cond_true,cond_true];simp only[IntKind.wrap_u64];by_cases z1:lo=0
  ·subst z1;rw[show(((18446744073709551615-0+1:Int)%18446744073709551616)==0)=true by decide,cond_true];by_cases z2:hi=0
   ·subst z2;rw[show(((18446744073709551615-0+1:Int)%18446744073709551616)==0)=true by decide,cond_true];obtain⟨r,J,h2,k,h3⟩:=Ie N w U (top:=(18446744073709551615-0+1)%18446744073709551616) (hi:=(18446744073709551615-0+1)%18446744073709551616) (lo:=(18446744073709551615-0+1)%18446744073709551616) (by decide) (by decide) (by decide) (by decide) (by decide) (by decide);exact⟨r,J,h2,k,by rw[h3];rfl⟩
   ·rw[show(((18446744073709551615-hi+1:Int)%18446744073709551616)==0)=false by rw[beq_eq_false_iff_ne];omega,cond_false];obtain⟨r,J,h2,k,h3⟩:=Ie N w U (top:=18446744073709551615-0) (hi:=(18446744073709551615-hi+1)%18446744073709551616) (lo:=(18446744073709551615-0+1)%18446744073709551616) (by decide) (by decide) (by omega) (by omega) (by decide) (by decide);exact⟨r,J,h2,k+1,by rw[h3];unfold kr;omega⟩
  ·rw[show(((18446744073709551615-lo+1:Int)%18446744073709551616)==0)=false by rw[beq_eq_false_iff_ne];omega,cond_false];obtain⟨r,J,h2,k,h3⟩:=Ie N w U (top:=18446744073709551615-0) (hi:=18446744073709551615-hi) (lo:=(18446744073709551615-lo+1)%18446744073709551616) (by decide) (by decide) (by omega) (by omega) (by omega) (by omega);exact⟨r,J,h2,k+1,by rw[h3];unfold kr;omega⟩
theorem alS{a b:Int}(h:∃k:Int,a=b+k*18446744073709551616):Int64.ofInt a=Int64.ofInt b:=by
 obtain⟨k,rfl⟩:=h;apply Int64.toInt_inj.1;rw[Int64.toInt_ofInt,Int64.toInt_ofInt,Int.bmod_def,Int.bmod_def];have:(b+k*18446744073709551616)%18446744073709551616=b%18446744073709551616:=by omega
 simp only[show((2^64:Nat):Int)=18446744073709551616 by decide];rw[this]
theorem aif(N:Nat)(w:jG)(U:U3 w){s:Int}(b1: -3138550867693340381917894711603833208051177722232017256448<=s)(b2:s<3138550867693340381917894711603833208051177722232017256448)(hs:∃k:Int,wv w=s+k*kr):
 K4 N w=some (Int64.ofInt s,rH s):=by
 obtain⟨h0,J,m0,m1,l0,l1⟩:=U;obtain⟨H,M,L⟩:=w;obtain⟨k,hs⟩:=hs;unfold wv kr at hs;simp only at h0 J m0 m1 l0 l1 hs;unfold K4;simp only;have en:(Int64.ofInt L).toInt=if L<9223372036854775808 then L else L-18446744073709551616:=by
  rw[Int64.toInt_ofInt,Int.bmod_def];simp only[show((2^64:Nat):Int)=18446744073709551616 by decide];split<;>split<;>omega
 have ef:((Int64.ofInt L).toInt.fdiv (2^(min ((63:Int)).toNat (IntKind.bits .i64))))=if L<9223372036854775808 then 0 else-1:=by
  rw[show((2:Int)^(min ((63:Int)).toNat (IntKind.bits .i64)))=9223372036854775808 by decide,Int.fdiv_eq_ediv_of_nonneg _ (by decide),en];split<;>omega
 rw[ef];have eg:∀z:Int,(z=0\/z= -1)->IntKind.u64.wrap (Int64.ofInt z).toInt=if z=0 then 0 else 18446744073709551615:=λz hz=>by
   rcases hz with rfl|rfl<;>decide
 rw[eg _ (by split<;>simp)];have e1:Int64.ofInt L=Int64.ofInt s:=alS ⟨k*340282366920938463463374607431768211456-M-H*18446744073709551616,by omega⟩;rw[e1];have e2:(bif (M==(if(if L<9223372036854775808 then(0:Int)else-1)=0 then(0:Int)else 18446744073709551615))then some (H==(if(if L<9223372036854775808 then(0:Int)else-1)=0 then(0:Int)else 18446744073709551615))else some false)=some (rH s):=by
   by_cases hL:L<9223372036854775808
   ·simp only[hL,if_true];by_cases hM:M=0
    ·rw[show(M==0)=true by rw[beq_iff_eq];exact hM,cond_true];by_cases hH:H=0
     ·rw[show(H==0)=true by rw[beq_iff_eq];exact hH];rw[(ot (n:=s)).2 (by subst hM;subst hH;omega)]
     ·rw[show(H==0)=false by rw[beq_eq_false_iff_ne];exact hH]
      congr 1;symm
      rw[<-Bool.not_eq_true,ot];omega
    ·rw[show(M==0)=false by rw[beq_eq_false_iff_ne];exact hM,cond_false]
     congr 1;symm
     rw[<-Bool.not_eq_true,ot];omega
   ·simp only[hL,if_false];rw[if_neg (by decide)];by_cases hM:M=18446744073709551615
    ·rw[show(M==18446744073709551615)=true by rw[beq_iff_eq];exact hM,cond_true];by_cases hH:H=18446744073709551615
     ·rw[show(H==18446744073709551615)=true by rw[beq_iff_eq];exact hH];rw[(ot (n:=s)).2 (by subst hM;subst hH;omega)]
     ·rw[show(H==18446744073709551615)=false by rw[beq_eq_false_iff_ne];exact hH]
      congr 1;symm
      rw[<-Bool.not_eq_true,ot];omega
    ·rw[show(M==18446744073709551615)=false by rw[beq_eq_false_iff_ne];exact hM,cond_false]
     congr 1;symm
     rw[<-Bool.not_eq_true,ot];omega
 rw[e2,aoq]
theorem TX(N:Nat)(m:dw):∀(env:apf aI)(k:Nat),(lU env m.au=none->zY N m env k=some (-1))/\(∀v,lU env m.au=some v->∃i b,zY N m env k=some ((k+i:Nat):Int)/\env[i]?=some b/\b.de=v)
 |[],k=>⟨λ_=>rfl,λv h=>by cases h⟩
 |b::r,k=>by
  obtain⟨J,h2⟩:=TX N m r (k+1);unfold lU zY Rx;simp only[aoq];cases hb:(bL b.au==bL m.au)with
  |true=>exact⟨λh=>(by cases h),λv h=>by cases h;exact⟨0,b,rfl,rfl,rfl⟩⟩
  |false=>
   simp only[cond_false];refine⟨J,λv h=> ?_⟩;obtain⟨i,c,q1,q2,q3⟩:=h2 v h;exact⟨i+1,c,by rw[q1];congr 2;omega,q2,q3⟩
def BP:aph Int->Int64×Int
 |none=>(0,9)
 |some s=>bif rH s then(Int64.ofInt s,0)else(0,3)
theorem Ya(l:bp)(env:apf aI):dx l env=bif !jj l then(0,1)else BP (qy env l.xL l.xK.toInt):=by
 unfold dx BP;cases qy env l.xL l.xK.toInt<;>rfl
theorem YW(a b:Int64):(a.toInt*b.toInt).natAbs<=85070591730234615865843651857942052864:=by
 have J:=mI a;have h2:=mI b;rw[Int.natAbs_mul];exact Nat.mul_le_mul (show a.toInt.natAbs<=9223372036854775808 by omega) (show b.toInt.natAbs<=9223372036854775808 by omega)
theorem Vn(N:Nat)(env:apf aI):∀(l:apf dw)(k:Nat)(w:jG)(s:Int),U3 w->(∃k:Int,wv w=s+k*kr)->s.natAbs+l.length*85070591730234615865843651857942052864<=1569275433846670190958947355801916604025588861116008628224->
 EP N env l k w.nK w.ld w.kg=some (BP (qy env l s))
 |[],k,w,s,U,hk,hb=>by
  unfold EP qy BP;rw[show(⟨w.nK,w.ld,w.kg⟩:jG)=w from rfl];simp only[aoD,Nat.zero_mul,Nat.add_zero]at hb;rw[aif N w U (by omega) (by omega) hk,aoq];simp only;cases rH s<;>rfl
 |m::r,k,w,s,U,hk,hb=>by
  unfold EP qy;simp only;rw[show Qc N env m=zY N m env 0 from rfl];obtain⟨J,h2⟩:=TX N m env 0;cases hf:lU env m.au with
  |none=>rw[J hf];rfl
  |some v=>
   obtain⟨i,b,q1,q2,q3⟩:=h2 v hf;rw[q1,aoq,aoL,ao9 (by omega),cond_false,ao8 (by omega),cond_true,aoS,q2,aoq,RP,aoq,RP,aoq];have ha:=mI m.dM;have hv:=mI b.de;rw[akp N _ _ (by omega) (by omega),aoq];subst q3;have hu:=YW m.dM b.de;have hm:=Uh m.dM.toInt b.de.toInt;have h0:0<=(m.dM.toInt.natAbs:Int)*b.de.toInt.natAbs:=Int.mul_nonneg (by omega) (by omega);have hp:(m.dM.toInt.natAbs:Int)*b.de.toInt.natAbs<=85070591730234615865843651857942052864:=by
    rw[<-Int.natCast_mul,<-Int.natAbs_mul];omega
   generalize (m.dM.toInt.natAbs:Int)*b.de.toInt.natAbs=p at*;obtain⟨w',e1,U',k',e2⟩:=WY N w U (hi:=p / 18446744073709551616) (lo:=p%18446744073709551616) (by omega) (by omega) (by omega) (by omega) (!((decide (m.dM.toInt<0))==(decide (b.de.toInt<0))));rw[show(⟨w.nK,w.ld,w.kg⟩:jG)=w from rfl,e1,aoq];simp only;have hpp:p%18446744073709551616+p / 18446744073709551616*18446744073709551616=p:=by omega
   rw[hpp]at e2;have e3:(bif (!((decide (m.dM.toInt<0))==(decide (b.de.toInt<0))))then-p else p)=m.dM.toInt*b.de.toInt:=by
     rw[hm];cases (decide (m.dM.toInt<0)==decide (b.de.toInt<0))with
     |true=>simp
     |false=>simp
   rw[e3]at e2;obtain⟨k0,hk⟩:=hk;refine Vn N env r (k+1) w' (s+m.dM.toInt*b.de.toInt) U' ⟨k0+k',by rw[e2,hk];unfold kr;omega⟩ ?_;rw[aou]at hb;have:(s+m.dM.toInt*b.de.toInt).natAbs<=s.natAbs+(m.dM.toInt*b.de.toInt).natAbs:=Int.natAbs_add_le _ _;omega
theorem F2(N:Nat)(hN:2147483648<N)(l:bp)(env:apf aI)(hl:l.xL.length<=4611686018427387904):tP N l env=some (dx l env):=by
 unfold tP;rw[Ya,KY N (by omega) l (aoJ hl (by decide)),aoq];cases hb:jj l with
 |false=>rfl
 |true=>
  simp only[Bool.not_true,cond_false];rw[cond_true,show((0:Int) !=0)=false from rfl,cond_false,RP,aoq];have hK:=mI l.xK;obtain⟨w',e1,U',k',e2⟩:=WY N aay ⟨by decide,by decide,by decide,by decide,by decide,by decide⟩ (hi:=0) (lo:=(l.xK.toInt.natAbs:Int)) (by decide) (by decide) (by omega) (by omega) (decide (l.xK.toInt<0));rw[e1,aoq];refine Vn N env l.xL 0 w' l.xK.toInt U' ⟨k',?_⟩ (by omega);rw[e2];by_cases h:l.xK.toInt<0
  ·rw[ao8 h,cond_true];show(0:Int)+0*_+0*_+_+_=_;omega
  ·rw[ao9 h,cond_false];show(0:Int)+0*_+0*_+_+_=_;omega
def dv(w:dz):Int:=w.fE+w.fQ*4294967296+w.gC*18446744073709551616+w.gy*79228162514264337593543950336+w.gJ*340282366920938463463374607431768211456+w.gw*1461501637330902918203684832716283019655932542976
structure D6(w:dz):Prop where
 a0:0<=w.fE
 b0:w.fE<4294967296
 a1:0<=w.fQ
 b1:w.fQ<4294967296
 a2:0<=w.gC
 b2:w.gC<4294967296
 a3:0<=w.gy
 b3:w.gy<4294967296
 a4:0<=w.gJ
 b4:w.gJ<4294967296
 a5:0<=w.gw
 b5:w.gw<4294967296
theorem mi{d n c:Int}(hd0:0<=d)(hd:d<4294967296)(mw:0<=n)(hn:n<18446744073709551616)(xB:0<=c)(hc:c<=1):∃s c' n' e:Int,IntKind.u64.wrap (IntKind.u64.wrap (d+n.tmod 4294967296)+c)=s/\IntKind.u64.wrap (s.tdiv 4294967296)=c'/\IntKind.u64.wrap (n.tdiv 4294967296)=n'/\s.tmod 4294967296=e/\
 0<=c'/\c'<=1/\0<=e/\e<4294967296/\0<=n'/\n'*4294967296<=n/\e+4294967296*(c'+n')=d+n+c:=by
 have t1:n.tmod 4294967296=n%4294967296:=Int.tmod_eq_emod_of_nonneg mw;have t2:n.tdiv 4294967296=n / 4294967296:=Int.tdiv_eq_ediv_of_nonneg mw;have hs:IntKind.u64.wrap (IntKind.u64.wrap (d+n.tmod 4294967296)+c)=d+n%4294967296+c:=by
  rw[t1,IntKind.wrap_u64,IntKind.wrap_u64];omega
 have qW:0<=d+n%4294967296+c:=by omega
 refine⟨d+n%4294967296+c,(d+n%4294967296+c)/ 4294967296,n / 4294967296,(d+n%4294967296+c)%4294967296,hs,?_,?_,Int.tmod_eq_emod_of_nonneg qW,?_⟩
 ·rw[Int.tdiv_eq_ediv_of_nonneg qW,IntKind.wrap_u64];omega
 ·rw[t2,IntKind.wrap_u64];omega
 ·refine⟨?_,?_,?_,?_,?_,?_,?_⟩<;>omega
theorem afn(N:Nat)(w:dz)(W:D6 w){n:Int}(mw:0<=n)(hn:n<18446744073709551616)(hb:dv w+n<kr):∃r,P2 N w n=some r/\D6 r/\dv r=dv w+n:=by
 obtain⟨s0,c0,n0,e0,p1,p2,p3,p4,p5,p6,p7,p8,p9,p10,p11⟩:=mi W.a0 W.b0 mw hn (c:=0) (by decide) (by decide);obtain⟨s1,c1,n1,e1,q1,q2,q3,q4,q5,q6,q7,q8,q9,q10,q11⟩:=mi W.a1 W.b1 p9 (by omega) p5 p6;obtain⟨s2,c2,n2,e2,r1,r2,r3,r4,r5,r6,r7,r8,r9,WC,Wf⟩:=mi W.a2 W.b2 q9 (by omega) q5 q6;obtain⟨s3,c3,n3,e3,t1,t2,t3,t4,t5,t6,t7,t8,t9,t10,t11⟩:=mi W.a3 W.b3 r9 (by omega) r5 r6;obtain⟨s4,c4,n4,e4,u1,u2,u3,u4,u5,u6,u7,u8,u9,Un,u11⟩:=mi W.a4 W.b4 t9 (by omega) t5 t6;obtain⟨s5,c5,n5,e5,v1,v2,v3,v4,v5,v6,v7,v8,v9,v10,v11⟩:=mi W.a5 W.b5 u9 (by omega) u5 u6;refine⟨⟨e0,e1,e2,e3,e4,e5⟩,?_,⟨p7,p8,q7,q8,r7,r8,t7,t8,u7,u8,v7,v8⟩,?_⟩
 ·unfold P2;simp only[aoq];simp only[p1,p2,p3,p4,q1,q2,q3,q4,r1,r2,r3,r4,t1,t2,t3,t4,u1,u2,u3,u4,v1,v2,v3,v4]
 ·unfold dv at hb ⊢;unfold kr at hb;simp only;have:c5+n5=0:=by omega
  omega
theorem Wb(N:Nat)(w:dz)(W:D6 w){n:Int}(mw:0<=n)(hn:n<18446744073709551616)(hb:dv w+n*4294967296<kr):∃r,Ht N w n=some r/\D6 r/\dv r=dv w+n*4294967296:=by
 obtain⟨s1,c1,n1,e1,q1,q2,q3,q4,q5,q6,q7,q8,q9,q10,q11⟩:=mi W.a1 W.b1 mw hn (c:=0) (by decide) (by decide);obtain⟨s2,c2,n2,e2,r1,r2,r3,r4,r5,r6,r7,r8,r9,WC,Wf⟩:=mi W.a2 W.b2 q9 (by omega) q5 q6;obtain⟨s3,c3,n3,e3,t1,t2,t3,t4,t5,t6,t7,t8,t9,t10,t11⟩:=mi W.a3 W.b3 r9 (by omega) r5 r6;obtain⟨s4,c4,n4,e4,u1,u2,u3,u4,u5,u6,u7,u8,u9,Un,u11⟩:=mi W.a4 W.b4 t9 (by omega) t5 t6;obtain⟨s5,c5,n5,e5,v1,v2,v3,v4,v5,v6,v7,v8,v9,v10,v11⟩:=mi W.a5 W.b5 u9 (by omega) u5 u6;refine⟨⟨w.fE,e1,e2,e3,e4,e5⟩,?_,⟨W.a0,W.b0,q7,q8,r7,r8,t7,t8,u7,u8,v7,v8⟩,?_⟩
 ·unfold Ht;simp only[aoq];simp only[q1,q2,q3,q4,r1,r2,r3,r4,t1,t2,t3,t4,u1,u2,u3,u4,v1,v2,v3,v4]
 ·have:=W.a0;unfold dv at hb ⊢;unfold kr at hb;simp only;have:c5+n5=0:=by omega
  omega
theorem ano(N:Nat)(w:dz)(W:D6 w){n:Int}(mw:0<=n)(hn:n<18446744073709551616)(hb:dv w+n*18446744073709551616<kr):∃r,SD N w n=some r/\D6 r/\dv r=dv w+n*18446744073709551616:=by
 obtain⟨s2,c2,n2,e2,r1,r2,r3,r4,r5,r6,r7,r8,r9,WC,Wf⟩:=mi W.a2 W.b2 mw hn (c:=0) (by decide) (by decide);obtain⟨s3,c3,n3,e3,t1,t2,t3,t4,t5,t6,t7,t8,t9,t10,t11⟩:=mi W.a3 W.b3 r9 (by omega) r5 r6;obtain⟨s4,c4,n4,e4,u1,u2,u3,u4,u5,u6,u7,u8,u9,Un,u11⟩:=mi W.a4 W.b4 t9 (by omega) t5 t6;obtain⟨s5,c5,n5,e5,v1,v2,v3,v4,v5,v6,v7,v8,v9,v10,v11⟩:=mi W.a5 W.b5 u9 (by omega) u5 u6;refine⟨⟨w.fE,w.fQ,e2,e3,e4,e5⟩,?_,⟨W.a0,W.b0,W.a1,W.b1,r7,r8,t7,t8,u7,u8,v7,v8⟩,?_⟩
 ·unfold SD;simp only[aoq];simp only[r1,r2,r3,r4,t1,t2,t3,t4,u1,u2,u3,u4,v1,v2,v3,v4]
 ·have:=W.a0;have:=W.a1;unfold dv at hb ⊢;unfold kr at hb;simp only;have:c5+n5=0:=by omega
  omega
theorem OV(N:Nat)(w:dz)(W:D6 w){a b:Int}(Kk:0<=a)(ha:a<18446744073709551616)(lA:0<=b)(hb:b<18446744073709551616)(hB:dv w+a*b<kr):∃r,Av N w a b=some r/\D6 r/\dv r=dv w+a*b:=by
 have Uo:a.tmod 4294967296=a%4294967296:=Int.tmod_eq_emod_of_nonneg Kk;have Vd:IntKind.u64.wrap (a.tdiv 4294967296)=a / 4294967296:=by rw[Int.tdiv_eq_ediv_of_nonneg Kk,IntKind.wrap_u64];omega
 have X0:b.tmod 4294967296=b%4294967296:=Int.tmod_eq_emod_of_nonneg lA;have WQ:IntKind.u64.wrap (b.tdiv 4294967296)=b / 4294967296:=by rw[Int.tdiv_eq_ediv_of_nonneg lA,IntKind.wrap_u64];omega
 have e:a*b=(a%4294967296)*(b%4294967296)+(a%4294967296)*(b / 4294967296)*4294967296+(a / 4294967296)*(b%4294967296)*4294967296+(a / 4294967296)*(b / 4294967296)*18446744073709551616:=by
  have J:a=a%4294967296+4294967296*(a / 4294967296):=by omega
  have h2:b=b%4294967296+4294967296*(b / 4294967296):=by omega
  generalize a%4294967296=x at*;generalize a / 4294967296=y at*;generalize b%4294967296=z at*;generalize b / 4294967296=u at*;subst J;subst h2;rw[Int.add_mul,Int.mul_add,Int.mul_add,show x*(4294967296*u)=x*u*4294967296 by rw[Int.mul_left_comm,Int.mul_comm],show 4294967296*y*z=y*z*4294967296 by rw[Int.mul_assoc,Int.mul_comm],show 4294967296*y*(4294967296*u)=y*u*18446744073709551616 by rw[Int.mul_assoc,Int.mul_left_comm y 4294967296 u];omega];omega
 unfold Av;rw[Uo,Vd,X0,WQ];have bd:∀x y:Int,0<=x->x<4294967296->0<=y->y<4294967296->0<=x*y/\x*y<18446744073709551616:=λx y J h2 h3 h4=>by
  refine⟨Int.mul_nonneg J h3,?_⟩;have:x*y<=4294967295*4294967295:=Int.mul_le_mul (by omega) (by omega) h3 (by decide);omega
 obtain⟨f1,f2⟩:=bd (a%4294967296) (b%4294967296) (by omega) (by omega) (by omega) (by omega);obtain⟨f3,f4⟩:=bd (a%4294967296) (b / 4294967296) (by omega) (by omega) (by omega) (by omega);obtain⟨f5,f6⟩:=bd (a / 4294967296) (b%4294967296) (by omega) (by omega) (by omega) (by omega);obtain⟨f7,f8⟩:=bd (a / 4294967296) (b / 4294967296) (by omega) (by omega) (by omega) (by omega);have wr:∀z:Int,0<=z->z<18446744073709551616->IntKind.u64.wrap z=z:=λz J h2=>by rw[IntKind.wrap_u64];omega
 rw[wr _ f1 f2,wr _ f3 f4,wr _ f5 f6,wr _ f7 f8];generalize (a%4294967296)*(b%4294967296)=P at*;generalize (a%4294967296)*(b / 4294967296)=Q at*;generalize (a / 4294967296)*(b%4294967296)=R at*;generalize (a / 4294967296)*(b / 4294967296)=T at*;rw[e]at hB ⊢;clear e Uo Vd X0 WQ;obtain⟨w1,x1,W1,y1⟩:=afn N w W f1 f2 (by omega);rw[x1,aoq];obtain⟨w2,x2,W2,y2⟩:=Wb N w1 W1 f3 f4 (by omega);rw[x2,aoq];obtain⟨w3,x3,W3,y3⟩:=Wb N w2 W2 f5 f6 (by omega);rw[x3,aoq];obtain⟨w4,x4,W4,y4⟩:=ano N w3 W3 f7 f8 (by omega);rw[x4,aoq];exact⟨w4,rfl,W4,by omega⟩
theorem agQ(N:Nat)(a b:dz)(A:D6 a)(B:D6 b):Qz N a b=some (decide (dv a<dv b)):=by
 obtain⟨a0,a1,a2,a3,a4,a5,a6,a7,a8,a9,aa,ab⟩:=A;obtain⟨b0,b1,b2,b3,b4,b5,b6,b7,b8,b9,ba,bb⟩:=B;unfold Qz dv;have bt:∀{x y:Int}{p q:aph Bool},x≠y->(bif (x !=y)then p else q)=p:=λh=>by rw[bne_iff_ne.2 h,cond_true]
 have bf:∀{x y:Int}{p q:aph Bool},x=y->(bif (x !=y)then p else q)=q:=λh=>by subst h;simp
 by_cases h5:a.gw=b.gw
 ·rw[bf h5];by_cases h4:a.gJ=b.gJ
  ·rw[bf h4];by_cases h3:a.gy=b.gy
   ·rw[bf h3];by_cases h2:a.gC=b.gC
    ·rw[bf h2];by_cases J:a.fQ=b.fQ
     ·rw[bf J];by_cases h0:a.fE=b.fE
      ·rw[bf h0];congr 1;symm;exact ao9 (by omega)
      ·rw[bt h0];congr 1;exact decide_eq_decide.2 (by omega)
     ·rw[bt J];congr 1;exact decide_eq_decide.2 (by omega)
    ·rw[bt h2];congr 1;exact decide_eq_decide.2 (by omega)
   ·rw[bt h3];congr 1;exact decide_eq_decide.2 (by omega)
  ·rw[bt h4];congr 1;exact decide_eq_decide.2 (by omega)
 ·rw[bt h5];congr 1;exact decide_eq_decide.2 (by omega)
theorem Bf{x y c:Int}(NU:0<=x)(hx:x<4294967296)(Xl:0<=y)(hy:y<4294967296)(xB:0<=c)(hc:c<=1):∃c' t e:Int,(c'=0\/c'=1)/\(decide (x<IntKind.u64.wrap (y+c))=true->c'=1/\t=IntKind.u64.wrap (x+4294967296))/\(decide (x<IntKind.u64.wrap (y+c))=false->c'=0/\t=x)/\
 IntKind.u64.wrap (t-IntKind.u64.wrap (y+c))=e/\0<=e/\e<4294967296/\e=x-y-c+4294967296*c':=by
 have J:IntKind.u64.wrap (y+c)=y+c:=by rw[IntKind.wrap_u64];omega
 have h2:IntKind.u64.wrap (x+4294967296)=x+4294967296:=by rw[IntKind.wrap_u64];omega
 rw[J,h2];by_cases h:x<y+c
 ·refine⟨1,x+4294967296,x+4294967296-(y+c), .inr rfl,λ_=>⟨rfl,rfl⟩,λhf=> ?_,?_,by omega,by omega,by omega⟩
  ·rw[ao8 h]at hf;cases hf
  ·rw[IntKind.wrap_u64];omega
 ·refine⟨0,x,x-(y+c), .inl rfl,λhf=> ?_,λ_=>⟨rfl,rfl⟩,?_,by omega,by omega,by omega⟩
  ·rw[ao9 h]at hf;cases hf
  ·rw[IntKind.wrap_u64];omega
theorem Ae{α:Type}{b:Bool}{c' t:Int}{p:Int}{x:Int}{F:Int->Int->α}(J:b=true->c'=1/\t=p)(h2:b=false->c'=0/\t=x):(bif b then F 1 p else F 0 x)=F c' t:=by
 cases b with
 |true=>obtain⟨rfl,rfl⟩:=J rfl;rfl
 |false=>obtain⟨rfl,rfl⟩:=h2 rfl;rfl
theorem TG(N:Nat)(a b:dz)(A:D6 a)(B:D6 b)(h:dv b<=dv a):∃r,JF N a b=some r/\D6 r/\dv r=dv a-dv b:=by
 obtain⟨c0,t0,e0,p1,p2,p3,p4,p5,p6,p7⟩:=Bf A.a0 A.b0 B.a0 B.b0 (c:=0) (by decide) (by decide);obtain⟨c1,t1,e1,q1,q2,q3,q4,q5,q6,q7⟩:=Bf A.a1 A.b1 B.a1 B.b1 (c:=c0) (by omega) (by omega);obtain⟨c2,t2,e2,r1,r2,r3,r4,r5,r6,r7⟩:=Bf A.a2 A.b2 B.a2 B.b2 (c:=c1) (by omega) (by omega);obtain⟨c3,t3,e3,s1,s2,s3,s4,s5,s6,s7⟩:=Bf A.a3 A.b3 B.a3 B.b3 (c:=c2) (by omega) (by omega);obtain⟨c4,t4,e4,u1,u2,u3,u4,u5,u6,u7⟩:=Bf A.a4 A.b4 B.a4 B.b4 (c:=c3) (by omega) (by omega);obtain⟨c5,t5,e5,v1,v2,v3,v4,v5,v6,v7⟩:=Bf A.a5 A.b5 B.a5 B.b5 (c:=c4) (by omega) (by omega);refine⟨⟨e0,e1,e2,e3,e4,e5⟩,?_,⟨p5,p6,q5,q6,r5,r6,s5,s6,u5,u6,v5,v6⟩,?_⟩
 ·unfold JF;rw[Ae (F:=λx y=>Hy N a b x y) p2 p3];unfold Hy;rw[Ae (F:=λx y=>LV N a b t0 c0 x y) q2 q3];unfold LV;rw[Ae (F:=λx y=>Ho N a b t0 t1 c0 c1 x y) r2 r3];unfold Ho;rw[Ae (F:=λx y=>JL N a b t0 t1 c0 t2 c1 c2 x y) s2 s3];unfold JL;rw[Ae (F:=λx y=>K3 N a b t0 t1 c0 t2 c1 t3 c2 c3 x y) u2 u3];unfold K3;rw[Ae (F:=λx y=>JR N t0 b t1 c0 t2 c1 t3 c2 t4 c3 c4 x y) v2 v3];unfold JR;rw[p4,q4,r4,s4,u4,v4]
 ·unfold dv at h ⊢;simp only;obtain⟨z0,z1,z2,z3,z4,z5,z6,z7,z8,z9,za,zb⟩:=A;obtain⟨y0,y1,y2,y3,y4,y5,y6,y7,y8,y9,ya,yb⟩:=B;have:c5=0:=by omega
  omega
theorem Wv(N:Nat)(s:apg):∀(env:apf aI)(k:Nat),Ca N s env k=some (match lU env s with|none=>(0,false)|some v=>(v,true))
 |[],k=>rfl
 |b::r,k=>by
  unfold Ca lU;cases hb:(bL b.au==bL s)with
  |true=>rfl
  |false=>exact Wv N s r (k+1)
theorem BD(N:Nat)(v:Int64):uI N v=some ((v.toInt.natAbs:Nat):Int):=by
 have J:=mI v;unfold uI;by_cases h:v.toInt<0
 ·rw[ao8 h,cond_true];have e:(-(v+(1:Int64))).toInt= -(v.toInt+1):=by
    rw[Int64.toInt_neg,Int64.toInt_add,show(1:Int64).toInt=1 from rfl];rw[Int.bmod_eq_of_le (n:=v.toInt+1) (m:=2^64) (by omega) (by omega),Int.bmod_eq_of_le (n:= -(v.toInt+1)) (m:=2^64) (by omega) (by omega)]
  rw[e,IntKind.wrap_u64,IntKind.wrap_u64];exact congrArg some (by omega)
 ·rw[ao9 h,cond_false,IntKind.wrap_u64];exact congrArg some (by omega)
theorem Tz(w:dz)(W:D6 w)(lim:Int)(J:0<=lim)(h2:lim<=9223372036854775808):(bif (w.gC !=0)then some true else(bif (w.gy !=0)then some true else(bif (w.gJ !=0)then some true else(bif (w.gw !=0)then some true else some (decide ((IntKind.u64.wrap (w.fE+(IntKind.u64.wrap (w.fQ*(4294967296:Int)))))>lim))))))=some (decide (dv w>lim)):=by
 obtain⟨a0,a1,a2,a3,a4,a5,a6,a7,a8,a9,aa,ab⟩:=W;have bt:∀{x:Int}{q:aph Bool},x≠0->(bif (x !=0)then some true else q)=some true:=λh=>by rw[bne_iff_ne.2 h,cond_true]
 have bf:∀{x:Int}{q:aph Bool},x=0->(bif (x !=0)then some true else q)=q:=λh=>by subst h;rfl
 unfold dv;by_cases k2:w.gC=0
 ·rw[bf k2];by_cases k3:w.gy=0
  ·rw[bf k3];by_cases k4:w.gJ=0
   ·rw[bf k4];by_cases k5:w.gw=0
    ·rw[bf k5,IntKind.wrap_u64,IntKind.wrap_u64]
     congr 1
     exact decide_eq_decide.2 (by omega)
    ·rw[bt k5];congr 1;symm;exact ao8 (by omega)
   ·rw[bt k4];congr 1;symm;exact ao8 (by omega)
  ·rw[bt k3];congr 1;symm;exact ao8 (by omega)
 ·rw[bt k2];congr 1;symm;exact ao8 (by omega)
theorem Zd(w:dz)(W:D6 w)(h:dv w<=9223372036854775808):IntKind.u64.wrap (w.fE+(IntKind.u64.wrap (w.fQ*(4294967296:Int))))=dv w:=by
 obtain⟨a0,a1,a2,a3,a4,a5,a6,a7,a8,a9,aa,ab⟩:=W;unfold dv at h ⊢;rw[IntKind.wrap_u64,IntKind.wrap_u64];omega
theorem adj{n:Int}(h0:1<=n)(J:n<=9223372036854775808):((-(Int64.ofInt (IntKind.u64.wrap (n-(1:Int)))))-(1:Int64))=Int64.ofInt (-n):=by
 rw[show IntKind.u64.wrap (n-1)=n-1 by rw[IntKind.wrap_u64];omega];apply Int64.toInt_inj.1;rw[Int64.toInt_sub,Int64.toInt_neg,show(1:Int64).toInt=1 from rfl,Int64.toInt_ofInt_of_le (by omega) (by omega),Int64.toInt_ofInt_of_le (by omega) (by omega)];rw[Int.bmod_eq_of_le (n:= -(n-1)) (m:=2^64) (by omega) (by omega),Int.bmod_eq_of_le (n:= -(n-1)-1) (m:=2^64) (by omega) (by omega)];omega
theorem GP(N:Nat)(env:apf aI):∀(l:apf dw)(k:Nat)(p q:dz)(s:Int),D6 p->D6 q->dv p-dv q=s->dv p+dv q+(l.length:Int)*85070591730234615865843651857942052864<=1569275433846670190958947355801916604025588861116008628224->
 AM N env l k p.fE p.fQ p.gC p.gy p.gJ p.gw q.fE q.fQ q.gC q.gy q.gJ q.gw=some (BP (qy env l s))
 |[],k,p,q,s,P,Q,hs,hb=>by
  unfold AM qy BP;rw[show(⟨p.fE,p.fQ,p.gC,p.gy,p.gJ,p.gw⟩:dz)=p from rfl,show(⟨q.fE,q.fQ,q.gC,q.gy,q.gJ,q.gw⟩:dz)=q from rfl,agQ N p q P Q,aoq];by_cases h:dv p<dv q
  ·rw[ao8 h,cond_true];obtain⟨r,e1,R,e2⟩:=TG N q p Q P (by omega);rw[e1,aoq,Tz r R _ (by decide) (by decide),aoq];by_cases hg:dv r>9223372036854775808
   ·rw[ao8 hg,cond_true];simp only;rw[show rH s=false by rw[<-Bool.not_eq_true,ot];omega,cond_false]
   ·rw[ao9 hg,cond_false,Zd r R (by omega),adj (by omega) (by omega)];simp only;rw[(ot (n:=s)).2 (by omega),cond_true,show-dv r=s by omega]
  ·rw[ao9 h,cond_false];obtain⟨r,e1,R,e2⟩:=TG N p q P Q (by omega);rw[e1,aoq,Tz r R _ (by decide) (by decide),aoq];by_cases hg:dv r>9223372036854775807
   ·rw[ao8 hg,cond_true];simp only;rw[show rH s=false by rw[<-Bool.not_eq_true,ot];omega,cond_false]
   ·rw[ao9 hg,cond_false,Zd r R (by omega)];simp only;have:0<=dv r:=by omega
    rw[(ot (n:=s)).2 (by omega),cond_true,show dv r=s by omega]
 |m::r,k,p,q,s,P,Q,hs,hb=>by
  unfold AM qy;simp only;rw[show abk N env m.au=Ca N m.au env 0 from rfl,Wv,aoq];cases hf:lU env m.au with
  |none=>rfl
  |some v=>
   simp only[cond_true];have ha:=mI m.dM;have hv:=mI v;have hm:=Uh v.toInt m.dM.toInt;have hu:=YW v m.dM;have h0:0<=(v.toInt.natAbs:Int)*m.dM.toInt.natAbs:=Int.mul_nonneg (by omega) (by omega);have hp:(v.toInt.natAbs:Int)*m.dM.toInt.natAbs<=85070591730234615865843651857942052864:=by
    rw[<-Int.natCast_mul,<-Int.natAbs_mul];omega
   have hc:v.toInt*m.dM.toInt=m.dM.toInt*v.toInt:=Int.mul_comm _ _;rw[aou]at hb;have hP:0<=dv p:=by obtain⟨a0,a1,a2,a3,a4,a5,a6,a7,a8,a9,aa,ab⟩:=P;unfold dv;omega
   have hQ:0<=dv q:=by obtain⟨a0,a1,a2,a3,a4,a5,a6,a7,a8,a9,aa,ab⟩:=Q;unfold dv;omega
   rw[show(⟨p.fE,p.fQ,p.gC,p.gy,p.gJ,p.gw⟩:dz)=p from rfl,show(⟨q.fE,q.fQ,q.gC,q.gy,q.gJ,q.gw⟩:dz)=q from rfl];cases zH:(decide (v.toInt<0)==decide (m.dM.toInt<0))with
   |true=>
    rw[cond_true,BD,aoq,BD,aoq];rw[zH,if_pos rfl]at hm;obtain⟨w,e1,W,e2⟩:=OV N p P (a:=(v.toInt.natAbs:Int)) (b:=(m.dM.toInt.natAbs:Int)) (by omega) (by omega) (by omega) (by omega) (by
      unfold kr;generalize (v.toInt.natAbs:Int)*m.dM.toInt.natAbs=z at*;have:0<=(r.length:Int)*85070591730234615865843651857942052864:=by omega
      omega)
    rw[e1,aoq];refine GP N env r (k+1) w q (s+m.dM.toInt*v.toInt) W Q ?_ ?_
    ·rw[e2,hm,hc];omega
    ·rw[e2];generalize (v.toInt.natAbs:Int)*m.dM.toInt.natAbs=z at*;omega
   |false=>
    rw[cond_false,BD,aoq,BD,aoq];rw[zH,if_neg (by decide)]at hm;obtain⟨w,e1,W,e2⟩:=OV N q Q (a:=(v.toInt.natAbs:Int)) (b:=(m.dM.toInt.natAbs:Int)) (by omega) (by omega) (by omega) (by omega) (by
      unfold kr;generalize (v.toInt.natAbs:Int)*m.dM.toInt.natAbs=z at*;have:0<=(r.length:Int)*85070591730234615865843651857942052864:=by omega
      omega)
    rw[e1,aoq];refine GP N env r (k+1) p w (s+m.dM.toInt*v.toInt) P W ?_ ?_
    ·rw[e2,hm,hc];omega
    ·rw[e2];generalize (v.toInt.natAbs:Int)*m.dM.toInt.natAbs=z at*;omega
theorem acn(N:Nat)(hN:2147483648<N)(l:bp)(env:apf aI)(hl:l.xL.length<=4611686018427387904):N8 N l env=some (dx l env):=by
 unfold N8;rw[Ya,show RY N l=some (bif jj l then 0 else 1) by unfold RY;rw[Gi N (by omega) l (aoJ hl (by decide)),aoq];cases jj l<;>rfl,aoq];cases hb:jj l with
 |false=>rfl
 |true=>
  simp only[Bool.not_true,cond_false];rw[cond_true,show((0:Int) !=0)=false from rfl,cond_false];have hK:=mI l.xK;have Z:D6 xe:=⟨by decide,by decide,by decide,by decide,by decide,by decide,by decide,by decide,by decide,by decide,by decide,by decide⟩;have z0:dv xe=0:=by decide
  obtain⟨w,e1,W,e2⟩:=OV N xe Z (a:=(l.xK.toInt.natAbs:Int)) (b:=1) (by omega) (by omega) (by decide) (by decide) (by rw[z0];unfold kr;omega);rw[z0]at e2;by_cases h:l.xK.toInt<0
  ·rw[ao8 h,cond_true,BD,aoq,e1,aoq];exact GP N env l.xL 0 xe w l.xK.toInt Z W (by rw[z0];omega) (by rw[z0];omega)
  ·rw[ao9 h,cond_false,BD,aoq,e1,aoq];exact GP N env l.xL 0 w xe l.xK.toInt W Z (by rw[z0];omega) (by rw[z0];omega)
def zG(wrap:Bool)(h n:Int):Int:=bif wrap then(n+h)%(2*h)-h else max (-h) (min (h-1) n)
theorem agH(P:Int->Prop)(h:∀k:Fin 30,P (2^(k.val+1))){b:Int}(J:2<=b)(h2:b<=31):P (2^(b-1).toNat):=by
 have:=h ⟨(b-2).toNat,by omega⟩
 rwa [show(b-2).toNat+1=(b-1).toNat by omega]at this
theorem aju{w:Bool}{h n:Int}(hp:0<h)(J: -h<=n)(h2:n<=h-1):zG w h n=n:=by
 unfold zG;cases w
 ·simp only[cond_false];omega
 ·simp only[cond_true];rw[Int.emod_eq_of_lt (by omega) (by omega)];omega
theorem YF{h u n:Int}(hu:u*(2*h)=18446744073709551616)(hu0:0<u)(hh:0<h):
 (((n*u)%18446744073709551616+9223372036854775808)%18446744073709551616-9223372036854775808)/ u=(n+h)%(2*h)-h:=by
 have h2:u*h=9223372036854775808:=by have:u*(2*h)=2*(u*h):=by rw[Int.mul_left_comm]
                                     omega
 rw[Int.emod_add_emod,<-hu];have e:n*u+9223372036854775808=u*(n+h):=by rw[Int.mul_add,h2,Int.mul_comm]
 rw[e,Int.mul_emod_mul_of_pos _ _ hu0,<-h2,<-Int.mul_sub,Int.mul_ediv_cancel_left _ (by omega)]
theorem alf{n d:Int}(hd:0<d):n.tdiv d=if 0<=n then n / d else-((-n)/ d):=by
 split
 ·exact Int.tdiv_eq_ediv_of_nonneg (by assumption)
 ·have:n= -(-n):=by omega
  conv=>lhs;rw[this]
  rw[Int.neg_tdiv,Int.tdiv_eq_ediv_of_nonneg (by omega)]
theorem ac4{m d:Int}(hd:0<d)(hm:0<m):(-m)/ d=if m%d=0 then-(m / d)else-(m / d)-1:=by
 have J:=Int.mul_ediv_add_emod m d;have h2:=Int.emod_nonneg m (show d≠0 by omega);have h3:=Int.emod_lt_of_pos m hd;split
 ·rename_i h
  exact((Int.ediv_emod_unique hd).2 ⟨(by rw[Int.mul_neg];omega:(0:Int)+d*(-(m / d))= -m),by omega,by omega⟩).1
 ·exact((Int.ediv_emod_unique hd).2 ⟨(by rw[Int.mul_sub,Int.mul_neg];omega:(d-m%d)+d*(-(m / d)-1)= -m),by omega,by omega⟩).1
theorem amg{n d:Int}(hd:0<d):(bif decide (n.tdiv d*d>n)then n.tdiv d-1 else n.tdiv d)=n / d:=by
 rw[alf hd];by_cases h:0<=n
 ·rw[if_pos h,ao9 (by have:=Int.ediv_mul_le n (show d≠0 by omega);omega)];rfl
 ·rw[if_neg h];obtain⟨m,rfl⟩:∃m,n= -m:=⟨-n,by omega⟩;rw[Int.neg_neg,ac4 hd (by omega),Int.neg_mul];have J:=Int.mul_ediv_add_emod m d;have h2:=Int.emod_nonneg m (show d≠0 by omega);rw[Int.mul_comm]at J;split
  ·rw[ao9 (by omega)];rfl
  ·rw[ao8 (by omega)];rfl
theorem VO{n d:Int}(hd:0<d):(bif decide (n.tmod d<0)then n.tdiv d-1 else n.tdiv d)=n / d:=by
 rw[<-amg hd];have h:n.tmod d=n-n.tdiv d*d:=by have:=Int.mul_tdiv_add_tmod n d;rw[Int.mul_comm]at this;omega
 rw[h]
 congr 1
 exact decide_eq_decide.2 (by omega)
def Ao(a b:Int):Int:=bif decide (b<0)then(-a)/(-b)else a / b
theorem alJ{a b:Int}(hb:b≠0):(bif a.tmod b !=0&&(decide (a<0) !=decide (b<0))then a.tdiv b-1 else a.tdiv b)=Ao a b:=by
 have key:∀a b:Int,0<b->(bif a.tmod b !=0&&(decide (a<0) !=false)then a.tdiv b-1 else a.tdiv b)=a / b:=λa b hb=>by
  rw[<-VO hb]
  congr 1
  have hm:0<=a->0<=a.tmod b:=λh=>Int.tmod_nonneg _ h;have mT:a<0->a.tmod b<=0:=λh=>by
   have:a= -(-a):=by omega
   rw[this,Int.neg_tmod];have:=Int.tmod_nonneg b (show 0<=-a by omega);omega
  by_cases h:a<0
  ·rw[ao8 h];have:=mT h;by_cases h0:a.tmod b=0
   ·rw[h0];rfl
   ·rw[ao8 (by omega),bne_iff_ne.2 h0];rfl
  ·rw[ao9 h];have:=hm (by omega);rw[ao9 (show ¬a.tmod b<0 by omega)];cases (a.tmod b !=0)<;>rfl
 unfold Ao;by_cases h:b<0
 ·rw[ao8 h];simp only[cond_true];rw[<-key (-a) (-b) (by omega),Int.neg_tmod,Int.tmod_neg,Int.neg_tdiv_neg]
  congr 1
  have hz:(-(a.tmod b) !=0)=(a.tmod b !=0):=by
   by_cases h0:a.tmod b=0
   ·rw[h0];rfl
   ·rw[bne_iff_ne.2 h0,bne_iff_ne.2 (show-(a.tmod b)≠0 by omega)]
  rw[hz];by_cases h0:a=0
  ·subst h0;simp
  ·by_cases ha:a<0
   ·rw[ao8 ha,ao9 (show ¬-a<0 by omega)];rfl
   ·rw[ao9 ha,ao8 (show-a<0 by omega)];rfl
 ·rw[ao9 h];simp only[cond_false];exact key a b (by omega)
def yA(a b:Nat)(neg:Bool)(how:Int):Bool:=(a%b==0||how==3)||((how==1&& !neg)||(how==2&&neg))||(how==4&&(decide (2*(a%b)<b)||(2*(a%b)==b&&a / b%2==0)))
def m9(a b:Nat)(neg:Bool)(how:Int):Nat:=bif yA a b neg how then a / b else a / b+1
def kx(n d:Int)(how:Int):Int:=
 bif n%d==0||how==1 then n / d else bif how==2 then n / d+1 else bif how==3 then(bif decide (n<0)then n / d+1 else n / d)
 else bif decide (n%d>d-n%d)||(n%d==d-n%d&&n / d%2 !=0)then n / d+1 else n / d
theorem aod{a b:Nat}(hb:0<b)(hr:a%b≠0):(-(a:Int))/(b:Int)= -((a / b:Nat):Int)-1/\(-(a:Int))%(b:Int)=(b:Int)-((a%b:Nat):Int):=by
 have J:a%b<b:=Nat.mod_lt _ hb;have h2:(b:Int)*((a / b:Nat):Int)+((a%b:Nat):Int)=(a:Int):=by rw[<-Int.natCast_mul,<-Int.natCast_add,Nat.div_add_mod]
 refine(Int.ediv_emod_unique (by omega)).2 ⟨?_,by omega,by omega⟩;rw[Int.mul_sub,Int.mul_neg];omega
theorem akO{a b:Nat}(hb:0<b)(hr:a%b=0):(-(a:Int))/(b:Int)= -((a / b:Nat):Int)/\(-(a:Int))%(b:Int)=0:=by
 have h2:(b:Int)*((a / b:Nat):Int)+((a%b:Nat):Int)=(a:Int):=by rw[<-Int.natCast_mul,<-Int.natCast_add,Nat.div_add_mod]
 refine(Int.ediv_emod_unique (by omega)).2 ⟨?_,by omega,by omega⟩;rw[Int.mul_neg];omega
theorem anA{a b:Nat}(hb:0<b){how:Int}(h0:1<=how)(h3:how<=4):((m9 a b false how:Nat):Int)=kx (a:Int) (b:Int) how:=by
 unfold m9 yA kx;have e1:(a:Int)%(b:Int)=((a%b:Nat):Int):=(Int.natCast_emod a b).symm;have e2:(a:Int)/(b:Int)=((a / b:Nat):Int):=(Int.natCast_ediv a b).symm;rw[e1,e2];have hl:=Nat.mod_lt a hb;generalize a%b=r at*;generalize a / b=q at*;rcases (by omega:how=1\/how=2\/how=3\/how=4)with rfl|rfl|rfl|rfl<;>simp only[cond_eq_ite]<;>simp<;>(repeat' split)<;>omega
theorem acW{a b:Nat}(hb:0<b)(ha:0<a){how:Int}(h0:1<=how)(h3:how<=4): -((m9 a b true how:Nat):Int)=kx (-(a:Int)) (b:Int) how:=by
 unfold m9 yA kx;have hl:=Nat.mod_lt a hb;by_cases hr:a%b=0
 ·obtain⟨e1,e2⟩:=akO hb hr;rw[e1,e2,hr];rfl
 ·obtain⟨e1,e2⟩:=aod hb hr;rw[e1,e2];generalize a%b=r at*;generalize a / b=q at*;rcases (by omega:how=1\/how=2\/how=3\/how=4)with rfl|rfl|rfl|rfl<;>simp only[cond_eq_ite]<;>simp<;>(repeat' split)<;>omega
def qv(n d how:Int):Int:=bif decide (d<0)then kx (-n) (-d) how else kx n d how
theorem ahq(d how:Int):kx 0 d how=0:=by unfold kx;simp
theorem aiy{n d:Int}(hd:d≠0){how:Int}(h0:1<=how)(h3:how<=4):
 (bif decide (n<0) !=decide (d<0)then-((m9 n.natAbs d.natAbs true how:Nat):Int)else((m9 n.natAbs d.natAbs false how:Nat):Int))=qv n d how:=by
 have key:∀n d:Int,0<d->(bif decide (n<0)then-((m9 n.natAbs d.natAbs true how:Nat):Int)else((m9 n.natAbs d.natAbs false how:Nat):Int))=kx n d how:=λn d hd=>by
  by_cases h:n<0
  ·rw[ao8 h];simp only[cond_true];rw[acW (by omega) (by omega) h0 h3,show-((n.natAbs:Nat):Int)=n by omega,show((d.natAbs:Nat):Int)=d by omega]
  ·rw[ao9 h];simp only[cond_false];rw[anA (by omega) h0 h3,show((n.natAbs:Nat):Int)=n by omega,show((d.natAbs:Nat):Int)=d by omega]
 unfold qv;by_cases h:d<0
 ·rw[ao8 h];simp only[cond_true];by_cases hn:n=0
  ·subst hn;rw[show(decide ((0:Int)<0) !=true)=true from rfl,Int.neg_zero,ahq];unfold m9 yA;simp
  ·rw[<-key (-n) (-d) (by omega),Int.natAbs_neg,Int.natAbs_neg]
   congr 1
   by_cases ha:n<0
   ·rw[ao8 ha,ao9 (show ¬-n<0 by omega)];rfl
   ·rw[ao9 ha,ao8 (show-n<0 by omega)];rfl
 ·rw[ao9 h];simp only[cond_false];rw[<-key n d (by omega)];cases decide (n<0)<;>rfl
theorem akh{n d how B:Int}(hd:0<d)(hB:0<=B)(J: -B<=n)(h2:n<=B): -B<=kx n d how/\kx n d how<=B+1:=by
 have h3: -B<=n / d:=by
  refine Int.le_ediv_of_mul_le hd ?_;have:B*1<=B*d:=Int.mul_le_mul_of_nonneg_left (by omega) hB;rw[Int.neg_mul];omega
 have h4:n / d<=B:=by
  have:n / d<=n\/n / d<=0:=by
   by_cases h:0<=n
   ·exact .inl (Int.ediv_le_self _ h)
   ·exact .inr (Int.le_of_lt (Int.ediv_neg_of_neg_of_pos (by omega) hd))
  omega
 unfold kx;simp only[cond_eq_ite]
 (repeat' split)<;>omega
theorem akd{n d:Nat}(hd:0<d):Nat.gcd (n / Nat.gcd n d) (d / Nat.gcd n d)=1:=Nat.gcd_div_gcd_div_gcd_of_pos_right hd
def jk(t:aM):Int:=2^(t.cf-1).toNat
def mR(t:aM):Int:=2^t.bQ.toNat
def n6(t:aM)(n:Int):aD:=⟨Int64.ofInt (zG (t.ct==2) (jk t) n),1⟩
def lz(n d:Int):Nat:=Nat.gcd n.natAbs d.natAbs
def D0(n d:Int):Int:=bif decide (n<0) !=decide (d<0)then-((n.natAbs / lz n d:Nat):Int)else((n.natAbs / lz n d:Nat):Int)
def lQ(n d:Int):aD×Int:=
 bif d==0 then(cH,4)else bif decide (2147483647<n.natAbs / lz n d)||decide (2147483647<d.natAbs / lz n d)then(cH,3)
 else(⟨Int64.ofInt (D0 n d),Int64.ofInt ((d.natAbs / lz n d:Nat):Int)⟩,0)
def Fj(a b:Int):Int:=bif decide (a<b)then-1 else bif decide (a>b)then 1 else 0
def qK(t:aM)(a b:aD):Int:=
 bif db t&&(dJ t a&&dJ t b)then bif t.bk==1 then Fj (a.xN.toInt*b.xD.toInt) (b.xN.toInt*a.xD.toInt)else Fj a.xN.toInt b.xN.toInt else 0
def QQ(op:Int)(t:aM)(a b:Int):aD×Int:=
 bif op==4 then(n6 t (a+b),0)else bif op==5 then(n6 t (a-b),0)else bif op==6 then(n6 t (kx (a*b) (mR t) t.cq),0)
 else bif op==8 then(n6 t (-a),0)else bif b==0 then(cH,4)else(n6 t (qv (a*mR t) b t.cq),0)
def Ak(op a b:Int):aD×Int:=
 bif op==7&&b==0 then(cH,4)
 else
  let n:=bif op==4 then a+b else bif op==5 then a-b else bif op==6 then a*b else bif op==7 then Ao a b else-a
  bif decide (-2147483647<=n)&&decide (n<=2147483647)then(⟨Int64.ofInt n,1⟩,0)else(cH,3)
def BA(op:Int)(a b:aD):aD×Int:=
 bif op==4 then lQ (a.xN.toInt*b.xD.toInt+b.xN.toInt*a.xD.toInt) (a.xD.toInt*b.xD.toInt)
 else bif op==5 then lQ (a.xN.toInt*b.xD.toInt-b.xN.toInt*a.xD.toInt) (a.xD.toInt*b.xD.toInt)
 else bif op==6 then lQ (a.xN.toInt*b.xN.toInt) (a.xD.toInt*b.xD.toInt)
 else bif op==7 then lQ (a.xN.toInt*b.xD.toInt) (a.xD.toInt*b.xN.toInt)
 else(⟨-a.xN,a.xD⟩,0)
def qc(op:Int)(t:aM)(a b:aD):aD×Int:=
 bif decide (op<4)||decide (op>10)then(cH,1)else bif !db t then(cH,10)
 else bif !dJ t a||(!(op==8)&& !dJ t b)then(cH,1)
 else bif op==9 then(bif decide (qK t a b>0)then b else a,0)else bif op==10 then(bif decide (qK t a b<0)then b else a,0)
 else bif t.bk==2 then QQ op t a.xN.toInt b.xN.toInt else bif t.bk==3 then Ak op a.xN.toInt b.xN.toInt else BA op a b
def yv(t:aM)(v:aD):aD:=bif t.bk==2 then(lQ v.xN.toInt (mR t)).1 else v
def IT(from_ zO:aM)(v:aD):aD×Int:=
 bif !db from_|| !db zO then(cH,10)else bif !dJ from_ v then(cH,1)
 else
  let x:=yv from_ v
  bif zO.bk==3 then(⟨Int64.ofInt (x.xN.toInt / x.xD.toInt),1⟩,0)else bif zO.bk==2 then(n6 zO (kx (x.xN.toInt*mR zO) x.xD.toInt zO.cq),0)else(x,0)
structure CX(t:aM):Prop where
 b1:2<=t.cf
 b2:t.cf<=31
 f1:0<=t.bQ
 f2:t.bQ<=30
 r1:1<=t.cq
 r2:t.cq<=4
 o:t.ct=1\/t.ct=2
theorem np{t:aM}(h:db t=true)(hk:t.bk=2):CX t:=by
 unfold db at h;rw[hk]at h;have h':(decide (2<=t.cf)&&(decide (t.cf<=31)&&(decide (0<=t.bQ)&&(decide (t.bQ<=30)&&(decide (1<=t.cq)&&(decide (t.cq<=4)&&(t.ct==1||t.ct==2)))))))=true:=h;simp only[aot,decide_eq_true_eq,Bool.or_eq_true,beq_iff_eq]at h';obtain⟨J,h2,h3,h4,h5,h6,h7⟩:=h';exact⟨J,h2,h3,h4,h5,h6,h7⟩
theorem kinds{t:aM}(h:db t=true):t.bk=1\/t.bk=2\/t.bk=3:=by
 unfold db at h;by_cases J:t.bk=1
 ·exact .inl J
 ·by_cases h2:t.bk=2
  ·exact .inr (.inl h2)
  ·by_cases h3:t.bk=3
   ·exact .inr (.inr h3)
   ·simp [J,h2,h3]at h
theorem Re{t:aM}(f:CX t):2<=jk t/\jk t<=1073741824:=
 agH (λx=>2<=x/\x<=1073741824) (by decide) f.b1 f.b2
theorem Ur(P:Int->Prop)(h:∀k:Fin 31,P (2^k.val)){b:Int}(J:0<=b)(h2:b<=30):P (2^b.toNat):=
 h ⟨b.toNat,by omega⟩
theorem ab0{t:aM}(f:CX t):1<=mR t/\mR t<=1073741824:=
 Ur (λx=>1<=x/\x<=1073741824) (by decide) f.f1 f.f2
structure Ug(t:aM)(v:aD):Prop where
 d:v.xD.toInt=1
 n1: -jk t<=v.xN.toInt
 n2:v.xN.toInt<=jk t-1
theorem rL{t:aM}{v:aD}(h:dJ t v=true)(hk:t.bk=2):Ug t v:=by
 unfold dJ at h;rw[hk]at h;have h':(v.xD.toInt==1&&(decide (-(2^(t.cf-1).toNat)<=v.xN.toInt)&&decide (v.xN.toInt<2^(t.cf-1).toNat)))=true:=h;simp only[aot,decide_eq_true_eq,beq_iff_eq]at h';obtain⟨J,h2,h3⟩:=h';exact⟨J,h2,by unfold jk;omega⟩
structure jz(v:aD):Prop where
 n1: -2147483647<=v.xN.toInt
 n2:v.xN.toInt<=2147483647
 d1:1<=v.xD.toInt
 d2:v.xD.toInt<=2147483647
 g:Nat.gcd v.xN.toInt.natAbs v.xD.toInt.toNat=1
theorem sw{t:aM}{v:aD}(h:dJ t v=true)(hk:t.bk≠2):jz v:=by
 unfold dJ at h;rw[beq_false_of_ne hk]at h;simp only[cond_false,aot,decide_eq_true_eq]at h;obtain⟨J,h2,h3,h4,h5⟩:=h;refine⟨h2,J,h3,h4,?_⟩;cases IL:t.bk==3 with
 |true=>
  rw[IL]at h5;have h6:v.xD.toInt=1:=by simpa using h5
  rw[h6];exact Nat.gcd_one_right _
 |false=>rw[IL]at h5;simpa using h5
theorem ag9{t:aM}{v:aD}(h:dJ t v=true)(hk:t.bk=3):v.xD.toInt=1:=by
 unfold dJ at h;rw[hk]at h;have h':(decide (v.xN.toInt<=2147483647)&&(decide (-2147483647<=v.xN.toInt)&&(decide (1<=v.xD.toInt)&&(decide (v.xD.toInt<=2147483647)&&(v.xD.toInt==1)))))=true:=h;simp only[aot,beq_iff_eq]at h';exact h'.2.2.2.2
theorem oC{n:Int}(J: -9223372036854775808<=n)(h2:n<=9223372036854775807):(Int64.ofInt n).toInt=n:=Int64.toInt_ofInt_of_le (by omega) (by omega)
structure adJ(n d:Int)(v:aD):Prop where
 n1: -2147483647<=v.xN.toInt
 n2:v.xN.toInt<=2147483647
 d1:1<=v.xD.toInt
 d2:v.xD.toInt<=2147483647
 g:Nat.gcd v.xN.toInt.natAbs v.xD.toInt.toNat=1
 en:v.xN.toInt=D0 n d
 ed:v.xD.toInt=((d.natAbs / lz n d:Nat):Int)
theorem ags{n d:Int}{v:aD}(h:lQ n d=(v,0)):adJ n d v:=by
 unfold lQ at h;by_cases hd:d=0
 ·subst hd;cases h
 ·rw[beq_false_of_ne hd]at h;simp only[cond_false]at h;cases hc:(decide (2147483647<n.natAbs / lz n d)||decide (2147483647<d.natAbs / lz n d))with
  |true=>rw[hc]at h;cases h
  |false=>
   rw[hc]at h;cases h
   rw[ape,decide_eq_false_iff_not,decide_eq_false_iff_not]at hc;have hg:0<lz n d:=Nat.gcd_pos_of_pos_right _ (by omega);have hq:0<d.natAbs / lz n d:=Nat.div_pos (Nat.le_of_dvd (by omega) (Nat.gcd_dvd_right _ _)) hg;have hN:(D0 n d).natAbs=n.natAbs / lz n d:=by
     unfold D0;cases (decide (n<0) !=decide (d<0))
     ·exact Int.natAbs_natCast _
     ·exact(Int.natAbs_neg _).trans (Int.natAbs_natCast _)
   have e1:=oC (n:=D0 n d) (by omega) (by omega);have e2:=oC (n:=((d.natAbs / lz n d:Nat):Int)) (by omega) (by omega);refine⟨?_,?_,?_,?_,?_,e1,e2⟩
   ·show _<=(Int64.ofInt _).toInt;rw[e1];omega
   ·show(Int64.ofInt _).toInt<=_;rw[e1];omega
   ·show _<=(Int64.ofInt _).toInt;rw[e2];omega
   ·show(Int64.ofInt _).toInt<=_;rw[e2];omega
   ·show Nat.gcd (Int64.ofInt _).toInt.natAbs (Int64.ofInt _).toInt.toNat=1;rw[e1,e2,hN,aoS];exact akd (by omega)
theorem an6{n S:Int}(J: -1073741824<=n)(h2:n<=1073741824)(s1:1<=S)(s2:S<=1073741824):∃v,lQ n S=(v,0):=by
 unfold lQ;rw[beq_false_of_ne (show S≠0 by omega)];have a1:n.natAbs / lz n S<=n.natAbs:=Nat.div_le_self _ _;have a2:S.natAbs / lz n S<=S.natAbs:=Nat.div_le_self _ _;rw[ao9 (show ¬2147483647<n.natAbs / lz n S by omega),ao9 (show ¬2147483647<S.natAbs / lz n S by omega)];exact⟨_,rfl⟩
theorem alB{a b:aD}(J:a.xN.toInt=b.xN.toInt)(h2:a.xD.toInt=b.xD.toInt):a=b:=by
 cases a;cases b
 congr 1
 ·exact Int64.toInt_inj.1 J
 ·exact Int64.toInt_inj.1 h2
theorem alK{t:aM}{v:aD}(ht:db t=true)(hv:dJ t v=true):jz (yv t v):=by
 unfold yv;rcases kinds ht with hk|hk|hk
 ·rw[hk];exact sw hv (by omega)
 ·rw[hk];have F:=np ht hk;have A:=rL hv hk;have hH:=Re F;have hS:=ab0 F;obtain⟨x,hx⟩:=an6 (n:=v.xN.toInt) (S:=mR t) (by have:=A.n1;omega) (by have:=A.n2;omega) hS.1 hS.2;have L:=ags hx;show jz (lQ v.xN.toInt (mR t)).1;rw[hx];exact⟨L.n1,L.n2,L.d1,L.d2,L.g⟩
 ·rw[hk];exact sw hv (by omega)
theorem QJ{a b:Int64}(J: -9223372036854775808<=a.toInt+b.toInt)(h2:a.toInt+b.toInt<=9223372036854775807):(a+b).toInt=a.toInt+b.toInt:=by rw[ai6,IntKind.wrap_i64];omega
theorem CP{a b:Int64}(J: -9223372036854775808<=a.toInt-b.toInt)(h2:a.toInt-b.toInt<=9223372036854775807):(a-b).toInt=a.toInt-b.toInt:=by rw[ahR,IntKind.wrap_i64];omega
theorem WU{a b:Int64}(J: -9223372036854775808<=a.toInt*b.toInt)(h2:a.toInt*b.toInt<=9223372036854775807):(a*b).toInt=a.toInt*b.toInt:=by rw[aeS,IntKind.wrap_i64];omega
theorem Qj{a:Int64}(J: -9223372036854775807<=a.toInt):(-a).toInt= -a.toInt:=by
 have:=Int64.toInt_lt a;rw[Int64.toInt_neg,Int.bmod_def];omega
theorem NT{a b A B:Int}(ha: -A<=a)(VS:a<=A)(hb: -B<=b)(fu:b<=B): -(A*B)<=a*b/\a*b<=A*B:=by
 have J:a.natAbs<=A.natAbs:=by omega
 have h2:b.natAbs<=B.natAbs:=by omega
 have h3:(a*b).natAbs<=(A*B).natAbs:=by rw[Int.natAbs_mul,Int.natAbs_mul];exact Nat.mul_le_mul J h2
 have h4:0<=A*B:=Int.mul_nonneg (by omega) (by omega);omega
theorem amY:∀n:Fin 31,IntKind.u64.wrap (n.val:Int)=(n.val:Int)/\(Int64.ofInt ((1:Int)*2^(min n.val (IntKind.bits .i64)))).toInt=2^n.val/\min n.val (IntKind.bits .i64)=n.val:=by decide+kernel
theorem HQ{f:Int}(J:0<=f)(h2:f<=30):IntKind.u64.wrap f=f/\(Int64.ofInt ((1:Int)*2^(min f.toNat (IntKind.bits .i64)))).toInt=2^f.toNat/\min f.toNat (IntKind.bits .i64)=f.toNat:=by
 obtain⟨n,rfl⟩:∃n:Nat,f=n:=⟨f.toNat,by omega⟩;have:=amY ⟨n,by omega⟩
 simpa using this
theorem ai1:∀n:Fin 30,(decide ((0:Int)<=(IntKind.u64.wrap (aQ ((64:Int)-((n.val+2:Nat):Int))))))=true/\min ((IntKind.u64.wrap (aQ ((64:Int)-((n.val+2:Nat):Int))))).toNat (IntKind.bits .u64)=62-n.val/\
 min ((IntKind.u64.wrap (aQ ((64:Int)-((n.val+2:Nat):Int))))).toNat (IntKind.bits .i64)=62-n.val/\(2:Int)^(62-n.val)*(2*2^(n.val+1))=18446744073709551616/\(0:Int)<2^(62-n.val):=by decide+kernel
theorem alU{b:Int}(J:2<=b)(h2:b<=31):∃k:Nat,(decide ((0:Int)<=(IntKind.u64.wrap (aQ ((64:Int)-b)))))=true/\min ((IntKind.u64.wrap (aQ ((64:Int)-b)))).toNat (IntKind.bits .u64)=k/\
 min ((IntKind.u64.wrap (aQ ((64:Int)-b)))).toNat (IntKind.bits .i64)=k/\(2:Int)^k*(2*2^(b-1).toNat)=18446744073709551616/\(0:Int)<2^k:=by
 obtain⟨n,rfl⟩:∃n:Nat,b=n:=⟨b.toNat,by omega⟩;have:=ai1 ⟨n-2,by omega⟩;simp only[show n-2+2=n by omega,show n-2+1=n-1 by omega]at this;rw[show((n:Int)-1).toNat=n-1 by omega];exact⟨_,this⟩
theorem Qy(n:Int64):Int64.ofInt n.toInt=n:=MD (by rw[Gg,IntKind.wrap_i64];have:=mI n;omega)
theorem RF{q:Int64}{z:Int}(h:q.toInt=z):q=Int64.ofInt z:=by rw[<-h,Qy]
theorem zw(N:Nat){t:aM}(F:CX t)(n:Int64):oh N t n=some (n6 t n.toInt):=by
 obtain⟨f1,f2,f3,f4,f5,f6⟩:=PK F.b1 F.b2;obtain⟨k,u1,u2,u3,u4,u5⟩:=alU F.b1 F.b2;have hH:=Re F;unfold oh Sz Ga Ci A0;rw[gU,aoq,aoq,mH,ao8 F.b1,ao8 F.b2];simp only[Bool.and_self,cond_true];rw[f1,u1];simp only[cond_true,aoq];rw[f3,f4,u2,u3]
 change _=some (⟨Int64.ofInt (zG (t.ct==2) (jk t) n.toInt),1⟩:aD)
 have lO:(-(Int64.ofInt ((1:Int)*2^(min ((IntKind.u64.wrap (aQ (t.cf-(1:Int))))).toNat (IntKind.bits .i64)))))=Int64.ofInt (-jk t):=RF f3;have lE:((Int64.ofInt ((1:Int)*2^(min ((IntKind.u64.wrap (aQ (t.cf-(1:Int))))).toNat (IntKind.bits .i64))))-(1:Int64))=Int64.ofInt (jk t-1):=RF f4;rw[lO,lE];rw[mH,gU];have hr:(decide (-(2^(t.cf-1).toNat)<=n.toInt)&&decide (n.toInt<=2^(t.cf-1).toNat-1))=(decide (-jk t<=n.toInt)&&decide (n.toInt<=jk t-1)):=rfl;have hm:(t.ct !=1&&t.ct !=2)=false:=by rcases F.o with h|h<;>rw[h]<;>rfl
 rw[hm];simp only[aoq,cond_false];rw[gU,hr];by_cases J: -jk t<=n.toInt
 ·by_cases h2:n.toInt<=jk t-1
  ·rw[ao8 J,ao8 h2,aju (by omega) J h2,Qy];rfl
  ·rw[ao8 J,ao9 h2];simp only[Bool.and_false,cond_false];rcases F.o with ho|ho
   ·rw[ho,ao9 (show ¬n.toInt< -2^(t.cf-1).toNat from λh=>by have:n.toInt< -jk t:=h;omega)];simp only[apa,cond_true,aoq,cond_false];rw[show((1:Int)==2)=false from rfl];unfold zG;simp only[cond_false];rw[show max (-jk t) (min (jk t-1) n.toInt)=jk t-1 by omega]
   ·rw[ho];show some (⟨Int64.ofInt (((Int64.ofInt _).toInt).fdiv (2^k)),1⟩:aD)=_;rw[Gg,IntKind.wrap_i64,mj,mj,Int.fdiv_eq_ediv_of_nonneg _ (by omega),Int.mul_emod,Int.emod_emod,<-Int.mul_emod,YF u4 u5 (by unfold jk at hH;omega)];rfl
 ·rw[ao9 J];simp only[Bool.false_and,cond_false];rcases F.o with ho|ho
  ·have aN:n.toInt< -jk t:=by omega
   rw[ho,ao8 (show n.toInt< -2^(t.cf-1).toNat from aN)];simp only[apa,cond_true,aoq];rw[show((1:Int)==2)=false from rfl];unfold zG;simp only[cond_false];rw[show max (-jk t) (min (jk t-1) n.toInt)= -jk t by omega];rfl
  ·rw[ho];show some (⟨Int64.ofInt (((Int64.ofInt _).toInt).fdiv (2^k)),1⟩:aD)=_;rw[Gg,IntKind.wrap_i64,mj,mj,Int.fdiv_eq_ediv_of_nonneg _ (by omega),Int.mul_emod,Int.emod_emod,<-Int.mul_emod,YF u4 u5 (by unfold jk at hH;omega)];rfl
theorem aeU(N:Nat)(hN:2147483648<N){t:aM}(v:aD)(ht:db t=true)(hk:t.bk=2):ta N t v=some (dJ t v):=by
 have h:=ql N hN t v ht;unfold mD at h;rw[pw,ht,aoq,hk]at h;have h':Option.bind (ta N t v) (λx=>some x)=some (dJ t v):=h;cases hx:ta N t v with
 |none=>rw[hx]at h';cases h'
 |some b=>rw[hx]at h';exact h'
def B7:aM:=⟨1,0,0,0,0⟩
theorem Wx:db B7=true:=rfl
theorem oa(N:Nat)(hN:2147483648<N)(v:aD):j9 N v=some (dJ B7 v):=by
 have h:=ql N hN B7 v Wx;unfold mD at h;rw[pw,Wx,aoq]at h;have h':Option.bind (j9 N v) (λx=>some x)=some (dJ B7 v):=h;cases hx:j9 N v with
 |none=>rw[hx]at h';cases h'
 |some b=>rw[hx]at h';exact h'
theorem jz.ok{v:aD}(h:jz v):dJ B7 v=true:=by
 unfold dJ;show(decide (v.xN.toInt<=2147483647)&&(decide (-2147483647<=v.xN.toInt)&&(decide (1<=v.xD.toInt)&&(decide (v.xD.toInt<=2147483647)&&(Nat.gcd v.xN.toInt.natAbs v.xD.toInt.toNat==1)))))=true;rw[ao8 h.n2,ao8 h.n1,ao8 h.d1,ao8 h.d2,h.g];rfl
theorem YO(N:Nat)(hN:2147483648<N){t:aM}(ht:db t=true)(hk:t.bk=2):∀(l:apf aD)(k:Nat),(∀v∈l,dJ t v=true)->JM N t l k=some 0
 |[],_,_=>rfl
 |v::l,k,h=>by
  rw[JM,aeU N hN v ht hk,h v aox];exact YO N hN ht hk l (k+1) λx hx=>h x (aoA _ hx)
theorem abr(N:Nat){t:aM}(ht:db t=true)(hk:t.bk=2):tE N t=some 0:=by
 have F:=np ht hk;have ho:(t.ct==1||t.ct==2)=true:=by rcases F.o with h|h<;>rw[h]<;>rfl
 rw[SC N t (by rw[hk];rfl),ao8 F.b1,ao8 F.b2,ao8 F.f1,ao8 F.f2,ao8 F.r1,ao8 F.r2,ho];rfl
theorem aa9(N:Nat)(hN:2147483648<N){t:aM}(ht:db t=true)(hk:t.bk=2){l:apf aD}(h:∀v∈l,dJ t v=true):ra N t l=some 0:=by
 unfold ra;rw[abr N ht hk,aoq];exact YO N hN ht hk l 0 h
theorem aiY{a b:Nat}(hb:0<b)(ha:a<=9223372036854775808)(jZ:b<=9223372036854775808)(neg:Bool)(how:Int):tu (a:Int) (b:Int) neg how=((m9 a b neg how:Nat):Int):=by
 have hq:a / b<=a:=Nat.div_le_self _ _;have hr:a%b<b:=Nat.mod_lt _ hb;have e1:IntKind.u64.wrap ((a:Int).tdiv (b:Int))=((a / b:Nat):Int):=by rw[<-Int.ofNat_tdiv,mj];generalize a / b=q at*;omega
 have e2:(a:Int).tmod (b:Int)=((a%b:Nat):Int):=(Int.ofNat_tmod a b).symm;have e3:IntKind.u64.wrap (2*((a%b:Nat):Int))=((2*(a%b):Nat):Int):=by rw[mj];generalize a%b=q at*;omega
 have e4:IntKind.u64.wrap (((a / b:Nat):Int)+1)=((a / b+1:Nat):Int):=by rw[mj];generalize a / b=q at*;omega
 have e5:((a / b:Nat):Int).tmod 2=((a / b%2:Nat):Int):=(Int.ofNat_tmod (a / b) 2).symm;unfold tu ir m9 yA;simp only[e1,e2,e3,e4,e5];have c1:(((a%b:Nat):Int)==0)=(a%b==0):=qF _ 0;have c2:decide (((2*(a%b):Nat):Int)<(b:Int))=decide (2*(a%b)<b):=m6 (by omega);have c3:(((2*(a%b):Nat):Int)==(b:Int))=(2*(a%b)==b):=qF _ _;have c4:(((a / b%2:Nat):Int)==0)=(a / b%2==0):=qF _ 0;rw[c1,c2,c3,c4];generalize ((a%b==0||how==3)||((how==1&& !neg)||(how==2&&neg))||(how==4&&(decide (2*(a%b)<b)||(2*(a%b)==b&&a / b%2==0))))=z;cases z<;>rfl
theorem Yo(N:Nat)(v:Int64):Dv N v=some ((v.toInt.natAbs:Nat):Int):=by
 unfold Dv;have:=mI v;by_cases h:v.toInt<0
 ·rw[ao8 h];simp only[cond_true,mj]
  congr 1
  omega
 ·rw[ao9 h];simp only[cond_false,mj]
  congr 1
  omega
theorem ad1{a b:Nat}(neg:Bool)(how:Int):m9 a b neg how<=a+1:=by
 have hq:a / b<=a:=Nat.div_le_self _ _;unfold m9;cases yA a b neg how
 ·simp only[cond_false];omega
 ·simp only[cond_true];omega
theorem Sj(N:Nat)(n d:Int64){how:Int}(J:1<=how)(h4:how<=4)(b1: -4611686018427387904<=n.toInt)(b2:n.toInt<=4611686018427387904):
 Aj N n d how=some (bif d.toInt==0 then(0,4)else(Int64.ofInt (qv n.toInt d.toInt how),0)):=by
 unfold Aj Co;rw[mH,gU,ao8 J,ao8 h4];simp only[Bool.and_self,aoq,cond_true];by_cases hd:d.toInt=0
 ·rw[hd];rfl
 ·have zh:=mI d;rw[beq_false_of_ne hd];simp only[cond_false];rw[Yo,Yo];unfold QN;simp only[aoq];rw[show(((d.toInt.natAbs:Nat):Int) !=0)=true by rw[bne_iff_ne];omega];simp only[cond_true,aoq];rw[aiY (by omega) (by omega) (by omega)];have key:=aiy (n:=n.toInt) (d:=d.toInt) hd J h4;have hb:=ad1 (a:=n.toInt.natAbs) (b:=d.toInt.natAbs);cases hs:(decide (n.toInt<0)==decide (d.toInt<0))with
  |true=>
   have cC:(decide (n.toInt<0) !=decide (d.toInt<0))=false:=by unfold bne;rw[hs];rfl
   rw[cC]at key;simp only[cond_false]at key;have:=hb false how;simp only[Bool.not_true,cond_true];rw[mH,ao9 (show ¬(9223372036854775808:Int)<=((m9 n.toInt.natAbs d.toInt.natAbs false how:Nat):Int) by omega)];simp only[cond_false];rw[key]
  |false=>
   have cC:(decide (n.toInt<0) !=decide (d.toInt<0))=true:=by unfold bne;rw[hs];rfl
   rw[cC]at key;simp only[cond_true]at key;have:=hb true how;simp only[Bool.not_false,cond_false];rw[<-key]
   congr 2
   refine MD ?_;rw[Gg,Gg,mj,IntKind.wrap_i64,IntKind.wrap_i64];omega
theorem tD{t:aM}(F:CX t){v:aD}(V:Ug t v): -1073741824<=v.xN.toInt/\v.xN.toInt<=1073741824:=by
 have:=Re F;have:=V.n1;have:=V.n2;omega
structure Fx(N:Nat)(t:aM)(a b:aD):Prop where
 hN:2147483648<N
 ht:db t=true
 hk:t.bk=2
 ha:dJ t a=true
 hb:dJ t b=true
theorem Fx.fK{N:Nat}{t:aM}{a b:aD}(h:Fx N t a b):ra N t [a,b]=some 0:=aa9 N h.hN h.ht h.hk λv hv=>by
 simp only[aoV,ao7,or_false]at hv;rcases hv with rfl|rfl
 ·exact h.ha
 ·exact h.hb
theorem akK{N:Nat}{t:aM}{a:aD}(h:Fx N t a a):DN N t a=some (n6 t (-a.xN.toInt),0):=by
 have B:=tD (np h.ht h.hk) (rL h.ha h.hk);unfold DN NK Po;rw[h.fK];show Option.bind (Option.bind (oh N t (-a.xN)) (λv6=>some (v6,0))) _=_;rw[zw N (np h.ht h.hk),Qj (by omega)];rfl
theorem ah6{N:Nat}{t:aM}{a b:aD}(h:Fx N t a b):C0 N t a b=some (n6 t (a.xN.toInt+b.xN.toInt),0):=by
 have B:=tD (np h.ht h.hk) (rL h.ha h.hk);have C:=tD (np h.ht h.hk) (rL h.hb h.hk);unfold C0 Q8 Rz;rw[h.fK];show Option.bind (Option.bind (oh N t (a.xN+b.xN)) (λv6=>some (v6,0))) _=_;rw[zw N (np h.ht h.hk),QJ (by omega) (by omega)];rfl
theorem agw{N:Nat}{t:aM}{a b:aD}(h:Fx N t a b):DM N t a b=some (n6 t (a.xN.toInt-b.xN.toInt),0):=by
 have B:=tD (np h.ht h.hk) (rL h.ha h.hk);have C:=tD (np h.ht h.hk) (rL h.hb h.hk);unfold DM Mz Qg;rw[h.fK];show Option.bind (Option.bind (oh N t (a.xN-b.xN)) (λv6=>some (v6,0))) _=_;rw[zw N (np h.ht h.hk),CP (by omega) (by omega)];rfl
theorem GU{n d how:Int}(hd:0<d)(J: -4611686018427387904<=n)(h2:n<=4611686018427387904):(Int64.ofInt (kx n d how)).toInt=kx n d how:=by
 have:=akh (how:=how) hd (B:=4611686018427387904) (by decide) J h2;exact oC (by omega) (by omega)
theorem ak9{n d how:Int}(hd:d≠0)(J: -4611686018427387904<=n)(h2:n<=4611686018427387904):(Int64.ofInt (qv n d how)).toInt=qv n d how:=by
 unfold qv;by_cases h:d<0
 ·rw[ao8 h];exact GU (by omega) (by omega) (by omega)
 ·rw[ao9 h];exact GU (by omega) J h2
theorem VT{n d how:Int}(hd:0<d):qv n d how=kx n d how:=by unfold qv;rw[ao9 (show ¬d<0 by omega)];rfl
theorem am7{N:Nat}{t:aM}{a b:aD}(h:Fx N t a b):Eu N t a b=some (n6 t (kx (a.xN.toInt*b.xN.toInt) (mR t) t.cq),0):=by
 have F:=np h.ht h.hk;have B:=tD F (rL h.ha h.hk);have C:=tD F (rL h.hb h.hk);have M:=NT B.1 B.2 C.1 C.2;have S:=ab0 F;obtain⟨s1,s2,s3⟩:=HQ F.f1 F.f2;unfold Eu P8 Nh;have e:=WU (a:=a.xN) (b:=b.xN) (by omega) (by omega);have wz:(Int64.ofInt ((1:Int)*2^(min (t.bQ).toNat (IntKind.bits .i64)))).toInt=mR t:=s2;rw[h.fK,ao8 F.f1,Sj N _ _ F.r1 F.r2 (by rw[e];omega) (by rw[e];omega),wz,e,beq_false_of_ne (show mR t≠0 by omega)];simp only[aoq,cond_true,cond_false,bne_self_eq_false];rw[zw N F,VT (by omega),GU (by omega) (by omega) (by omega)];rfl
theorem VC{n:Int64}{f:Int}(J:0<=f)(h2:f<=30)(b1: -4294967296<=n.toInt)(b2:n.toInt<=4294967296):
 (Int64.ofInt (n.toInt*2^(min f.toNat (IntKind.bits .i64)))).toInt=n.toInt*2^f.toNat/\-4611686018427387904<=n.toInt*2^f.toNat/\n.toInt*2^f.toNat<=4611686018427387904:=by
 obtain⟨s1,s2,s3⟩:=HQ J h2;have S:=Ur (λx=>1<=x/\x<=1073741824) (by decide) J h2;have M:=NT b1 b2 (show-1073741824<=2^f.toNat by omega) S.2;rw[s3];exact⟨oC (by omega) (by omega),by omega,by omega⟩
theorem acH{N:Nat}{t:aM}{a b:aD}(h:Fx N t a b):Cc N t a b=some (bif b.xN.toInt==0 then(cH,4)else(n6 t (qv (a.xN.toInt*mR t) b.xN.toInt t.cq),0)):=by
 have F:=np h.ht h.hk;have B:=tD F (rL h.ha h.hk);obtain⟨e,e1,e2⟩:=VC (n:=a.xN) F.f1 F.f2 (by omega) (by omega);unfold Cc Nb Np;rw[h.fK,ao8 F.f1,Sj N _ _ F.r1 F.r2 (by rw[e];omega) (by rw[e];omega),e];by_cases hb:b.xN.toInt=0
 ·rw[hb];rfl
 ·rw[beq_false_of_ne hb];simp only[aoq,cond_true,cond_false,bne_self_eq_false];rw[zw N F,ak9 hb e1 e2];rfl
theorem CN(N:Nat)(hN:9223372036854775808<N)(n d:Int64):tV N n d=some (lQ n.toInt d.toInt):=by
 unfold tV lQ;have hn:=mI n;have hdd:=mI d;by_cases hd:d.toInt=0
 ·rw[hd];rfl
 ·rw[beq_false_of_ne hd];simp only[cond_false];rw[QF,QF];unfold DU;simp only[aoq];rw[Nn N N _ _ (by omega)];simp only[aoq];have hg:0<Nat.gcd n.toInt.natAbs d.toInt.natAbs:=Nat.gcd_pos_of_pos_right _ (by omega);rw[show(((Nat.gcd n.toInt.natAbs d.toInt.natAbs:Nat):Int) !=0)=true by rw[bne_iff_ne];omega]
  change _=some (bif decide (2147483647<n.toInt.natAbs / Nat.gcd n.toInt.natAbs d.toInt.natAbs)||decide (2147483647<d.toInt.natAbs / Nat.gcd n.toInt.natAbs d.toInt.natAbs)then(cH,3)else(⟨Int64.ofInt (bif decide (n.toInt<0) !=decide (d.toInt<0)then-((n.toInt.natAbs / Nat.gcd n.toInt.natAbs d.toInt.natAbs:Nat):Int)else((n.toInt.natAbs / Nat.gcd n.toInt.natAbs d.toInt.natAbs:Nat):Int)),Int64.ofInt ((d.toInt.natAbs / Nat.gcd n.toInt.natAbs d.toInt.natAbs:Nat):Int)⟩,0))
  generalize hgg:Nat.gcd n.toInt.natAbs d.toInt.natAbs=g at*;have a1:n.toInt.natAbs / g<=n.toInt.natAbs:=Nat.div_le_self _ _;have a2:d.toInt.natAbs / g<=d.toInt.natAbs:=Nat.div_le_self _ _;have e1:IntKind.u64.wrap ((n.toInt.natAbs:Int).tdiv (g:Int))=((n.toInt.natAbs / g:Nat):Int):=by rw[<-Int.ofNat_tdiv,mj];generalize n.toInt.natAbs / g=q at*;omega
  have e2:IntKind.u64.wrap ((d.toInt.natAbs:Int).tdiv (g:Int))=((d.toInt.natAbs / g:Nat):Int):=by rw[<-Int.ofNat_tdiv,mj];generalize d.toInt.natAbs / g=q at*;omega
  simp only[cond_true];rw[e1,e2,mL,aoq,m6 (p:=((n.toInt.natAbs / g:Nat):Int)>2147483647) (q:=2147483647<n.toInt.natAbs / g) (by omega),m6 (p:=((d.toInt.natAbs / g:Nat):Int)>2147483647) (q:=2147483647<d.toInt.natAbs / g) (by omega)];cases hc:(decide (2147483647<n.toInt.natAbs / g)||decide (2147483647<d.toInt.natAbs / g))with
  |true=>rfl
  |false=>
   rw[ape,decide_eq_false_iff_not,decide_eq_false_iff_not]at hc;unfold bne;cases (decide (n.toInt<0)==decide (d.toInt<0))with
   |true=>rfl
   |false=>
    simp only[cond_false,Bool.not_false,cond_true];clear e1 e2;generalize n.toInt.natAbs / g=p at*;generalize d.toInt.natAbs / g=q at*
    congr 3
    refine MD ?_;rw[Qj (by rw[oC]<;>omega),oC (by omega) (by omega),oC (by omega) (by omega)]
theorem C2{a b:Int}(ha: -2147483647<=a)(VS:a<=2147483647)(hb: -2147483647<=b)(fu:b<=2147483647): -4611686014132420609<=a*b/\a*b<=4611686014132420609:=by
 have:=NT ha VS hb fu;omega
theorem jz.d0{v:aD}(h:jz v): -2147483647<=v.xD.toInt:=by have:=h.d1;omega
theorem nW{a b:Int64}(J: -2147483647<=a.toInt)(h2:a.toInt<=2147483647)(h3: -2147483647<=b.toInt)(h4:b.toInt<=2147483647):(a*b).toInt=a.toInt*b.toInt:=by
 have:=C2 J h2 h3 h4;exact WU (by omega) (by omega)
theorem ael{a b:aD}(A:jz a)(B:jz b):(a.xN*b.xD+b.xN*a.xD).toInt=a.xN.toInt*b.xD.toInt+b.xN.toInt*a.xD.toInt:=by
 have p:=C2 A.n1 A.n2 B.d0 B.d2;have q:=C2 B.n1 B.n2 A.d0 A.d2;rw[QJ]<;>rw[nW A.n1 A.n2 B.d0 B.d2,nW B.n1 B.n2 A.d0 A.d2]<;>omega
theorem alj{a b:aD}(A:jz a)(B:jz b):(a.xN*b.xD-b.xN*a.xD).toInt=a.xN.toInt*b.xD.toInt-b.xN.toInt*a.xD.toInt:=by
 have p:=C2 A.n1 A.n2 B.d0 B.d2;have q:=C2 B.n1 B.n2 A.d0 A.d2;rw[CP]<;>rw[nW A.n1 A.n2 B.d0 B.d2,nW B.n1 B.n2 A.d0 A.d2]<;>omega
theorem ahU{N:Nat}(hN:9223372036854775808<N){a b:aD}(A:jz a)(B:jz b):Fu N a b=some (lQ (a.xN.toInt*b.xD.toInt+b.xN.toInt*a.xD.toInt) (a.xD.toInt*b.xD.toInt)):=by
 unfold Fu;rw[oa N (by omega),oa N (by omega),A.ok,B.ok,CN N hN,ael A B,nW A.d0 A.d2 B.d0 B.d2];rfl
theorem anu{N:Nat}(hN:9223372036854775808<N){a b:aD}(A:jz a)(B:jz b):En N a b=some (lQ (a.xN.toInt*b.xD.toInt-b.xN.toInt*a.xD.toInt) (a.xD.toInt*b.xD.toInt)):=by
 unfold En;rw[oa N (by omega),oa N (by omega),A.ok,B.ok,CN N hN,alj A B,nW A.d0 A.d2 B.d0 B.d2];rfl
theorem ahc{N:Nat}(hN:9223372036854775808<N){a b:aD}(A:jz a)(B:jz b):Cx N a b=some (lQ (a.xN.toInt*b.xN.toInt) (a.xD.toInt*b.xD.toInt)):=by
 unfold Cx;rw[oa N (by omega),oa N (by omega),A.ok,B.ok,CN N hN,nW A.n1 A.n2 B.n1 B.n2,nW A.d0 A.d2 B.d0 B.d2];rfl
theorem amG{N:Nat}(hN:9223372036854775808<N){a b:aD}(A:jz a)(B:jz b):Es N a b=some (lQ (a.xN.toInt*b.xD.toInt) (a.xD.toInt*b.xN.toInt)):=by
 unfold Es;rw[oa N (by omega),oa N (by omega),A.ok,B.ok,CN N hN,nW A.n1 A.n2 B.d0 B.d2,nW A.d0 A.d2 B.n1 B.n2];rfl
theorem ack(N:Nat)(n:Int64):pW N n=some (decide (-2147483647<=n.toInt)&&decide (n.toInt<=2147483647)):=by
 unfold pW;rw[mH,gU];rfl
theorem Yn{a b:Int}: -(a.natAbs:Int)<=a.tdiv b/\a.tdiv b<=(a.natAbs:Int):=by
 have h:(a.tdiv b).natAbs<=a.natAbs:=by rw[Int.natAbs_tdiv];exact Nat.div_le_self _ _
 omega
theorem Tu{a b:Int}(hb:b≠0): -(a.natAbs:Int)<=a.tmod b/\a.tmod b<=(a.natAbs:Int):=by
 have h:(a.tmod b).natAbs<=a.natAbs:=by rw[Int.natAbs_tmod];exact Nat.mod_le _ _
 omega
theorem aj9(N:Nat)(op:Int)(a b:Int64)(J: -2147483647<=a.toInt)(h2:a.toInt<=2147483647)(h3: -2147483647<=b.toInt)(h4:b.toInt<=2147483647)(ho:op=4\/op=5\/op=6\/op=7):
 Ds N op a b=some (Ak op a.toInt b.toInt):=by
 have eA:=QJ (a:=a) (b:=b) (by omega) (by omega);have eS:=CP (a:=a) (b:=b) (by omega) (by omega);have eM:=nW J h2 h3 h4;have fin:∀(z:Int64)(n:Int),z.toInt=n->((pW N z).bind λv=>bif v then some ((⟨z,(1:Int64)⟩:aD),(0:Int))else some (cH,(3:Int)))=some (bif decide (-2147483647<=n)&&decide (n<=2147483647)then(⟨Int64.ofInt n,1⟩,0)else(cH,3)):=λz n hz=>by
  subst hz;rw[ack,aoq,Qy];cases (decide (-2147483647<=z.toInt)&&decide (z.toInt<=2147483647))<;>rfl
 unfold Ds Ak;rcases ho with rfl|rfl|rfl|rfl
 ·exact fin _ _ eA
 ·exact fin _ _ eS
 ·exact fin _ _ eM
 ·show(bif b.toInt==0 then some (cH,(4:Int))else _)=some (bif true&&b.toInt==0 then(cH,4)else bif decide (-2147483647<=Ao a.toInt b.toInt)&&decide (Ao a.toInt b.toInt<=2147483647)then(⟨Int64.ofInt (Ao a.toInt b.toInt),1⟩,0)else(cH,3));by_cases hb:b.toInt=0
  ·rw[hb];rfl
  ·have t1:=Yn (a:=a.toInt) (b:=b.toInt);have t2:=Tu (a:=a.toInt) hb;have q1:(Int64.ofInt (a.toInt.tmod b.toInt)).toInt=a.toInt.tmod b.toInt:=oC (by omega) (by omega);have q2:(Int64.ofInt (a.toInt.tdiv b.toInt)).toInt=a.toInt.tdiv b.toInt:=oC (by omega) (by omega);have q3:((Int64.ofInt (a.toInt.tdiv b.toInt))-(1:Int64)).toInt=a.toInt.tdiv b.toInt-1:=by
    rw[CP]<;>rw[q2,show(1:Int64).toInt=1 from rfl]<;>omega
   have key:=alJ (a:=a.toInt) hb;rw[beq_false_of_ne hb,bne_iff_ne.2 hb,q1];simp only[cond_false,cond_true,Bool.and_false];rw[gU,aoq];have hx:(!(decide (a.toInt<0)==decide (b.toInt<0)))=(decide (a.toInt<0) !=decide (b.toInt<0)):=rfl;rw[hx];cases hz:(a.toInt.tmod b.toInt !=0&&(decide (a.toInt<0) !=decide (b.toInt<0)))with
   |true=>rw[hz]at key;exact fin _ _ (q3.trans key)
   |false=>rw[hz]at key;exact fin _ _ (q2.trans key)
theorem anP(N:Nat)(a b:Int64):AO N a b=some (Fj a.toInt b.toInt):=by
 unfold AO Fj;cases decide (a.toInt<b.toInt)
 ·cases decide (a.toInt>b.toInt)<;>rfl
 ·rfl
theorem YD(N:Nat)(hN:2147483648<N)(t:aM)(a b:aD)(ht:db t=true):EF N t a b=some (qK t a b):=by
 unfold EF qK;rw[ql N hN t a ht,ql N hN t b ht,ht];cases ha:dJ t a with
 |false=>rfl
 |true=>
  cases hb:dJ t b with
  |false=>rfl
  |true=>
   simp only[aoq,cond_true,Bool.not_true,cond_false,Bool.and_self];cases hk:t.bk==1 with
   |true=>
    have gL:t.bk=1:=by simpa using hk
    have A:=sw ha (by omega);have B:=sw hb (by omega);simp only[cond_true];unfold MF;rw[oa N hN,oa N hN,A.ok,B.ok,anP,nW A.n1 A.n2 B.d0 B.d2,nW B.n1 B.n2 A.d0 A.d2];rfl
   |false=>
    simp only[cond_false];unfold Fj;cases decide (a.xN.toInt<b.xN.toInt)
    ·cases decide (a.xN.toInt>b.xN.toInt)<;>rfl
    ·rfl
theorem akZ(N:Nat)(hN:9223372036854775808<N){op:Int}{t:aM}{a b:aD}(ht:db t=true)(ha:dJ t a=true)(hb:dJ t b=true)(ho:op=4\/op=5\/op=6\/op=7):
 Jm N op t a b=some (bif t.bk==2 then QQ op t a.xN.toInt b.xN.toInt else bif t.bk==3 then Ak op a.xN.toInt b.xN.toInt else BA op a b):=by
 unfold Jm;rcases kinds ht with hk|hk|hk
 ·have A:=sw ha (by omega);have B:=sw hb (by omega);rw[hk];rcases ho with rfl|rfl|rfl|rfl
  ·show Option.bind (Fu N a b) _=_;rw[ahU hN A B];rfl
  ·show Option.bind (En N a b) _=_;rw[anu hN A B];rfl
  ·show Option.bind (Cx N a b) _=_;rw[ahc hN A B];rfl
  ·show Option.bind (Es N a b) _=_;rw[amG hN A B];rfl
 ·have X:Fx N t a b:=⟨by omega,ht,hk,ha,hb⟩;rw[hk];rcases ho with rfl|rfl|rfl|rfl
  ·show Option.bind (C0 N t a b) _=_;rw[ah6 X];rfl
  ·show Option.bind (DM N t a b) _=_;rw[agw X];rfl
  ·show Option.bind (Eu N t a b) _=_;rw[am7 X];rfl
  ·show Option.bind (Cc N t a b) _=_;rw[acH X];rfl
 ·have A:=sw ha (by omega);have B:=sw hb (by omega);rw[hk];show Option.bind (Ds N op a.xN b.xN) _=_;rw[aj9 N op _ _ A.n1 A.n2 B.n1 B.n2 ho];rfl
theorem adZ(N:Nat)(hN:2147483648<N){t:aM}{a:aD}(ht:db t=true)(ha:dJ t a=true)(b:Int):HJ N t a=some (bif t.bk==2 then QQ 8 t a.xN.toInt b else bif t.bk==3 then Ak 8 a.xN.toInt b else BA 8 a a):=by
 unfold HJ;rcases kinds ht with hk|hk|hk
 ·rw[hk];rfl
 ·rw[hk];show Option.bind (DN N t a) _=_;rw[akK ⟨hN,ht,hk,ha,ha⟩];rfl
 ·have A:=sw ha (by omega);have D:=ag9 ha hk;have e:(-a.xN).toInt= -a.xN.toInt:=Qj (by have:=A.n1;omega);rw[hk];unfold Ak;rw[show((8:Int)==7&&b==0)=false from rfl,show((8:Int)==4)=false from rfl,show((8:Int)==5)=false from rfl,show((8:Int)==6)=false from rfl,show((8:Int)==7)=false from rfl,show((3:Int)==2)=false from rfl,show((3:Int)==3)=true from rfl];simp only[cond_false,cond_true];rw[ao8 (show-2147483647<=-a.xN.toInt by have:=A.n2;omega),ao8 (show-a.xN.toInt<=2147483647 by have:=A.n1;omega)];simp only[Bool.and_self,cond_true]
  congr 2
  exact alB (by rw[e];exact(oC (by have:=A.n2;omega) (by have:=A.n1;omega)).symm) D
theorem ZA(N:Nat)(hN:2147483648<N){t:aM}{a b:aD}(ht:db t=true)(op:Int):Br N t a b op true=some (bif op==9 then(bif decide (qK t a b>0)then b else a)else(bif decide (qK t a b<0)then b else a),0):=by
 unfold Br;rw[YD N hN t a b ht];simp only[cond_true,aoq];generalize qK t a b=c;cases h9:op==9 with
 |true=>
  by_cases hc:c>0
  ·rw[ao8 hc,bne_iff_ne.2 (show c≠0 by omega)];rfl
  ·rw[ao9 hc];rfl
 |false=>
  by_cases hc:c<0
  ·rw[ao8 hc,ao9 (show ¬c>0 by omega),bne_iff_ne.2 (show c≠0 by omega)];rfl
  ·rw[ao9 hc];by_cases h0:c>0
   ·rw[ao8 h0];rfl
   ·obtain rfl:c=0:=by omega
    rfl
theorem adC(a b c:aD):BA 8 a b=BA 8 a c:=by
 unfold BA;rw[show((8:Int)==4)=false from rfl,show((8:Int)==5)=false from rfl,show((8:Int)==6)=false from rfl,show((8:Int)==7)=false from rfl];simp only[cond_false]
theorem Nt(N:Nat)(hN:9223372036854775808<N)(op:Int)(t:aM)(a b:aD):vO N op t a b=some (qc op t a b):=by
 have ry:2147483648<N:=Nat.lt_trans (by decide) hN;unfold vO qc;rw[mL,aoq,pw,aoq];by_cases h4:op<4
 ·rw[ao8 h4];rfl
 by_cases bG:op<=10
 ·rw[ao9 h4,ao9 (show ¬op>10 by omega)];simp only[Bool.or_self,cond_false];cases ht:db t with
  |false=>rfl
  |true=>
   simp only[cond_true,Bool.not_true,cond_false,bne_self_eq_false];rw[ql N ry t a ht,ql N ry t b ht];cases ha:dJ t a with
   |false=>rfl
   |true=>
    simp only[aoq,cond_true,Bool.not_true,Bool.false_or];rw[zF,gU,aoq];by_cases h8:op=8
    ·subst h8;rw[adZ N ry ht ha b.xN.toInt,adC a a b];rfl
    ·rw[beq_false_of_ne h8];simp only[Bool.not_false,Bool.true_and,cond_false];cases hb:dJ t b with
     |false=>rfl
     |true=>
      simp only[Bool.not_true,cond_false];by_cases h9:op=9
      ·subst h9;rw[show((9:Int)==9)=true from rfl,ZA N ry ht];rfl
      ·rw[beq_false_of_ne h9];simp only[cond_false];by_cases J:op=10
       ·subst J;rw[show((10:Int)==10)=true from rfl,ZA N ry ht];rfl
       ·rw[beq_false_of_ne J];unfold Br;simp only[cond_false];rw[akZ N hN ht ha hb (by omega)];rfl
 ·rw[ao8 (show op>10 by omega),Bool.or_true];rfl
theorem afp(N:Nat)(hN:9223372036854775808<N){t:aM}{v:aD}(ht:db t=true)(hv:dJ t v=true):KB N t v=some (yv t v):=by
 unfold KB yv;cases hk:t.bk==2 with
 |false=>rfl
 |true=>
  have gL:t.bk=2:=by simpa using hk
  have F:=np ht gL;obtain⟨s1,s2,s3⟩:=HQ F.f1 F.f2;have wz:(Int64.ofInt ((1:Int)*2^(min (t.bQ).toNat (IntKind.bits .i64)))).toInt=mR t:=s2;simp only[cond_true];unfold M4;rw[aa9 N (by omega) ht gL (l:=[v]) (by intro x hx;simp only[aoV,ao7,or_false]at hx;subst hx;exact hv),ao8 F.f1,CN N hN,wz];rfl
theorem al3(N:Nat)(hN:2147483648<N){v:aD}(V:jz v):EV N v=some (Int64.ofInt (v.xN.toInt / v.xD.toInt)):=by
 unfold EV GF;have hd:=V.d1;have t1:=Yn (a:=v.xN.toInt) (b:=v.xD.toInt);have t2:=Tu (a:=v.xN.toInt) (show v.xD.toInt≠0 by omega);have n1:=V.n1;have n2:=V.n2;rw[oa N hN,V.ok,bne_iff_ne.2 (show v.xD.toInt≠0 by omega),oC (by omega) (by omega)];simp only[aoq,cond_true];have key:=VO (n:=v.xN.toInt) (d:=v.xD.toInt) (by omega);have q2:(Int64.ofInt (v.xN.toInt.tdiv v.xD.toInt)).toInt=v.xN.toInt.tdiv v.xD.toInt:=oC (by omega) (by omega);cases hz:decide (v.xN.toInt.tmod v.xD.toInt<0)with
 |true=>
  rw[hz]at key;simp only[cond_true]at key ⊢;rw[<-key]
  congr 1
  refine RF ?_;rw[CP]<;>rw[q2,show(1:Int64).toInt=1 from rfl]<;>omega
 |false=>
  rw[hz]at key;simp only[cond_false]at key ⊢;rw[<-key]
theorem ac9(N:Nat)(hN:2147483648<N){t:aM}{v:aD}(ht:db t=true)(hk:t.bk=2)(V:jz v):CS N t v=some (n6 t (kx (v.xN.toInt*mR t) v.xD.toInt t.cq),0):=by
 have F:=np ht hk;obtain⟨s1,s2,s3⟩:=HQ F.f1 F.f2;have n1:=V.n1;have n2:=V.n2;have d1:=V.d1;obtain⟨e,e1,e2⟩:=VC (n:=v.xN) F.f1 F.f2 (by omega) (by omega);unfold CS M9 Co;rw[abr N ht hk,oa N hN,V.ok,s1,mH,gU,ao8 F.r1,ao8 F.r2,ao8 F.f1,ao9 (show ¬t.bQ<0 by have:=F.f1;omega),ao9 (show ¬t.bQ>30 by have:=F.f2;omega)];simp only[aoq,bne_self_eq_false,cond_false,cond_true,Bool.and_self,Bool.not_true];rw[Sj N _ _ F.r1 F.r2 (by rw[e];omega) (by rw[e];omega),e,beq_false_of_ne (show v.xD.toInt≠0 by omega)];simp only[aoq,cond_false,bne_self_eq_false];rw[zw N F,VT (by omega),GU (by omega) e1 e2];rfl
theorem acQ(N:Nat)(hN:9223372036854775808<N)(t u:aM)(v:aD):Kl N t u v=some (IT t u v):=by
 unfold Kl IT;rw[pw,pw];cases ht:db t with
 |false=>rfl
 |true=>
  cases hu:db u with
  |false=>rfl
  |true=>
   simp only[aoq,cond_true,bne_self_eq_false,cond_false,Bool.not_true,Bool.or_self];rw[ql N (by omega) t v ht];cases hv:dJ t v with
   |false=>rfl
   |true=>
    simp only[aoq,cond_true,Bool.not_true,cond_false];have V:=alK ht hv;rw[afp N hN ht hv,aoq];rcases kinds hu with hk|hk|hk
    ·rw[hk];rfl
    ·rw[hk];show Option.bind (CS N u (yv t v)) _=_;rw[ac9 N (by omega) hu hk V];rfl
    ·rw[hk];show Option.bind (EV N (yv t v)) _=_;rw[al3 N (by omega) V];rfl
def yr(d:apf Int):Bool:=decide (d.length<=6)&&(d.all (λn=>decide (1<=n))&&decide (d.foldl (·*·) 1<=4096))
theorem Vj{d:apf Int}:d.all (λn=>decide (1<=n))=true↔∀n∈d,1<=n:=by rw[aoR];simp
theorem Ml(d:apf Int)(a:Int):d.foldl (·*·) a=a*d.foldl (·*·) 1:=by
 induction d generalizing a with
 |nil=>simp
 |cons x d ih=>rw[List.foldl_cons,List.foldl_cons,ih (a*x),ih (1*x),Int.one_mul,Int.mul_assoc]
theorem DB{d:apf Int}(h:∀n∈d,1<=n):1<=d.foldl (·*·) 1:=by
 induction d with
 |nil=>simp
 |cons x d ih=>
  rw[List.foldl_cons,Int.one_mul,Ml];have J:=h x aox;have h2:=ih λn hn=>h n (aoA _ hn);have:=Int.mul_le_mul J h2 (by decide) (by omega);omega
theorem xh{n:Int}(J: -9223372036854775808<=n)(h2:n<=9223372036854775807):aQ n=n:=by unfold aQ;rw[IntKind.wrap_i64];omega
theorem afH{s n:Int}(hs:1<=s)(wj:s<=4096):decide (n>IntKind.i64.wrap ((4096:Int).tdiv s))=decide (4096<s*n):=by
 have e:(4096:Int).tdiv s=4096 / s:=Int.tdiv_eq_ediv_of_nonneg (by decide);have J:0<=4096/ s:=Int.ediv_nonneg (by decide) (by omega);have h2:(4096:Int)/ s<=4096:=Int.ediv_le_self s (by decide);rw[e,show IntKind.i64.wrap ((4096:Int)/ s)=4096 / s from xh (by omega) (by omega)];refine decide_eq_decide.2 ?_;rw[gt_iff_lt,Int.ediv_lt_iff_lt_mul (by omega),Int.mul_comm]
theorem aac(N:Nat):∀(d:apf Int)(k:Nat)(s:Int),1<=s->s<=4096->(∀n∈d,1<=n)->Ax N d k s=some (bif decide (d.foldl (·*·) s<=4096)then 0 else 2)
 |[],k,s,J,h2,h=>by unfold Ax;rw[List.foldl_nil,ao8 h2];rfl
 |n::d,k,s,J,h2,h=>by
  unfold Ax;rw[show(s !=0)=true by rw[bne_iff_ne];omega,cond_true,afH J h2,List.foldl_cons];have hn:=h n aox;have hd:∀m∈d,1<=m:=λm hm=>h m (aoA _ hm);have Sn:1<=s*n:=by have:=Int.mul_le_mul J hn (by decide) (by omega);omega
  by_cases hc:4096<s*n
  ·rw[ao8 hc,cond_true,ao9]
   ·rfl
   ·rw[Ml];have:=Int.mul_le_mul (Int.le_refl (s*n)) (DB hd) (by decide) (by omega);omega
  ·rw[ao9 hc,cond_false,xh (by omega) (by omega)];exact aac N d (k+1) (s*n) Sn (by omega) hd
theorem aaH(N:Nat)(v:apf Int):∀(d:apf Int)(k:Nat),(v=d\/True)->L6 N v d k=bif d.all (λn=>decide (1<=n))then Ax N v 0 1 else some 1
 |[],k,_=>rfl
 |n::d,k,_=>by
  unfold L6;rw[apb,aaH N v d (k+1) (.inr trivial)];by_cases h:n<1
  ·rw[ao8 h,ao9 (show ¬1<=n by omega)];rfl
  ·rw[ao9 h,ao8 (show 1<=n by omega)];rfl
theorem Xn(N:Nat)(d:apf Int):∃e,FD N d=some e/\(e !=0)= !yr d:=by
 unfold FD yr;by_cases h:d.length<=6
 ·rw[ao9 (show ¬(d.length:Int)>6 by omega),cond_false,ao8 h,Bool.true_and,aaH N d d 0 (.inr trivial)];cases ha:d.all (λn=>decide (1<=n))with
  |false=>exact⟨1,rfl,rfl⟩
  |true=>
   rw[cond_true,aac N d 0 1 (by decide) (by decide) (Vj.1 ha),Bool.true_and];refine⟨_,rfl,?_⟩;cases decide (d.foldl (·*·) 1<=4096)<;>rfl
 ·rw[ao8 (show(d.length:Int)>6 by omega),ao9 h];exact⟨2,rfl,rfl⟩
theorem X9(N:Nat):∀(d:apf Int)(k:Nat)(s:Int),1<=s->(∀n∈d,1<=n)->d.foldl (·*·) s<=4096->LR N d k s=some (d.foldl (·*·) s)
 |[],k,s,_,_,_=>rfl
 |n::d,k,s,J,h,hb=>by
  unfold LR;rw[List.foldl_cons]at hb ⊢;have hn:=h n aox;have hd:∀m∈d,1<=m:=λm hm=>h m (aoA _ hm);have Sn:1<=s*n:=by have:=Int.mul_le_mul J hn (by decide) (by omega);omega
  have hle:s*n<=4096:=by
   rw[Ml]at hb;have:=Int.mul_le_mul (Int.le_refl (s*n)) (DB hd) (by decide) (by omega);omega
  simp only;rw[xh (by omega) (by omega)];exact X9 N d (k+1) (s*n) Sn hd hb
structure We(d:List Int):Prop where
 len:d.length<=6
 pos:∀n∈d,1<=n
 le:d.foldl (·*·) 1<=4096
theorem No{d:apf Int}(h:yr d=true):We d:=by
 unfold yr at h;simp only[aot,decide_eq_true_eq]at h;exact⟨h.1,Vj.1 h.2.1,h.2.2⟩
theorem ans(N:Nat){d:apf Int}(h:yr d=true):KR N d=some (d.foldl (·*·) 1):=by
 obtain⟨e,J,h2⟩:=Xn N d;unfold KR;rw[J,aoq,h2,h];exact X9 N d 0 1 (by decide) (No h).pos (No h).le
def lf(t:aT):Bool:=db t.aB&&(yr t.aU&&(((t.eI.length:Int)==t.aU.foldl (·*·) 1)&&t.eI.all (dJ t.aB)))
theorem Xm(N:Nat)(hN:2147483648<N)(t:aT)(ht:db t.aB=true):∀(l:apf aD)(k:Nat),Jh N t l k=some (bif l.all (dJ t.aB)then 0 else 1)
 |[],k=>rfl
 |v::l,k=>by
  unfold Jh;rw[ql N hN _ _ ht,aoq,apb];cases dJ t.aB v with
  |true=>rw[cond_true,Xm N hN t ht l (k+1),Bool.true_and]
  |false=>rfl
theorem Z0(N:Nat)(hN:2147483648<N)(t:aT):∃e,Ee N t=some e/\(e !=0)= !lf t:=by
 unfold Ee lf;rw[pw,aoq];cases ht:db t.aB with
 |false=>exact⟨10,rfl,rfl⟩
 |true=>
  rw[cond_true,show((0:Int) !=0)=false from rfl,cond_false,Bool.true_and];obtain⟨e,J,h2⟩:=Xn N t.aU;rw[J,aoq,h2];cases hs:yr t.aU with
  |false=>
   refine⟨e,rfl,?_⟩;rw[h2,hs];rfl
  |true=>
   rw[Bool.not_true,cond_false,ans N hs,aoq,Bool.true_and];cases hl:((t.eI.length:Int)==t.aU.foldl (·*·) 1)with
   |false=>
    refine⟨1,?_,rfl⟩;rw[show((t.eI.length:Int) !=t.aU.foldl (·*·) 1)=true by unfold bne;rw[hl];rfl];rfl
   |true=>
    rw[show((t.eI.length:Int) !=t.aU.foldl (·*·) 1)=false by unfold bne;rw[hl];rfl,cond_false,Xm N hN t ht];refine⟨_,rfl,?_⟩;rw[Bool.true_and];cases t.eI.all (dJ t.aB)<;>rfl
def eD:apf aG->apg->aph aT
 |[],_=>none
 |x::r,s=>bif bL x.au==bL s then some x.fb else eD r s
theorem OQ:∀{l:apf aG}{s:apg}{t:aT},eD l s=some t->∃x∈l,x.fb=t/\bL x.au=bL s
 |[],s,t,h=>by cases h
 |x::r,s,t,h=>by
  unfold eD at h;cases hb:(bL x.au==bL s)with
  |true=>rw[hb]at h;cases h;exact⟨x,aox,rfl,by simpa using hb⟩
  |false=>
   rw[hb]at h;obtain⟨y,J,h2⟩:=OQ (l:=r) h;exact⟨y,aoA _ J,h2⟩
theorem WL(N:Nat)(s:apg):∀(l:apf aG)(k:Nat),(eD l s=none->Ac N s l k=some (-1))/\(∀t,eD l s=some t->∃i x,Ac N s l k=some ((k+i:Nat):Int)/\l[i]?=some x/\x.fb=t)
 |[],k=>⟨λ_=>rfl,λv h=>by cases h⟩
 |b::r,k=>by
  obtain⟨J,h2⟩:=WL N s r (k+1);unfold eD Ac NS;simp only[aoq];cases hb:(bL b.au==bL s)with
  |true=>exact⟨λh=>(by cases h),λv h=>by cases h;exact⟨0,b,rfl,rfl,rfl⟩⟩
  |false=>
   simp only[cond_false];refine⟨J,λv h=> ?_⟩;obtain⟨i,c,q1,q2,q3⟩:=h2 v h;exact⟨i+1,c,by rw[q1];congr 2;omega,q2,q3⟩
theorem BJ(N:Nat)(l:apf aG)(s:apg):uK N l s=some (match eD l s with|none=>(mF,false)|some t=>(t,true)):=by
 obtain⟨J,h2⟩:=WL N s l 0;unfold uK;rw[show QO N l s=Ac N s l 0 from rfl];cases hf:eD l s with
 |none=>rw[J hf];rfl
 |some t=>
  obtain⟨i,x,q1,q2,q3⟩:=h2 t hf;rw[q1,aoq,aoL,ao9 (by omega),cond_false,ao8 (by omega),cond_true,aoS,q2,aoq,q3]
def ox(mem:apf aG)(s:apg):Except Int aT:=match eD mem s with
 |none=> .error 9
 |some t=>bif lf t then .ok t else .error 1
def s9(e:aw):Prop:=∀x∈dE e,oS x=true/\om x=true
theorem s9.arg{e x:aw}(h:s9 e)(hx:x∈e.bZ):s9 x:=λy hy=>h y (F6 hx hy)
theorem s9.len{e:aw}(h:s9 e):(e.bZ.length:Int)=nC e.az:=by
 have:=(h e aox).1;unfold oS at this;rw[aot,beq_iff_eq]at this;exact this.1
theorem s9.op{e:aw}(h:s9 e):1<=e.az/\e.az<=18:=by
 have:=(h e aox).2;unfold om at this;simp only[aot,decide_eq_true_eq]at this;exact⟨this.1,this.2.1⟩
theorem Yf:∀l:apf aw,kY l=0->∀x∈l,ng x=0
 |[],_,x,hx=>by cases hx
 |y::l,h,x,hx=>by
  rw[kY]at h;cases e:ng y !=0 with
  |true=>rw[e,cond_true]at h;rw[h]at e;cases e
  |false=>
   rw[e,cond_false]at h;rcases aoV.1 hx with rfl|hx
   ·exact jr e
   ·exact Yf l h x hx
theorem N7{e:aw}(h:mu e=0):∀x∈dE e,ng x=0:=λx hx=>by
 unfold mu at h;cases J:decide (40<jl 40 e)with
 |true=>rw[J]at h;cases h
 |false=>
  cases h2:decide (2000<(dE e).length)with
  |true=>rw[J,h2]at h;cases h
  |false=>rw[J,h2]at h;exact Yf (dE e) h x hx
theorem Oj{x:aw}(h:ng x=0):om x=true/\sW x=true/\oS x=true/\nU x=true/\vm x=true:=by
 unfold ng at h;cases p:om x<;>cases q:sW x<;>cases r:oS x<;>cases s:nU x<;>cases t:vm x<;>rw[p,q,r,s,t]at h<;>first|exact⟨rfl,rfl,rfl,rfl,rfl⟩|(exact absurd h (by decide))
theorem anv{e:aw}(h:mu e=0):s9 e:=λx hx=>⟨(Oj (N7 h x hx)).2.2.1,(Oj (N7 h x hx)).1⟩
section
variable {α:Type}
theorem aha{l:apf α}(h:(l.length:Int)=1):∃a,l=[a]:=by
 match l,h with
 |[a],_=>exact⟨a,rfl⟩
 |[],h=>simp at h
 |a::b::l,h=>simp at h;omega
theorem ah0{l:apf α}(h:(l.length:Int)=2):∃a b,l=[a,b]:=by
 match l,h with
 |[a,b],_=>exact⟨a,b,rfl⟩
 |[],h=>simp at h
 |[a],h=>simp at h
 |a::b::c::l,h=>simp at h;omega
theorem afe{l:apf α}(h:(l.length:Int)=3):∃a b c,l=[a,b,c]:=by
 match l,h with
 |[a,b,c],_=>exact⟨a,b,c,rfl⟩
 |[],h=>simp at h
 |[a],h=>simp at h
 |[a,b],h=>simp at h
 |a::b::c::d::l,h=>simp at h;omega
end
def wc(a b:aph (aM×Int)):Prop:=∃t t' x,a=some (t,x)/\b=some (t',x)/\(x=0->t=t')
theorem Y7{α:Type}(f:α->Int)(x:α):fU f [x]=f x:=by
 rw[fU,fU];cases e:f x !=0 with
 |true=>rfl
 |false=>exact(jr e).symm
theorem aek{op:Int}(J:1<=op)(h2:op<=18):(op=1\/op=2\/op=3\/op=8\/op=11\/op=12)\/(op=4\/op=5\/op=6\/op=7\/op=9\/op=10)\/(op=13\/op=14\/op=15)\/(op=16\/op=17\/op=18):=by omega
section
variable {N:Nat} {m:apf (apg×Int)} {vars:apf apg} {p p':aV}
theorem adX(hV:VN m (vars++p'.bm))(hP:p.aY=p'.aY)(wJ:p.aO=p'.aO)(zX:lJ p.aY)(oV:gX p.aO)(e:aw)(J:1<=e.az)(h2:e.az<=18)(acc:apf aM)(hl:(acc.length:Int)=nC e.az)
 (r1:aw->aV->apf (apg×Int)->aph (aM×Int)) (r2:aV->apf apg->aw->aph (aM×Int)) (k:Nat):
 wc (wZ N e p m r1 [] k acc) (oH N e p' vars r2 [] k acc):=by
 rw[wZ,oH];unfold I7 DP EN CR;rcases aek J h2 with(h|h|h|h|h|h)|(h|h|h|h|h|h)|(h|h|h)|(h|h|h)
 ·rw[h];exact⟨_,_,_,rfl,rfl,λ_=>rfl⟩
 ·rw[h,QD N hV,NJ,Y7];exact⟨_,_,_,rfl,rfl,λ_=>rfl⟩
 ·rw[h,ae6 N hV p zX oV,Z7 N vars p' (wJ▸oV),hP,wJ];exact⟨_,_,_,rfl,rfl,λ_=>rfl⟩
 ·rw[h]at hl;obtain⟨a,rfl⟩:=aha hl;rw[h];exact⟨_,_,_,rfl,rfl,λ_=>rfl⟩
 ·rw[h]at hl;obtain⟨a,b,c,rfl⟩:=afe hl;rw[h];show wc (Option.bind (bif _ then _ else _) _) (bif _ then _ else _);cases ((b.bk==c.bk)&&((b.cf==c.cf)&&((b.bQ==c.bQ)&&((b.cq==c.cq)&&((b.ct==c.ct)&&true)))))with
  |true=>exact⟨_,_,_,rfl,rfl,λ_=>rfl⟩
  |false=>exact⟨_,_,_,rfl,rfl,λh=>by cases h⟩
 ·rw[h];exact⟨_,_,_,rfl,rfl,λ_=>rfl⟩
 all_goals first
  |(rw[h];exact⟨_,_,_,rfl,rfl,λ_=>rfl⟩)
  |(rw[h]at hl
    obtain⟨a,b,rfl⟩:=ah0 hl;rw[h];show wc (Option.bind (bif _ then _ else _) _) (bif _ then _ else _);cases ((a.bk==b.bk)&&((a.cf==b.cf)&&((a.bQ==b.bQ)&&((a.cq==b.cq)&&((a.ct==b.ct)&&true)))))with
    |true=>exact⟨_,_,_,rfl,rfl,λ_=>rfl⟩
    |false=>exact⟨_,_,_,rfl,rfl,λh=>by cases h⟩)
theorem YB(e:aw)(r1:aw->aV->apf (apg×Int)->aph (aM×Int))(r2:aV->apf apg->aw->aph (aM×Int)):
 ∀(l:apf aw)(k:Nat)(acc:apf aM),acc.length+l.length<=1000000000->(∀x∈l,wc (r1 x p m) (r2 p' vars x))->
  (∀(nP:apf aM)(k':Nat),nP.length=acc.length+l.length->wc (wZ N e p m r1 [] k' nP) (oH N e p' vars r2 [] k' nP))->
  wc (wZ N e p m r1 l k acc) (oH N e p' vars r2 l k acc)
 |[],k,acc,_,_,he=>he acc k rfl
 |x::l,k,acc,hb,hx,he=>by
  rw[wZ,oH];obtain⟨t,t',z,e1,e2,e3⟩:=hx x aox;rw[e1,e2,aoq,aoq];dsimp only;cases hz:z !=0 with
  |true=>exact⟨_,_,_,rfl,rfl,λ_=>rfl⟩
  |false=>
   obtain rfl:=e3 (jr hz);simp only[aou]at hb;rw[fz (by omega)];exact YB e r1 r2 l (k+1) (acc++[t]) (by simp only[aos,aou,aoD];omega) (λy hy=>hx y (aoA _ hy)) λnP k' h'=>he nP k' (by simp only[aos,aou,aoD]at*;omega)
theorem Ux(hV:VN m (vars++p'.bm))(hP:p.aY=p'.aY)(wJ:p.aO=p'.aO)(zX:lJ p.aY)(oV:gX p.aO):
 ∀(d:Nat)(e:aw),SizeOf.sizeOf e<d->s9 e->wc (xY N d e p m) (Ad N d p' vars e)
 |0,_,h,_=>absurd h (aoT _)
 |d+1,e,h,hr=>by
  rw[xY,Ad];have hlen:=hr.len;have h3:(e.bZ.length:Int)<=3:=by
    rw[hlen];unfold nC;cases (e.az==1||(e.az==2||e.az==3))<;>cases (e.az==8||(e.az==12||e.az==18))<;>cases e.az==11<;>decide
  refine YB e _ _ e.bZ 0 [] (by simp only[aoD];omega) (λx hx=>Ux hV hP wJ zX oV d x (by have:=yi hx;omega) (hr.arg hx)) λnP k' h'=> ?_;exact adX hV hP wJ zX oV e hr.op.1 hr.op.2 nP (by rw[h',<-hlen];simp only[aoD,aoL]) _ _ k'
end
theorem ai4{m:apf (apg×Int)}{V W:apf apg}(h:VN m V)(e:∀s,cS W s=cS V s)(hl:V.length<=W.length):VN m W:=⟨λs=>by rw[h.val,e],aoJ h.len hl⟩
theorem X3(N:Nat)(e:aw)(p:aV):∀(l:apf apg)(k:Nat)(m:apf (apg×Int))(V:apf apg),VN m V->V.length+l.length<1000000000->∃m' k',VN m' (V++l)/\yf N e p l k m=yf N e p [] k' m'
 |[],k,m,V,h,_=>⟨m,k,by rw[aoM];exact h,rfl⟩
 |s::l,k,m,V,h,hb=>by
  simp only[aou]at hb;rw[yf,show Nat.blt m.length 9223372036854775807=true from Nat.ble_eq_true_of_le (by have:=h.len;omega),cond_true];obtain⟨m',k',J,h2⟩:=X3 N e p l (k+1) _ _ (h.add s 3 rfl) (by simp only[aos,aou,aoD];omega);exact⟨m',k',by rw[aoI]at J;exact J,h2⟩
theorem Wh(N:Nat)(e:aw)(p:aV)(vars:apf apg):∀(l:apf apg)(k:Nat)(m:apf (apg×Int))(V:apf apg),VN m V->V.length+l.length<1000000000->∃m',VN m' (V++l)/\K5 N e p vars l k m=yf N e p vars 0 m'
 |[],k,m,V,h,_=>⟨m,by rw[aoM];exact h,rfl⟩
 |s::l,k,m,V,h,hb=>by
  simp only[aou]at hb;rw[K5,show Nat.blt m.length 9223372036854775807=true from Nat.ble_eq_true_of_le (by have:=h.len;omega),cond_true];obtain⟨m',J,h2⟩:=Wh N e p vars l (k+1) _ _ (h.add s 1 rfl) (by simp only[aos,aou,aoD];omega);exact⟨m',by rw[aoI]at J;exact J,h2⟩
theorem am1(N:Nat)(hN:2147483648<N)(p p':aV)(vars:apf apg)(e:aw)(hs:SizeOf.sizeOf e<N)(h:mZ e)(hS:p.bm=p'.bm)(hP:p.aY=p'.aY)(wJ:p.aO=p'.aO)(zX:lJ p.aY)(oV:gX p.aO)
 (hl:p.bm.length+vars.length<1000000000):∃t x,G5 N p vars e=some (t,x)/\vN N p' vars e=some (t,x)/\(x=0->mu e=0):=by
 unfold G5 vN;rw[amO N hN e h,Tw N hN e hs h,aoq,aoq];cases hv:mu e !=0 with
 |true=>exact⟨_,_,rfl,rfl,λh0=>h0⟩
 |false=>
  have hv:=jr hv;simp only[cond_false];rw[abX,GH,aoq,aoq];cases fY e with
  |true=>exact⟨_,_,rfl,rfl,λh0=>by cases h0⟩
  |false=>
   simp only[cond_false];obtain⟨m1,J,e1⟩:=Wh N e p vars p.bm 0 [] [] ⟨λ_=>rfl,aoC _⟩ (by simp only[aoD];omega);obtain⟨m2,k2,h2,e2⟩:=X3 N e p vars 0 m1 _ J (by simp only[aoD,List.nil_append];omega);rw[e1,e2,yf];have hV:VN m2 (vars++p'.bm):=ai4 h2 (λs=>by rw[List.nil_append,ly,ly,hS,Bool.or_comm]) (by rw[hS];simp only[aos,List.nil_append];omega);unfold PQ H4;obtain⟨t,t',x,a1,a2,a3⟩:=Ux (N:=N) hV hP wJ zX oV N e hs (anv hv);rw[a1,a2,aoq,aoq];dsimp only;cases hx:x !=0 with
   |true=>exact⟨_,_,rfl,rfl,λ_=>hv⟩
   |false=>obtain rfl:=a3 (jr hx);exact⟨_,_,rfl,rfl,λ_=>hv⟩
theorem Ko{y:aw}:∀{l:apf aw},y∈mK l->∃x∈l,y∈dE x
 |[],h=>by rw[mK]at h;cases h
 |x::l,h=>by
  rw[Dt]at h;rcases ao3.1 h with h|h
  ·exact⟨x,aox,h⟩
  ·obtain⟨z,J,h2⟩:=Ko h;exact⟨z,aoA _ J,h2⟩
theorem ajI{t t':aM}{x:Int}(h:yj t x=(t',0)):x=0:=congrArg Prod.snd h
theorem abv(N:Nat)(e:aw)(p:aV)(vars:apf apg)(rec:aV->apf apg->aw->aph (aM×Int)):
 ∀(l:apf aw)(k:Nat)(acc:apf aM)(t:aM),oH N e p vars rec l k acc=some (t,0)->
  (∀x∈l,∃t',rec p vars x=some (t',0))/\∃k' nP,oH N e p vars rec [] k' nP=some (t,0)
 |[],k,acc,t,h=>⟨λ_ hx=>(by cases hx),k,acc,h⟩
 |x::l,k,acc,t,h=>by
  rw[oH]at h;cases hr:rec p vars x with
  |none=>rw[hr]at h;cases h
  |some q=>
   rw[hr,aoq]at h;cases hz:q.2 !=0 with
   |true=>rw[hz,cond_true]at h;rw[(Prod.mk.inj (aoK h)).2]at hz;cases hz
   |false=>
    rw[hz,cond_false]at h;cases hb:Nat.ble ((acc.length+1)*40) 140737488355328 with
    |false=>rw[hb]at h;cases h
    |true=>
     rw[hb,cond_true]at h;obtain⟨J,h2⟩:=abv N e p vars rec l (k+1) (acc++[q.1]) t h;refine⟨λy hy=> ?_,h2⟩;rcases aoV.1 hy with rfl|hy
     ·exact⟨q.1,by rw[hr,<-jr hz]⟩
     ·exact J y hy
theorem Xk(N:Nat)(p:aV)(vars:apf apg)(oV:gX p.aO):∀(d:Nat)(e:aw)(t:aM),Ad N d p vars e=some (t,0)->∀y∈dE e,(y.az=3->vY (vars++p.bm) p.aY p.aO y=0)/\(y.az=2->oF (vars++p.bm) y.bx=0)
 |0,e,t,h=>by cases h
 |d+1,e,t,h=>by
  rw[Ad]at h;obtain⟨J,k',nP,h2⟩:=abv N e p vars _ _ _ _ _ h;intro y hy;rcases aoV.1 hy with rfl|hy
  ·refine⟨λhO=> ?_,λhO=> ?_⟩
   ·rw[oH,hO,Z7 N vars p oV]at h2;exact ajI (aoK h2)
   ·rw[oH,hO,NJ,Y7]at h2;have h3:=congrArg Prod.snd (aoK h2);exact h3
  ·obtain⟨x,hx,hy⟩:=Ko hy;obtain⟨t',h3⟩:=J x hx;exact Xk N p vars oV d x t' h3 y hy
theorem aeE(N:Nat)(p:aV)(vars:apf apg)(oV:gX p.aO)(e:aw)(t:aM)(h:vN N p vars e=some (t,0)):∀y∈dE e,(y.az=3->vY (vars++p.bm) p.aY p.aO y=0)/\(y.az=2->oF (vars++p.bm) y.bx=0):=by
 unfold vN at h;cases e1:L4 N e with
 |none=>rw[e1]at h;cases h
 |some a=>
  rw[e1,aoq]at h;cases J:a !=0 with
  |true=>rw[J,cond_true]at h;rw[(Prod.mk.inj (aoK h)).2]at J;cases J
  |false=>
   rw[J,cond_false,GH,aoq]at h;cases h2:fY e with
   |true=>rw[h2]at h;cases h
   |false=>
    rw[h2,cond_false]at h;cases e3:H4 N p vars e with
    |none=>rw[e3]at h;cases h
    |some q=>
     rw[e3,aoq]at h;cases h4:q.2 !=0 with
     |true=>rw[h4,cond_true]at h;rw[(Prod.mk.inj (aoK h)).2]at h4;cases h4
     |false=>exact Xk N p vars oV N e q.1 (by unfold H4 at e3;rw[e3,<-jr h4])
structure Bd(N:Nat)(p:aV):Prop where
 s:p.bm.length<=1000
 w:p.dF.length<=1000
 q:p.aY.length<=1000
 d:p.aO.length<=1000
 o:p.di.length<=1000
 P:lJ p.aY
 D:gX p.aO
 W:∀c∈p.dF,lB 1000000000 c.bx
 E:∀d∈p.aO,mZ d.bV/\SizeOf.sizeOf d.bV<N
def SR(d:bD):apf apg:=(d.aU++d.bY).map (·.au)
structure qm(p:aV)(k:Nat)(d:bD):Prop where
 par:cS (p.aY.map (·.au)) d.au=false
 body:mu d.bV=0
 ami:qC p.bm [] (d.aU++d.bY)=0
 reads:∀y∈dE d.bV,y.az=3->vY (SR d++p.bm) p.aY (p.aO.take k) y=0
 E8:∀y∈dE d.bV,y.az=2->oF (SR d++p.bm) y.bx=0
 len:d.aU.length<=6/\d.bY.length<=6
 aj6:cS ((p.aO.take k).map (·.au)) d.au=false
theorem aa3{D:apf bD}(h:gX D)(k:Nat):gX (D.take k):=⟨λd hd=>h.len d (List.mem_of_mem_take hd),λd hd=>h.lk d (List.mem_of_mem_take hd)⟩
section
variable {N:Nat} {p:aV}
theorem agn(hN:2147483648<N)(B:Bd N p){m:apf (apg×Int)}{T:apf apg}{k:Nat}{d:bD}(h:KN m p.bm T)(hd:p.aO[k]?=some d)(hT:T.length<=1000000)(hq:∀s,cS (p.aY.map (·.au)++(p.aO.take k).map (·.au)) s=true->cS T s=true):
 ∃x m',Ih N (k:Int) p m=some (x,m')/\vT N p (k:Int) (p.bm++T)=some x/\(x=0->KN m' p.bm (T++[d.au])/\qm p k d):=by
 have jD:=JX hd;have aop:=B.D.len d jD;have hlen:d.aU.length+d.bY.length<1000000000:=by omega
 have UC:∀x∈d.aU++d.bY,j7 x.dR:=λx hx=>(B.D.lk d jD x hx).ok;have hs:=B.s;unfold Ih vT;rw[show decide ((0:Int)<=(k:Int))=true from ao8 (by omega),aoS,hd,cond_true,cond_true,aoq,aoq,
  Qn N (by omega) _ 2 p h (by omega),AP N (by omega),aoq,aoq,ab8,Hc,aoq,aoq,xJ,xJ]
 dsimp only;cases e:iI (p.bm++T) d.au !=0 with
 |true=>exact⟨_,_,rfl,rfl,λh0=>by rw[h0]at e;cases e⟩
 |false=>
  have e0:=jr e;have k1:=h.Yg (Rl e0).2;rw[e0];simp only[cond_false,apa,cond_true];cases db d.aB with
  |false=>exact⟨_,_,rfl,rfl,λh0=>by cases h0⟩
  |true=>
   simp only[cond_true];rw[show(bif !decide (d.aU.length<=6)then some true else some !decide (d.bY.length<=6))=some (!(decide (d.aU.length<=6)&&decide (d.bY.length<=6))) by cases decide (d.aU.length<=6)<;>cases decide (d.bY.length<=6)<;>rfl,aoq];cases e6:decide (d.aU.length<=6)&&decide (d.bY.length<=6)with
   |false=>exact⟨_,_,rfl,rfl,λh0=>by cases h0⟩
   |true=>
    rw[aot,decide_eq_true_eq,decide_eq_true_eq]at e6;simp only[cond_true,Bool.not_true,cond_false];rw[fz (by omega),fz (by omega),ahy N (by omega) d p k1 UC hlen,Uw N (by omega) _ _ UC (by simp only[aos];omega)];simp only[aoq,cond_true,bne_self_eq_false,cond_false];cases ea:qC p.bm [] (d.aU++d.bY) !=0 with
    |true=>exact⟨_,_,rfl,rfl,λh0=>by rw[h0]at ea;cases ea⟩
    |false=>
     simp only[cond_false];rw[aiX,aau,aoq,aoq];cases ef:uz d !=0 with
     |true=>exact⟨_,_,rfl,rfl,λh0=>by rw[h0]at ef;cases ef⟩
     |false=>
      simp only[cond_false];have hk:k<p.aO.length:=by
       by_cases hk:k<p.aO.length
       ·exact hk
       ·rw[aoX (by omega)]at hd;cases hd
      rw[show decide (k<=p.aO.length)=true from ao8 (by omega),cond_true,cond_true,afY N d hlen,aak N d hlen,aoq,aoq,ao0];obtain⟨t,x,a1,a2,a3⟩:=am1 N hN ⟨p.bm,p.dF,p.aY,p.aO.take k,p.di⟩ ⟨p.bm,[],p.aY,p.aO.take k,[]⟩ ((d.aU++d.bY).map (·.au)) d.bV (B.E d jD).2 (B.E d jD).1 rfl rfl rfl B.P (aa3 B.D k)
        (by simp only[aow,aos];omega)
      rw[a1,a2,aoq,aoq];dsimp only;cases ex:x !=0 with
      |true=>exact⟨_,_,rfl,rfl,λh0=>by rw[h0]at ex;cases ex⟩
      |false=>
       have x0:=jr ex;simp only[cond_false];cases ((t.bk==d.aB.bk)&&((t.cf==d.aB.cf)&&((t.bQ==d.aB.bQ)&&((t.cq==d.aB.cq)&&((t.ct==d.aB.ct)&&true)))))with
       |false=>exact⟨_,_,rfl,rfl,λh0=>by cases h0⟩
       |true=>
        have fm:cS (p.aY.map (·.au)++(p.aO.take k).map (·.au)) d.au=false:=by
         cases eq:cS (p.aY.map (·.au)++(p.aO.take k).map (·.au)) d.au with
         |false=>rfl
         |true=>
          have:=(Rl e0).2;rw[ly,hq _ eq,Bool.or_true]at this;cases this
        rw[ly,ape]at fm;rw[x0]at a2;have tr:=aeE N _ _ (aa3 B.D k) d.bV t a2;exact⟨_,_,rfl,rfl,λ_=>⟨k1,fm.1,a3 x0,jr ea,λy hy=>(tr y hy).1,λy hy=>(tr y hy).2,e6,fm.2⟩⟩
def wg(p:aV):Bool:=decide (p.bm.length<=64)&&(decide (p.aY.length<=64)&&(decide (p.aO.length<=64)&&(decide (p.di.length<=64)&&decide (p.dF.length<=256))))
theorem af5:Js N p=some (wg p):=by
 unfold Js wg;simp only[It];rw[show decide (((max (max (max p.bm.length p.aY.length) p.aO.length) p.di.length:Nat):Int)<=64)=decide (max (max (max p.bm.length p.aY.length) p.aO.length) p.di.length<=64)from vA _ 64,show decide ((p.dF.length:Int)<=256)=decide (p.dF.length<=256)from vA _ 256];rw[show decide (max (max (max p.bm.length p.aY.length) p.aO.length) p.di.length<=64)=(decide (p.bm.length<=64)&&(decide (p.aY.length<=64)&&(decide (p.aO.length<=64)&&decide (p.di.length<=64)))) by
  rw[Bool.eq_iff_iff];simp only[aot,decide_eq_true_iff];omega]
 cases decide (p.bm.length<=64)<;>cases decide (p.aY.length<=64)<;>cases decide (p.aO.length<=64)<;>cases decide (p.di.length<=64)<;>rfl
theorem Qq:(bif (decide ((p.bm.length:Int)>64))then some true else(bif (decide ((p.aY.length:Int)>64))then some true else(bif (decide ((p.aO.length:Int)>64))then some true else(bif (decide ((p.di.length:Int)>64))then some true else some (decide ((p.dF.length:Int)>256))))))=some (!wg p):=by
 unfold wg;rw[show ∀n:Nat,decide ((n:Int)>64)= !decide (n<=64)from λn=>kL n 64];rw[show decide ((p.aY.length:Int)>64)= !decide (p.aY.length<=64)from kL _ 64,show decide ((p.aO.length:Int)>64)= !decide (p.aO.length<=64)from kL _ 64,show decide ((p.di.length:Int)>64)= !decide (p.di.length<=64)from kL _ 64,show decide ((p.dF.length:Int)>256)= !decide (p.dF.length<=256)from kL _ 256];cases decide (p.bm.length<=64)<;>cases decide (p.aY.length<=64)<;>cases decide (p.aO.length<=64)<;>cases decide (p.di.length<=64)<;>rfl
def qV:apf apg->apf apg->Int
 |_,[]=>0
 |S,s::l=>bif iI S s !=0 then iI S s else qV (S++[s]) l
theorem Mx(hN:16<N):∀(l:apf apg)(k:Nat)(m:apf (apg×Int))(S:apf apg),KN m S []->S.length+l.length<=1000->
 ∃m',KN m' (S++l) []/\Ix N p l k m=bif qV S l !=0 then some (0,qV S l)else CV N p m' p.dF 0
 |[],k,m,S,h,_=>⟨m,by rw[aoM];exact h,rfl⟩
 |s::l,k,m,S,h,hb=>by
  simp only[aou]at hb;rw[Ix,Qn N hN s 1 p h (by simp only[aoD];omega),aoq,aoM,qV];dsimp only;cases e:iI S s !=0 with
  |true=>
   obtain⟨m',J,_⟩:=Mx hN l k _ _ (h.qf s) (by simp only[aos,aou,aoD];omega);refine⟨m',by rw[aoI]at J;exact J,?_⟩;simp only[cond_true];rw[e];rfl
  |false=>
   rw[jr e];obtain⟨m',J,h2⟩:=Mx hN l (k+1) _ _ (h.qf s) (by simp only[aos,aou,aoD];omega);exact⟨m',by rw[aoI]at J;exact J,h2⟩
theorem SS{α:Type}{L l:apf α}{x:α}{k:Nat}(h:L.drop k=x::l):L.take (k+1)=L.take k++[x]:=by
 have:=bI h;rw[List.take_add_one,this];rfl
theorem pf{α:Type}{L l:apf α}{x:α}{k:Nat}(h:L.drop k=x::l):L.drop (k+1)=l:=by
 rw[<-List.drop_drop,h];rfl
theorem N2{α:Type}{L l:apf α}{x:α}{k:Nat}(h:L.drop k=x::l):k<L.length:=by
 by_cases hk:k<L.length
 ·exact hk
 ·rw[List.drop_eq_nil_of_le (by omega)]at h;cases h
theorem Jd(hN:16<N):∀(l:apf apg)(k:Nat),p.bm.drop k=l->Hf N p l k=some (qV (p.bm.take k) l)
 |[],_,_=>rfl
 |s::l,k,h=>by
  rw[Hf,aoS,show decide (k<=p.bm.length)=true from ao8 (by have:=N2 h;omega),cond_true,ao0,AP N hN,aoq,qV,Jd hN l (k+1) (pf h),SS h];cases iI (p.bm.take k) s !=0<;>rfl
theorem abA(hN:16<N){m:apf (apg×Int)}(h:KN m p.bm []):∀(l:apf gF)(k:Nat),(∀c∈l,lB 1000000000 c.bx)->
 CV N p m l k=bif fU (λc=>iF p.bm c.bx) l !=0 then some (1,fU (λc=>iF p.bm c.bx) l)else A7 N p p.aY 0 2 m
 |[],_,_=>rfl
 |c::l,k,hc=>by
  have ok:j7 c.bx:=(hc c aox).ok;have e1:LL N c p m=some (iF p.bm c.bx):=by
   unfold LL R6;rw[KY N hN _ ok,aoq,aoq,OS N hN _ p ok h];unfold iF;cases jj c.bx<;>rfl
  rw[CV,e1,aoq,fU,abA hN h l (k+1) λy hy=>hc y (aoA _ hy)];cases e:iF p.bm c.bx !=0 with
  |true=>simp only[cond_true];rw[e];rfl
  |false=>rfl
theorem ID(hN:16<N)(hs:p.bm.length<=1000):∀(l:apf gF)(k:Nat),(∀c∈l,lB 1000000000 c.bx)->
 Cv N p l k=bif fU (λc=>iF p.bm c.bx) l !=0 then some (1,fU (λc=>iF p.bm c.bx) l)else sb N p p.aY 0 p.bm 2
 |[],_,_=>by
  rw[Cv,fz (by omega)];rfl
 |c::l,k,hc=>by
  rw[Cv,PB N hN _ (hc c aox).ok,aoq,fU,ID hN hs l (k+1) λy hy=>hc y (aoA _ hy)];cases e:iF p.bm c.bx !=0 with
  |true=>simp only[cond_true];rw[e];rfl
  |false=>rfl
theorem Xt(hN:16<N)(hs:p.bm.length<=1000):∀(l:apf dX)(k:Nat)(at_:Int)(m:apf (apg×Int))(T:apf apg),KN m p.bm T->lJ l->T.length+l.length<=1000->
 (∃a x,x≠0/\A7 N p l k at_ m=some (a,x)/\sb N p l k (p.bm++T) at_=some (a,x))\/
 ∃at' m',KN m' p.bm (T++l.map (·.au))/\A7 N p l k at_ m=Aw N p p.aO 0 at' m'/\sb N p l k (p.bm++T) at_=oP N p p.aO 0 (p.bm++(T++l.map (·.au))) at'
 |[],k,at_,m,T,h,_,_=> .inr ⟨at_,m,by rw[List.map_nil,aoM];exact h,rfl,by rw[List.map_nil,aoM];rfl⟩
 |x::l,k,at_,m,T,h,hl,hb=>by
  simp only[aou]at hb;obtain⟨m1,e1,e2⟩:=alF N hN x p (λy hy=>(hl.lk x aox y hy).ok) h (by omega);rw[A7,sb,e1,Ut N hN x p.bm T (λy hy=>(hl.lk x aox y hy).ok),aoq,aoq];dsimp only;cases e:tW p.bm T x !=0 with
  |true=>exact .inl ⟨_,_,λh0=>(by rw[h0]at e;cases e),rfl,rfl⟩
  |false=>
   simp only[cond_false];rw[fz (by simp only[aos];omega),cond_true,aoI];have:=Xt hN hs l (k+1) (aQ (at_+1)) m1 (T++[x.au]) (e2 (jr e)) ⟨λy hy=>hl.len y (aoA _ hy),λy hy=>hl.lk y (aoA _ hy)⟩ (by simp only[aos,aou,aoD];omega);rw[aoI]at this;exact this
theorem Z3(hN:2147483648<N)(B:Bd N p):∀(l:apf bD)(k:Nat)(at_:Int)(m:apf (apg×Int))(T:apf apg),p.aO.drop k=l->KN m p.bm T->(∀s,cS (p.aY.map (·.au)++(p.aO.take k).map (·.au)) s=true->cS T s=true)->T.length+l.length<=10000->
 (∃a x,x≠0/\Aw N p l k at_ m=some (a,x)/\oP N p l k (p.bm++T) at_=some (a,x))\/
 ((∀i d,k<=i->p.aO[i]?=some d->qm p i d)/\∃at' m',KN m' p.bm (T++l.map (·.au))/\Aw N p l k at_ m=Cp N m' p p.di 0 at'/\oP N p l k (p.bm++T) at_=qo N p p.di 0 at')
 |[],k,at_,m,T,hd,h,_,_=>by
  refine .inr ⟨λi d hi hx=> ?_,at_,m,by rw[List.map_nil,aoM];exact h,rfl,rfl⟩
  ·have:p.aO.length<=k:=by
    by_cases hk:p.aO.length<=k
    ·exact hk
    ·have:=congrArg List.length hd;simp at this;omega
   rw[aoX (by omega)]at hx;cases hx
 |d::l,k,at_,m,T,hd,h,hq,hb=>by
  simp only[aou]at hb;have hs:=B.s;obtain⟨x,m1,e1,e2,e3⟩:=agn hN B h (bI hd) (by omega) hq;rw[Aw,oP,e1,e2,aoq,aoq];dsimp only;cases e:x !=0 with
  |true=>exact .inl ⟨_,_,λh0=>(by rw[h0]at e;cases e),rfl,rfl⟩
  |false=>
   obtain⟨k1,g1⟩:=e3 (jr e);simp only[cond_false];rw[fz (by simp only[aos];omega),cond_true,aoI];have:=Z3 hN B l (k+1) (aQ (at_+1)) m1 (T++[d.au]) (pf hd) k1 (λs hs=>by
    rw[SS hd,List.map_append,<-aoI,ly]at hs;rw[ly];rcases Bool.or_eq_true _ _▸hs with hs|hs
    ·rw[hq s hs];rfl
    ·rw[show cS [d.au] s=true from hs,Bool.or_true]) (by simp only[aos,aou,aoD];omega)
   rw[aoI]at this;rcases this with this|⟨g,this⟩
   ·exact .inl this
   ·refine .inr ⟨λi d' hi hx=> ?_,this⟩;by_cases l7:i=k
    ·subst l7;rw[bI hd]at hx;cases hx;exact g1
    ·exact g i d' (by omega) hx
theorem E5{α:Type}(f:α->apg)(s:apg):∀l:apf α,cS (l.map f) s=(l.find? λx=>bL (f x)==bL s).isSome
 |[]=>rfl
 |x::l=>by
  rw[aoQ,List.find?_cons,show cS (f x::l.map f) s=(bL (f x)==bL s||cS (l.map f) s)from apc,E5 f s l];cases bL (f x)==bL s<;>rfl
theorem QR(P:apf dX)(D:apf bD)(s:apg):(dN P D s).2.2=cS (P.map (·.au)++D.map (·.au)) s:=by
 unfold dN;rw[ly,E5,E5];show _=(_||(D.find? (kX s)).isSome);cases P.find? λx=>bL x.au==bL s with
 |some x=>rfl
 |none=>cases D.find? (kX s)<;>rfl
theorem UI(hD:gX p.aO){m:apf (apg×Int)}(h:KN m p.bm (p.aY.map (·.au)++p.aO.map (·.au))):∀(l:apf apg)(k:Nat)(at_:Int),p.di.drop k=l->
 ∃a x,Cp N m p l k at_=some (a,x)/\qo N p l k at_=some (a,x)
 |[],_,_,_=>⟨_,_,rfl,rfl⟩
 |s::l,k,at_,hd=>by
  rw[Cp,qo,h.ne2,Fe N p s hD,aoq,QR,aoS,show decide (k<=p.di.length)=true from ao8 (by have:=N2 hd;omega),ao0,ahp,yV,aoq,aoq];cases cS (p.aY.map (·.au)++p.aO.map (·.au)) s with
  |false=>exact⟨_,_,rfl,rfl⟩
  |true=>
   cases cS (p.di.take k) s with
   |true=>exact⟨_,_,rfl,rfl⟩
   |false=>exact UI hD h l (k+1) (aQ (at_+1)) (pf hd)
theorem ak5(hN:2147483648<N)(B:Bd N p):∃a x,I9 N p=some (a,x)/\yJ N p=some (a,x)/\(x=0->∀i d,p.aO[i]?=some d->qm p i d):=by
 have hs:=B.s;have hq:=B.q;have hd:=B.d;unfold I9 yJ K7;rw[af5,Qq,aoq,aoq];cases wg p with
 |false=>exact⟨_,_,rfl,rfl,λh=>by cases h⟩
 |true=>
  simp only[cond_true,Bool.not_true,cond_false];obtain⟨m1,k1,e1⟩:=Mx (N:=N) (p:=p) (by omega) p.bm 0 [] [] KN.nil (by simp only[aoD];omega);rw[List.nil_append]at k1;rw[e1,Jd (by omega) p.bm 0 rfl,aoq,List.take_zero];cases ez:qV [] p.bm !=0 with
  |true=>exact⟨_,_,rfl,rfl,λh0=>by rw[h0]at ez;cases ez⟩
  |false=>
   simp only[cond_false];rw[abA (by omega) k1 _ _ B.W,ID (by omega) hs _ _ B.W];cases ew:fU (λc=>iF p.bm c.bx) p.dF !=0 with
   |true=>exact⟨_,_,rfl,rfl,λh0=>by rw[h0]at ew;cases ew⟩
   |false=>
    simp only[cond_false];have pb:=Xt (N:=N) (p:=p) (by omega) hs p.aY 0 2 m1 [] k1 B.P (by simp only[aoD];omega);rw[aoM,List.nil_append]at pb;rcases pb with⟨a,x,hx,e1,e2⟩|⟨at',m2,k2,e1,e2⟩
    ·exact⟨a,x,e1,e2,λh0=>absurd h0 hx⟩
    ·rw[e1,e2];rcases Z3 hN B p.aO 0 at' m2 _ rfl k2 (λs h=>by rw[List.take_zero,List.map_nil,aoM]at h;exact h) (by simp only[aow];omega)with⟨a,x,hx,e1,e2⟩|⟨g,Ep,m3,k3,e1,e2⟩
     ·exact⟨a,x,e1,e2,λh0=>absurd h0 hx⟩
     ·rw[e1,e2];obtain⟨a,x,e1,e2⟩:=UI (N:=N) B.D k3 p.di 0 Ep rfl;exact⟨a,x,e1,e2,λ_ i d h=>g i d (Nat.zero_le _) h⟩
end
theorem SY:∀{l:apf aG}{s s':apg},bL s=bL s'->eD l s=eD l s'
 |[],_,_,_=>rfl
 |x::r,s,s',h=>by unfold eD;rw[h,SY (l:=r) h]
structure CK(mem:List aG)(kv:List (ByteArray×aT)):Prop where
 ok:∀p∈kv,eD mem p.1=some p.2/\lf p.2=true
 nd:(kv.map λp=>bL p.1).Nodup
theorem CK.nil(mem:apf aG):CK mem []:=⟨λp h=>(by cases h),by simp⟩
theorem UU{α:Type}:∀{l m:apf α},l.Nodup->(∀x∈l,x∈m)->l.length<=m.length
 |[],m,_,_=>Nat.zero_le _
 |x::l,m,h,hs=>by
  have hx:=hs x aox;obtain⟨a,b,rfl⟩:=List.append_of_mem hx;rw[List.nodup_cons]at h;have:=UU (l:=l) (m:=a++b) h.2 λy hy=>by
   have J:=hs y (aoA _ hy);rw[ao3,aoV]at J;rw[ao3];rcases J with J|rfl|J
   ·exact .inl J
   ·exact absurd hy h.1
   ·exact .inr J
  simp only[aos,aou]at this ⊢;omega
theorem CK.len{mem:apf aG}{kv:apf (apg×aT)}(h:CK mem kv):kv.length<=mem.length:=by
 have:=UU h.nd (m:=mem.map λx=>bL x.au) λy hy=>by
  obtain⟨p,hp,rfl⟩:=List.mem_map.1 hy;obtain⟨x,hx,_,e⟩:=OQ (h.ok p hp).1;exact List.mem_map.2 ⟨x,hx,e⟩
 simpa using this
theorem aaZ{mem:apf aG}{s:apg}{d:aT}:∀{kv:apf (apg×aT)},(∀p∈kv,eD mem p.1=some p.2/\lf p.2=true)->lN kv s=true->eD mem s=some (gg kv s d)/\lf (gg kv s d)=true
 |[],_,h=>by cases h
 |(k,t)::kv,hk,h=>by
  unfold lN at h;unfold gg;cases hb:(bL k==bL s)with
  |true=>
   rw[cond_true];have:=hk (k,t) aox;rw[beq_iff_eq]at hb;rw[<-SY hb];exact this
  |false=>
   rw[hb]at h;simp only[cond_false,Bool.false_or]at h ⊢;exact aaZ (λp hp=>hk p (aoA _ hp)) h
theorem Zg{s:apg}:∀{kv:apf (apg×aT)},lN kv s=false->bL s ∉ kv.map λp=>bL p.1
 |[],_,h=>by cases h
 |(k,t)::kv,hn,h=>by
  unfold lN at hn;rw[aoQ,aoV]at h;cases hb:(bL k==bL s)with
  |true=>rw[hb]at hn;simp at hn
  |false=>
   rw[hb]at hn;simp only[cond_false,Bool.false_or]at hn;rcases h with h|h
   ·rw[h]at hb;simp at hb
   ·exact Zg hn h
def m5{α β:Type}(r:Except Int α)(er:Int)(b:β)(f:α->β->Prop):Prop:=match r with
 | .ok x=>er=0/\f x b
 | .error z=>er=z/\z≠0
theorem ajA{mem:apf aG}{s:apg}{z:Int}(h:ox mem s= .error z):z≠0:=by
 unfold ox at h;split at h
 ·cases h;decide
 ·next t e=>
  cases hb:lf t<;>rw[hb]at h<;>cases h
  decide
theorem Sg{mem:apf aG}{s:apg}{t:aT}(h:ox mem s= .ok t):eD mem s=some t/\lf t=true:=by
 unfold ox at h;split at h
 ·cases h
 ·next t' e=>
  cases hb:lf t'<;>rw[hb]at h<;>cases h
  exact⟨e,hb⟩
theorem abi(N:Nat)(hN:2147483648<N)(mem:apf aG)(hm:mem.length<=4611686018427387904)(s:apg)(kv:apf (apg×aT))(hk:CK mem kv):
 ∃t er dI,CG N s mem kv=some (t,er,dI)/\CK mem dI/\m5 (ox mem s) er t (λx y=>y=x):=by
 unfold CG;cases hh:lN kv s with
 |true=>
  obtain⟨J,h2⟩:=aaZ (d:=(⟨(⟨0,0,0,0,0⟩:aM),[],[]⟩:aT)) hk.ok hh;refine⟨_,_,_,rfl,hk,?_⟩;unfold ox;rw[J];simp only[h2,cond_true];exact⟨rfl,rfl⟩
 |false=>
  rw[cond_false,BJ,aoq];unfold ox;cases hf:eD mem s with
  |none=>exact⟨_,_,_,rfl,hk,rfl,by decide⟩
  |some t=>
   simp only[cond_true];obtain⟨e,J,h2⟩:=Z0 N hN t;rw[J,aoq,h2];cases ht:lf t with
   |false=>exact⟨_,_,_,rfl,hk,rfl,by decide⟩
   |true=>
    have hl:=hk.len;rw[Bool.not_true,cond_false,show Nat.blt kv.length 9223372036854775807=true by rw[Nat.blt_eq];omega,cond_true];refine⟨_,_,_,rfl,⟨λp hp=> ?_,?_⟩,rfl,rfl⟩
    ·rcases aoV.1 hp with rfl|hp
     ·exact⟨hf,ht⟩
     ·exact hk.ok p hp
    ·rw[aoQ,List.nodup_cons];exact⟨Zg hh,hk.nd⟩
def rz(env:apf aI):apf bp->apf Int->Int->Except Int Int
 |[],_,a=> .ok a
 |_::_,[],a=> .ok a
 |l::ls,d::ds,a=>bif (dx l env).2 !=0 then .error (dx l env).2 else bif decide ((dx l env).1.toInt<0)||decide ((dx l env).1.toInt>=d)then .error 12 else rz env ls ds (a*d+(dx l env).1.toInt)
theorem SU(d:Int)(ds:apf Int):(d::ds).foldl (·*·) 1=d*ds.foldl (·*·) 1:=by rw[List.foldl_cons,Int.one_mul,Ml]
theorem Pl{a n d p q:Int}(Kk:0<=a)(ha:a<p)(mw:0<=n)(hn:n<d)(hq:1<=q)(hp:p*(d*q)<=4096):0<=a*d+n/\a*d+n<p*d/\(p*d)*q<=4096/\aQ (aQ (a*d)+n)=a*d+n:=by
 have J:0<=a*d:=Int.mul_nonneg Kk (by omega);have h2:(a+1)*d<=p*d:=Int.mul_le_mul_of_nonneg_right (by omega) (by omega);rw[Int.add_mul,Int.one_mul]at h2;have h3:(p*d)*q<=4096:=by rw[Int.mul_assoc];exact hp
 have h4:(p*d)*1<=(p*d)*q:=Int.mul_le_mul_of_nonneg_left hq (by omega);refine⟨by omega,by omega,h3,?_⟩;rw[xh (n:=a*d) (by omega) (by omega),xh (by omega) (by omega)]
theorem UD(N:Nat)(a:Int)(n:Int64)(d:Int):DZ N a n d=some (bif decide (n.toInt<0)||decide (n.toInt>=d)then(0,12)else(aQ (aQ (a*d)+n.toInt),0)):=by
 unfold DZ;cases decide (n.toInt<0)with
 |true=>rfl
 |false=>
  rw[cond_false,aoq,Bool.false_or];cases decide (n.toInt>=d)<;>rfl
def aes(r:Except Int Int)(p:Int):Prop:=∀a,r= .ok a->0<=a/\a<p
theorem XN(env:apf aI):∀(ls:apf bp)(ds:apf Int)(a p:Int),0<=a->a<p->(∀n∈ds,1<=n)->ls.length=ds.length->p*ds.foldl (·*·) 1<=4096->aes (rz env ls ds a) (p*ds.foldl (·*·) 1)
 |[],[],a,p,h0,J,_,_,_=>λb hb=>by cases hb;rw[List.foldl_nil,Int.mul_one];exact⟨h0,J⟩
 |[],_::_,a,p,_,_,_,hl,_=>by simp at hl
 |_::_,[],a,p,_,_,_,hl,_=>by simp at hl
 |l::ls,d::ds,a,p,h0,J,hd,hl,hp=>by
  intro b hb;unfold rz at hb;cases he:((dx l env).2 !=0)with
  |true=>rw[he]at hb;cases hb
  |false=>
   rw[he,cond_false]at hb;cases hc:(decide ((dx l env).1.toInt<0)||decide ((dx l env).1.toInt>=d))with
   |true=>rw[hc]at hb;cases hb
   |false=>
    rw[hc,cond_false]at hb;rw[ape,decide_eq_false_iff_not,decide_eq_false_iff_not]at hc;rw[SU]at hp ⊢;have hq:=DB λn hn=>hd n (aoA _ hn);obtain⟨k1,k2,k3,_⟩:=Pl (n:=(dx l env).1.toInt) h0 J (by omega) (by omega) hq hp;have:=XN env ls ds _ _ k1 k2 (λn hn=>hd n (aoA _ hn)) (by simpa using hl) k3 b hb;rw[Int.mul_assoc]at this;exact this
def tS(n ext:Int):Int:=max 0 (min n (ext-1))
def gS(mem:apf aG)(env:apf aI)(x:cJ)(ext:Int):Except Int Int64:=match ox mem x.cP with
 | .error z=> .error z
 | .ok t=>bif t.aB.bk !=3 then .error 10 else bif (x.cN.length:Int) !=(t.aU.length:Int)then .error 11 else match rz env x.cN t.aU 0 with
   | .error z=> .error z
   | .ok a=>match t.eI[a.toNat]? with
     |some v=> .ok (Int64.ofInt (tS v.xN.toInt ext))
     |none=> .error 1
theorem ag5{n ext:Int}(J:1<=ext)(h2:ext<=4096):(if(if(aQ (ext-(1:Int)))<n then(aQ (ext-(1:Int)))else n)>0then(if(aQ (ext-(1:Int)))<n then(aQ (ext-(1:Int)))else n)else(0:Int))=tS n ext:=by
 rw[xh (by omega) (by omega)];unfold tS;split<;>split<;>omega
theorem aku{n ext:Int}(J:1<=ext)(h2:ext<=4096):(aQ (tS n ext)==tS n ext)=true:=by
 rw[beq_iff_eq];exact xh (by unfold tS;omega) (by unfold tS;omega)
structure FQ(t:aT):Prop where
 ty:db t.aB=true
 sh:We t.aU
 len:(t.eI.length:Int)=t.aU.foldl (·*·) 1
 Nd:∀v∈t.eI,dJ t.aB v=true
theorem NC{t:aT}(h:lf t=true):FQ t:=by
 unfold lf at h;simp only[aot,beq_iff_eq]at h;exact⟨h.1,No h.2.1,h.2.2.1,aoR.1 h.2.2.2⟩
theorem FQ.get{t:aT}(h:FQ t){a:Int}(h0:0<=a)(J:a<t.aU.foldl (·*·) 1):∃v,t.eI[a.toNat]?=some v/\v∈t.eI:=by
 have hl:=h.len;have hi:a.toNat<t.eI.length:=by omega
 exact⟨t.eI[a.toNat],aov hi,List.getElem_mem hi⟩
theorem YV(N:Nat)(hN:2147483648<N)(env:apf aI)(v6:aT×Int×apf (apg×aT))(hT:FQ v6.1)(ext:Int)(e1:1<=ext)(e2:ext<=4096):∀(ls:apf bp)(k:Nat)(ds:apf Int)(a p:Int),(∀l∈ls,l.xL.length<=4611686018427387904)->v6.1.aU.drop k=ds->ls.length=ds.length->0<=a->a<p->p*ds.foldl (·*·) 1=v6.1.aU.foldl (·*·) 1->
 Em N v6 ext env ls k a=some (match rz env ls ds a with| .error z=>(0,z,v6.2.2)| .ok b=>match v6.1.eI[b.toNat]? with|some v=>(Int64.ofInt (tS v.xN.toInt ext),0,v6.2.2)|none=>(0,1,v6.2.2))
 |[],k,ds,a,p,_,hd,hl,a0,a1,hp=>by
  cases ds with
  |cons=>simp at hl
  |nil=>
   rw[List.foldl_nil,Int.mul_one]at hp;obtain⟨v,hv,_⟩:=hT.get a0 (by omega);unfold Em rz;rw[ao8 a0,cond_true,hv,aoq,ag5 e1 e2,aku e1 e2,cond_true];simp only[hv]
 |l::ls,k,ds,a,p,hf,hd,hl,a0,a1,hp=>by
  cases ds with
  |nil=>simp at hl
  |cons d ds=>
   have e9:=bI hd;have Dh:∀n∈d::ds,1<=n:=λn hn=>hT.sh.pos n (List.mem_of_mem_drop (hd▸hn));unfold Em rz;rw[F2 N hN l env (hf l aox),aoq];cases he:((dx l env).2 !=0)with
   |true=>rfl
   |false=>
    rw[cond_false,cond_false,aoS,e9,aoq,UD,aoq];cases hc:(decide ((dx l env).1.toInt<0)||decide ((dx l env).1.toInt>=d))with
    |true=>rfl
    |false=>
     rw[cond_false,cond_false];rw[ape,decide_eq_false_iff_not,decide_eq_false_iff_not]at hc;rw[SU]at hp;have hq:=DB λn hn=>Dh n (aoA _ hn);obtain⟨k1,k2,k3,k4⟩:=Pl (n:=(dx l env).1.toInt) (d:=d) a0 a1 (by omega) (by omega) hq (by rw[hp];exact hT.sh.le);simp only;rw[show((0:Int) !=0)=false from rfl,cond_false,k4];exact YV N hN env v6 hT ext e1 e2 ls (k+1) ds _ (p*d) (λx hx=>hf x (aoA _ hx)) (ma hd) (by simpa using hl) k1 k2 (by rw[Int.mul_assoc];exact hp)
theorem ajX{mem:apf aG}{env:apf aI}{x:cJ}{ext z:Int}(h:gS mem env x ext= .error z):z≠0:=by
 unfold gS at h;split at h
 ·next e=>cases h;exact ajA e
 ·next t e=>
  cases J:(t.aB.bk !=3)with
  |true=>rw[J]at h;cases h;decide
  |false=>
   rw[J,cond_false]at h;cases h2:((x.cN.length:Int) !=(t.aU.length:Int))with
   |true=>rw[h2]at h;cases h;decide
   |false=>
    rw[h2,cond_false]at h;split at h
    ·next e3=>
     cases h
     have gen:∀(ls:apf bp)(ds:apf Int)(a:Int),rz env ls ds a= .error z->z≠0:=by
      intro ls
      induction ls with
      |nil=>intro ds a h;cases h
      |cons l ls ih=>
       intro ds a h;cases ds with
       |nil=>cases h
       |cons d ds=>
        unfold rz at h;cases h4:((dx l env).2 !=0)with
        |true=>rw[h4]at h;cases h;simpa using h4
        |false=>
         rw[h4,cond_false]at h;cases h5:(decide ((dx l env).1.toInt<0)||decide ((dx l env).1.toInt>=d))with
         |true=>rw[h5]at h;cases h;decide
         |false=>rw[h5,cond_false]at h;exact ih _ _ h
     exact gen _ _ _ e3
    ·next b e3=>
     split at h
     ·cases h
     ·cases h;decide
theorem ank(N:Nat)(hN:2147483648<N)(mem:apf aG)(hm:mem.length<=4611686018427387904)(env:apf aI)(x:cJ)(hx:∀l∈x.cN,l.xL.length<=4611686018427387904)(ext:Int)(e1:1<=ext)(e2:ext<=4096)(kv:apf (apg×aT))(hk:CK mem kv):
 ∃n er dI,H0 N env x ext mem kv=some (n,er,dI)/\CK mem dI/\m5 (gS mem env x ext) er n (λa b=>b=a):=by
 unfold H0;obtain⟨t,er,dI,J,h2,h3⟩:=abi N hN mem hm x.cP kv hk;rw[J,aoq];unfold gS;cases oU:ox mem x.cP with
 |error z=>
  rw[oU]at h3;obtain⟨rfl,hz⟩:=h3;simp only;rw[bne_iff_ne.2 hz,cond_true];exact⟨_,_,_,rfl,h2,rfl,hz⟩
 |ok t'=>
  rw[oU]at h3;obtain⟨rfl,rfl⟩:=h3;simp only;rw[show((0:Int) !=0)=false from rfl,cond_false];have hT:=NC (Sg oU).2;cases pQ:(t.aB.bk !=3)with
  |true=>exact⟨_,_,_,rfl,h2,rfl,by decide⟩
  |false=>
   rw[cond_false,cond_false];cases wN:((x.cN.length:Int) !=(t.aU.length:Int))with
   |true=>exact⟨_,_,_,rfl,h2,rfl,by decide⟩
   |false=>
    rw[cond_false,cond_false];have hl:x.cN.length=t.aU.length:=by
      have:(x.cN.length:Int)=t.aU.length:=by simpa using wN
      omega
    rw[YV N hN env (t,0,dI) hT ext e1 e2 x.cN 0 t.aU 0 1 hx rfl hl (by decide) (by decide) (Int.one_mul _)];have zh:=XN env x.cN t.aU 0 1 (by decide) (by decide) hT.sh.pos hl (by rw[Int.one_mul];exact hT.sh.le);cases hp:rz env x.cN t.aU 0 with
    |error z=>
     refine⟨_,_,_,rfl,h2,rfl,?_⟩;refine ajX (mem:=mem) (env:=env) (x:=x) (ext:=ext) ?_;unfold gS;rw[oU];simp only[pQ,wN,cond_false,hp]
    |ok b=>
     obtain⟨b0,b1⟩:=zh b hp;rw[Int.one_mul]at b1;obtain⟨v,hv,_⟩:=hT.get b0 b1;simp only[hv];exact⟨_,_,_,rfl,h2,rfl,rfl⟩
def Fv(mem:apf aG)(env:apf aI)(x:cJ)(lk:Int):Except Int Int64:=bif bL x.cP==bL (bs [])then(bif (dx x.bx env).2 !=0 then .error (dx x.bx env).2 else .ok (dx x.bx env).1)else gS mem env x lk
structure fmX(x:cJ):Prop where
 l:x.bx.xL.length<=4611686018427387904
 a:∀l∈x.cN,l.xL.length<=4611686018427387904
def uG(mem:apf aG)(env:apf aI):apf cJ->apf Int->Int->Except Int Int
 |[],_,a=> .ok a
 |_::_,[],a=> .ok a
 |x::xs,d::ds,a=>match Fv mem env x d with
  | .error z=> .error z
  | .ok n=>bif decide (n.toInt<0)||decide (n.toInt>=d)then .error 12 else uG mem env xs ds (a*d+n.toInt)
theorem akD{ds:apf Int}(hd:∀n∈ds,1<=n){p d q:Int}(hp:1<=p)(J:1<=d)(hq:1<=q)(h:p*(d*q)<=4096):d<=4096:=by
 have h2:d*1<=d*q:=Int.mul_le_mul_of_nonneg_left hq (by omega);have h3:1*(d*q)<=p*(d*q):=Int.mul_le_mul_of_nonneg_right hp (by omega);omega
theorem X5(N:Nat)(hN:2147483648<N)(mem:apf aG)(hm:mem.length<=4611686018427387904)(env:apf aI)(v5:aT×Int×apf (apg×aT))(hT:FQ v5.1):∀(xs:apf cJ)(k:Nat)(ds:apf Int)(a p:Int)(kv:apf (apg×aT)),(∀x∈xs,fmX x)->v5.1.aU.drop k=ds->xs.length=ds.length->0<=a->a<p->p*ds.foldl (·*·) 1=v5.1.aU.foldl (·*·) 1->CK mem kv->
 ∃t er dI,qp N v5 env mem xs k a kv=some (t,er,dI)/\CK mem dI/\m5 (uG mem env xs ds a) er t (λb y=>∃v,v5.1.eI[b.toNat]?=some v/\y=(⟨v,v5.1.aB⟩:eX))
 |[],k,ds,a,p,kv,_,hd,hl,a0,a1,hp,hk=>by
  cases ds with
  |cons=>simp at hl
  |nil=>
   rw[List.foldl_nil,Int.mul_one]at hp;obtain⟨v,hv,_⟩:=hT.get a0 (by omega);unfold qp uG;rw[ao8 a0,cond_true,hv,aoq];exact⟨_,_,_,rfl,hk,rfl,v,hv,rfl⟩
 |x::xs,k,ds,a,p,kv,hf,hd,hl,a0,a1,hp,hk=>by
  cases ds with
  |nil=>simp at hl
  |cons d ds=>
   have e9:=bI hd;have Dh:∀n∈d::ds,1<=n:=λn hn=>hT.sh.pos n (List.mem_of_mem_drop (hd▸hn));have vr:=Dh d aox;have Zc:=hp;rw[SU]at hp;have hq:=DB λn hn=>Dh n (aoA _ hn);have hle:p*(d*ds.foldl (·*·) 1)<=4096:=by rw[hp];exact hT.sh.le
   have hd4:=akD (λn hn=>Dh n (aoA _ hn)) (by omega) vr hq hle;have hx:=hf x aox;have key:∀(er:Int)(n:Int64)(nc:apf (apg×aT)),CK mem nc->m5 (Fv mem env x d) er n (λa b=>b=a)->
       ∃t Uk dI,Am N v5 k a (λcg fi=>qp N v5 env mem xs (k+1) cg fi) er n nc=some (t,Uk,dI)/\CK mem dI/\m5 (uG mem env (x::xs) (d::ds) a) Uk t (λb y=>∃v,v5.1.eI[b.toNat]?=some v/\y=(⟨v,v5.1.aB⟩:eX)):=by
    intro er n nc jH JS;unfold Am uG;cases Wq:Fv mem env x d with
    |error z=>
     rw[Wq]at JS;obtain⟨rfl,hz⟩:=JS;rw[bne_iff_ne.2 hz,cond_true];exact⟨_,_,_,rfl,jH,rfl,hz⟩
    |ok m=>
     rw[Wq]at JS;obtain⟨rfl,rfl⟩:=JS;rw[show((0:Int) !=0)=false from rfl,cond_false,aoS,e9,aoq,UD,aoq];simp only;cases hc:(decide (n.toInt<0)||decide (n.toInt>=d))with
     |true=>exact⟨_,_,_,rfl,jH,rfl,by decide⟩
     |false=>
      rw[cond_false,cond_false];rw[ape,decide_eq_false_iff_not,decide_eq_false_iff_not]at hc;obtain⟨k1,k2,k3,k4⟩:=Pl (n:=n.toInt) (d:=d) a0 a1 (by omega) (by omega) hq hle;simp only;rw[show((0:Int) !=0)=false from rfl,cond_false,k4];exact X5 N hN mem hm env v5 hT xs (k+1) ds _ (p*d) nc (λy hy=>hf y (aoA _ hy)) (ma hd) (by simpa using hl) k1 k2 (by rw[Int.mul_assoc];exact hp) jH
   unfold qp;cases hb:(bL x.cP==bL (bs []))with
   |true=>
    rw[cond_true,F2 N hN _ _ hx.l,aoq];refine key _ _ _ hk ?_;unfold Fv;rw[hb,cond_true];cases he:((dx x.bx env).2 !=0)with
    |true=>exact⟨rfl,by simpa using he⟩
    |false=>exact⟨by simpa using he,rfl⟩
   |false=>
    rw[cond_false,aoS,e9,aoq];obtain⟨n,er,dI,J,h2,h3⟩:=ank N hN mem hm env x hx.a d vr hd4 kv hk;rw[J,aoq];refine key _ _ _ h2 ?_;unfold Fv;rw[hb,cond_false];exact h3
def LD(mem:apf aG)(env:apf aI)(e:aw):Except Int (aD×aM):=match ox mem e.au with
 | .error z=> .error z
 | .ok t=>bif (e.xIdx.length:Int) !=(t.aU.length:Int)then .error 11 else match uG mem env e.xIdx t.aU 0 with
   | .error z=> .error z
   | .ok a=>match t.eI[a.toNat]? with
     |some v=> .ok (v,t.aB)
     |none=> .error 1
def Ye:aM:=⟨3,0,0,0,0⟩
def xn(mem:apf aG)(env:apf aI)(e:aw):Except Int (aD×aM):=
 bif e.az==1 then .ok (e.de,e.aB)else bif e.az==2 then(bif (dx e.bx env).2 !=0 then .error (dx e.bx env).2 else bif decide ((dx e.bx env).1.toInt>2147483647)||decide ((dx e.bx env).1.toInt< -2147483647)then .error 3 else .ok (⟨(dx e.bx env).1,1⟩,Ye))else LD mem env e
structure QP(e:aw):Prop where
 l:e.bx.xL.length<=4611686018427387904
 x:∀x∈e.xIdx,fmX x
theorem aeY(N:Nat)(hN:2147483648<N)(mem:apf aG)(hm:mem.length<=4611686018427387904)(env:apf aI)(e:aw)(hf:QP e)(kv:apf (apg×aT))(hk:CK mem kv):
 ∃t er dI,BX N env e mem kv=some (t,er,dI)/\CK mem dI/\m5 (LD mem env e) er t (λx y=>y=(⟨x.1,x.2⟩:eX)):=by
 unfold BX;obtain⟨t,er,dI,J,h2,h3⟩:=abi N hN mem hm e.au kv hk;rw[J,aoq];unfold LD;cases oU:ox mem e.au with
 |error z=>
  rw[oU]at h3;obtain⟨rfl,hz⟩:=h3;simp only;rw[bne_iff_ne.2 hz,cond_true];exact⟨_,_,_,rfl,h2,rfl,hz⟩
 |ok t'=>
  rw[oU]at h3;obtain⟨rfl,rfl⟩:=h3;simp only;rw[show((0:Int) !=0)=false from rfl,cond_false];have hT:=NC (Sg oU).2;cases wN:((e.xIdx.length:Int) !=(t.aU.length:Int))with
  |true=>exact⟨_,_,_,rfl,h2,rfl,by decide⟩
  |false=>
   rw[cond_false,cond_false];have hl:e.xIdx.length=t.aU.length:=by
     have:(e.xIdx.length:Int)=t.aU.length:=by simpa using wN
     omega
   obtain⟨y,er,HL,q1,q2,q3⟩:=X5 N hN mem hm env (t,0,dI) hT e.xIdx 0 t.aU 0 1 dI hf.x rfl hl (by decide) (by decide) (Int.one_mul _) h2;rw[q1];refine⟨_,_,_,rfl,q2,?_⟩;cases hp:uG mem env e.xIdx t.aU 0 with
   |error z=>rw[hp]at q3;exact q3
   |ok b=>
    rw[hp]at q3;obtain⟨rfl,v,hv,rfl⟩:=q3;simp only at hv ⊢;rw[hv];exact⟨rfl,rfl⟩
theorem agj(N:Nat)(hN:2147483648<N)(mem:apf aG)(hm:mem.length<=4611686018427387904)(env:apf aI)(e:aw)(hf:QP e)(kv:apf (apg×aT))(hk:CK mem kv):
 ∃t er dI,J8 N env e mem kv=some (t,er,dI)/\CK mem dI/\m5 (xn mem env e) er t (λx y=>y=(⟨x.1,x.2⟩:eX)):=by
 unfold J8 xn;cases J:(e.az==1)with
 |true=>exact⟨_,_,_,rfl,hk,rfl,rfl⟩
 |false=>
  rw[cond_false,cond_false];cases h2:(e.az==2)with
  |true=>
   rw[cond_true,cond_true,F2 N hN _ _ hf.l,aoq];unfold GS;cases he:((dx e.bx env).2 !=0)with
   |true=>
    have hz:(dx e.bx env).2≠0:=by simpa using he
    rw[show((dx e.bx env).2==0)=false by rw[beq_eq_false_iff_ne];exact hz,cond_false,aoq,cond_false];exact⟨_,_,_,rfl,hk,rfl,hz⟩
   |false=>
    have hz:(dx e.bx env).2=0:=by simpa using he
    rw[hz,show((0:Int)==0)=true from rfl,cond_true,cond_false];cases hc:decide ((dx e.bx env).1.toInt>2147483647)with
    |true=>exact⟨_,_,_,rfl,hk,rfl,by decide⟩
    |false=>
     rw[cond_false,aoq,Bool.false_or];cases P4:decide ((dx e.bx env).1.toInt< -2147483647)with
     |true=>exact⟨_,_,_,rfl,hk,rfl,by decide⟩
     |false=>exact⟨_,_,_,rfl,hk,rfl,rfl⟩
  |false=>
   rw[cond_false,cond_false];obtain⟨t,er,dI,q1,q2,q3⟩:=aeY N hN mem hm env e hf kv hk;rw[q1,aoq];exact⟨_,_,_,rfl,q2,q3⟩
theorem anj{mem:apf aG}{env:apf aI}{e:aw}(J:e.az=1->db e.aB=true/\dJ e.aB e.de=true){x:aD×aM}(h:xn mem env e= .ok x):db x.2=true/\dJ x.2 x.1=true:=by
 unfold xn at h;cases k1:(e.az==1)with
 |true=>
  rw[k1,cond_true]at h;cases h;exact J (by simpa using k1)
 |false=>
  rw[k1,cond_false]at h;cases k2:(e.az==2)with
  |true=>
   rw[k2,cond_true]at h;cases he:((dx e.bx env).2 !=0)with
   |true=>rw[he]at h;cases h
   |false=>
    rw[he,cond_false]at h;cases hc:(decide ((dx e.bx env).1.toInt>2147483647)||decide ((dx e.bx env).1.toInt< -2147483647))with
    |true=>rw[hc]at h;cases h
    |false=>
     rw[hc,cond_false]at h;cases h;rw[ape,decide_eq_false_iff_not,decide_eq_false_iff_not]at hc;refine⟨rfl,?_⟩;unfold dJ Ye;simp only;rw[show((3:Int)==2)=false from rfl,cond_false,show((3:Int)==3)=true from rfl,cond_true,ao8 (show(dx e.bx env).1.toInt<=2147483647 by omega),ao8 (show-2147483647<=(dx e.bx env).1.toInt by omega)];rfl
  |false=>
   rw[k2,cond_false]at h;unfold LD at h;cases oU:ox mem e.au with
   |error z=>rw[oU]at h;cases h
   |ok t=>
    rw[oU]at h;simp only at h;have hT:=NC (Sg oU).2;cases wN:((e.xIdx.length:Int) !=(t.aU.length:Int))with
    |true=>rw[wN]at h;cases h
    |false=>
     rw[wN,cond_false]at h;cases hp:uG mem env e.xIdx t.aU 0 with
     |error z=>rw[hp]at h;cases h
     |ok c=>
      rw[hp]at h;simp only at h;cases hv:t.eI[c.toNat]? with
      |none=>rw[hv]at h;cases h
      |some v=>rw[hv]at h;cases h;exact⟨hT.ty,hT.Nd v (aoE hv)⟩
def kR(a b:aM):Bool:=(a.bk==b.bk)&&((a.cf==b.cf)&&((a.bQ==b.bQ)&&((a.cq==b.cq)&&((a.ct==b.ct)&&true))))
theorem ama{a b:aM}:kR a b=true↔a=b:=by
 unfold kR;simp only[aot,beq_iff_eq,Bool.and_true];constructor
 ·rintro⟨J,h2,h3,h4,h5⟩;cases a;cases b;simp_all
 ·rintro rfl;exact⟨rfl,rfl,rfl,rfl,rfl⟩
def sC(t:aM)(r:aD×Int):Except Int (aD×aM):=bif r.2 !=0 then .error r.2 else .ok (r.1,t)
def HW(op c:Int):Bool:=bif op==13 then decide (c<0)else bif op==14 then decide (c<=0)else c==0
def jP{α β:Type}(r:Except Int α)(f:α->Except Int β):Except Int β:=match r with
 | .ok x=>f x
 | .error z=> .error z
mutual
def fy(mem:apf aG)(env:apf aI)(e:aw):Except Int (aD×aM):=
 bif decide (e.az<=3)then xn mem env e else
 match h:e.bZ with
 |[a]=>jP (fy mem env a) λx=>bif e.az==12 then sC e.aB (IT x.2 e.aB x.1)else sC x.2 (qc 8 x.2 x.1 x.1)
 |[a,b]=>jP (fy mem env a) λx=>jP (fy mem env b) λy=>bif kR x.2 y.2 then sC x.2 (qc e.az x.2 x.1 y.1)else .error 10
 |[c,a,b]=>jP (kT mem env c) λt=>bif t then fy mem env a else fy mem env b
 |_=> .error 1
termination_by SizeOf.sizeOf e
decreasing_by all_goals (exact yi (by rw[h];simp))
def kT(mem:apf aG)(env:apf aI)(e:aw):Except Int Bool:=
 match h:e.bZ with
 |[a]=>jP (kT mem env a) λt=> .ok (!t)
 |[a,b]=>bif decide (e.az<16)then jP (fy mem env a) λx=>jP (fy mem env b) λy=>(bif kR x.2 y.2 then .ok (HW e.az (qK x.2 x.1 y.1))else .error 10)else jP (kT mem env a) λs=>jP (kT mem env b) λt=> .ok (bif e.az==16 then s&&t else s||t)
 |_=> .error 1
termination_by SizeOf.sizeOf e
decreasing_by all_goals (exact yi (by rw[h];simp))
end
theorem agd{mem:apf aG}{env:apf aI}{e:aw}(h:e.az<=3):fy mem env e=xn mem env e:=by
 rw[fy,ao8 h,cond_true]
theorem YE{mem:apf aG}{env:apf aI}{e a:aw}(h:¬e.az<=3)(ha:e.bZ=[a]):fy mem env e=jP (fy mem env a) λx=>bif e.az==12 then sC e.aB (IT x.2 e.aB x.1)else sC x.2 (qc 8 x.2 x.1 x.1):=by
 rw[fy,ao9 h,cond_false];split<;>simp_all
theorem aiC{mem:apf aG}{env:apf aI}{e a b:aw}(h:¬e.az<=3)(ha:e.bZ=[a,b]):fy mem env e=jP (fy mem env a) λx=>jP (fy mem env b) λy=>bif kR x.2 y.2 then sC x.2 (qc e.az x.2 x.1 y.1)else .error 10:=by
 rw[fy,ao9 h,cond_false];split<;>simp_all
theorem amj{mem:apf aG}{env:apf aI}{e c a b:aw}(h:¬e.az<=3)(ha:e.bZ=[c,a,b]):fy mem env e=jP (kT mem env c) λt=>bif t then fy mem env a else fy mem env b:=by
 rw[fy,ao9 h,cond_false];split<;>simp_all
theorem acJ{mem:apf aG}{env:apf aI}{e a:aw}(ha:e.bZ=[a]):kT mem env e=jP (kT mem env a) λt=> .ok (!t):=by
 rw[kT];split<;>simp_all
theorem Yh{mem:apf aG}{env:apf aI}{e a b:aw}(ha:e.bZ=[a,b]):kT mem env e=bif decide (e.az<16)then jP (fy mem env a) λx=>jP (fy mem env b) λy=>(bif kR x.2 y.2 then .ok (HW e.az (qK x.2 x.1 y.1))else .error 10)else jP (kT mem env a) λs=>jP (kT mem env b) λt=> .ok (bif e.az==16 then s&&t else s||t):=by
 rw[kT];split<;>simp_all
structure Ev(e:aw):Prop where
 v:∀y∈dE e,ng y=0
 f:∀y∈dE e,QP y
theorem Ev.arg{e x:aw}(h:Ev e)(hx:x∈e.bZ):Ev x:=⟨λy hy=>h.v y (F6 hx hy),λy hy=>h.f y (F6 hx hy)⟩
theorem Ev.here{e:aw}(h:Ev e):ng e=0:=h.v e aox
structure Gt(e:aw):Prop where
 lo:1<=e.az
 hi:e.az<=18
 Tn:(e.bZ.length:Int)=nC e.az
 lit:e.az=1->db e.aB=true/\dJ e.aB e.de=true
 cast:e.az=12->db e.aB=true
 want:∀(i:Nat)(x:aw),e.bZ[i]?=some x->fY x=la e.az i
theorem ZV(op:Int):∀(l:apf aw)(k:Nat),uy op k l=true->∀(i:Nat)(x:aw),l[i]?=some x->fY x=la op (k+i)
 |[],_,_,i,x,hx=>by simp at hx
 |y::l,k,h,i,x,hx=>by
  unfold uy at h;rw[aot,beq_iff_eq]at h;cases i with
  |zero=>cases hx;exact h.1
  |succ i=>
   rw[show k+(i+1)=k+1+i by omega];exact ZV op l (k+1) h.2 i x hx
theorem Ev.n{e:aw}(h:Ev e):Gt e:=by
 obtain⟨J,h2,h3,h4,h5⟩:=Oj h.here;unfold om at J;unfold oS at h3;unfold nU at h4;unfold vm at h5;simp only[aot,decide_eq_true_eq,beq_iff_eq]at J h3 h4 h5;refine⟨J.1,J.2.1,h3.1,λh=> ?_,λh=> ?_,λi x hx=> ?_⟩
 ·have k4:=h4.1;have k5:=h5.1;rw[h]at k4 k5;exact⟨by simpa using k4,by simpa using k5⟩
 ·have k4:=h4.1;rw[h]at k4
  simpa using k4
 ·have:=ZV e.az e.bZ 0 h4.2 i x hx
  rwa [aoL]at this
theorem Xv{e:aw}(h:Gt e):fY e=decide (13<=e.az):=by
 unfold fY;rw[ao8 h.hi,Bool.and_true]
theorem Pu{α:Type}{l:apf α}(h:(l.length:Int)=1):∃a,l=[a]:=by
 match l,h with
 |[a],_=>exact⟨a,rfl⟩
 |[],h=>simp at h
 |_::_::_,h=>simp only[aou]at h;omega
theorem ZT{α:Type}{l:apf α}(h:(l.length:Int)=2):∃a b,l=[a,b]:=by
 match l,h with
 |[a,b],_=>exact⟨a,b,rfl⟩
 |[],h=>simp at h
 |[_],h=>simp at h
 |_::_::_::_,h=>simp only[aou]at h;omega
theorem al5{α:Type}{l:apf α}(h:(l.length:Int)=3):∃a b c,l=[a,b,c]:=by
 match l,h with
 |[a,b,c],_=>exact⟨a,b,c,rfl⟩
 |[],h=>simp at h
 |[_],h=>simp at h
 |[_,_],h=>simp at h
 |_::_::_::_::_,h=>simp only[aou]at h;omega
inductive Kd(e:aw):Prop
 |leaf (h:e.az<=3)
 |cast (a:aw) (h:e.bZ=[a]) (ho:e.az=12)
 |neg (a:aw) (h:e.bZ=[a]) (ho:e.az=8)
 |bin (a b:aw) (h:e.bZ=[a,b]) (ho:4<=e.az/\e.az<=10/\e.az≠8)
 |ite (c a b:aw) (h:e.bZ=[c,a,b]) (ho:e.az=11)
inductive Kc(e:aw):Prop
 |not (a:aw) (h:e.bZ=[a]) (ho:e.az=18)
 |cmp (a b:aw) (h:e.bZ=[a,b]) (ho:13<=e.az/\e.az<=15)
 |log (a b:aw) (h:e.bZ=[a,b]) (ho:e.az=16\/e.az=17)
theorem kd{e:aw}(h:Gt e)(hc:fY e=false):Kd e:=by
 rw[Xv h,decide_eq_false_iff_not]at hc;have hl:=h.lo;have hn:=h.Tn;by_cases h3:e.az<=3
 ·exact .leaf h3
 ·unfold nC at hn;rw[show(e.az==1)=false by rw[beq_eq_false_iff_ne];omega,show(e.az==2)=false by rw[beq_eq_false_iff_ne];omega,show(e.az==3)=false by rw[beq_eq_false_iff_ne];omega]at hn;simp only[Bool.or_false,Bool.false_or,cond_false]at hn;by_cases h8:e.az=8
  ·rw[h8]at hn;obtain⟨a,ha⟩:=Pu (l:=e.bZ) hn;exact .neg a ha h8
  ·by_cases bq:e.az=12
   ·rw[bq]at hn;obtain⟨a,ha⟩:=Pu (l:=e.bZ) hn;exact .cast a ha bq
   ·rw[show(e.az==8)=false by rw[beq_eq_false_iff_ne];exact h8,show(e.az==12)=false by rw[beq_eq_false_iff_ne];exact bq,show(e.az==18)=false by rw[beq_eq_false_iff_ne];omega]at hn;simp only[Bool.or_false,Bool.false_or,cond_false]at hn;by_cases bH:e.az=11
    ·rw[bH]at hn;obtain⟨a,b,c,ha⟩:=al5 (l:=e.bZ) hn;exact .ite a b c ha bH
    ·rw[show(e.az==11)=false by rw[beq_eq_false_iff_ne];exact bH,cond_false]at hn;obtain⟨a,b,ha⟩:=ZT hn;exact .bin a b ha ⟨by omega,by omega,h8⟩
theorem kc{e:aw}(h:Gt e)(hc:fY e=true):Kc e:=by
 rw[Xv h,decide_eq_true_eq]at hc;have hh:=h.hi;have hn:=h.Tn;unfold nC at hn;rw[show(e.az==1)=false by rw[beq_eq_false_iff_ne];omega,show(e.az==2)=false by rw[beq_eq_false_iff_ne];omega,show(e.az==3)=false by rw[beq_eq_false_iff_ne];omega,show(e.az==8)=false by rw[beq_eq_false_iff_ne];omega,show(e.az==12)=false by rw[beq_eq_false_iff_ne];omega,show(e.az==11)=false by rw[beq_eq_false_iff_ne];omega]at hn;simp only[Bool.or_false,Bool.false_or,cond_false]at hn;by_cases fJ:e.az=18
 ·rw[fJ]at hn;obtain⟨a,ha⟩:=Pu (l:=e.bZ) hn;exact .not a ha fJ
 ·rw[show(e.az==18)=false by rw[beq_eq_false_iff_ne];exact fJ,cond_false]at hn;obtain⟨a,b,ha⟩:=ZT hn;by_cases cQ:e.az<=15
  ·exact .cmp a b ha ⟨hc,cQ⟩
  ·exact .log a b ha (by omega)
def N3(r:Except Int (aD×aM))(er:Int)(t:eX):Prop:=m5 r er t λx y=>y.yVal=x.1/\y.fv=x.2/\db x.2=true
def Yx(r:Except Int Bool)(er:Int)(b:Bool):Prop:=match r with
 | .ok x=>er=0/\b=x
 | .error z=>er=z/\z≠0/\b=false
theorem Ou{t:aM}{r:aD×Int}(ht:db t=true):N3 (sC t r) r.2 (⟨r.1,t⟩:eX):=by
 unfold sC;cases h:(r.2 !=0)with
 |true=>exact⟨rfl,by simpa using h⟩
 |false=>exact⟨by simpa using h,rfl,rfl,ht⟩
structure Je(N:Nat)(mem:List aG)(env:List aI)(e:aw):Prop where
 v:fY e=false->∀(d:Nat)(kv:List (ByteArray×aT)),3*SizeOf.sizeOf e<=d->CK mem kv->∃t er dI,lM N d e env mem kv=some (t,er,dI)/\CK mem dI/\N3 (fy mem env e) er t
 h:fY e=true->∀(d:Nat)(kv:List (ByteArray×aT)),3*SizeOf.sizeOf e<=d->CK mem kv->∃b er dI,oz N d e env mem kv=some (b,er,dI)/\CK mem dI/\Yx (kT mem env e) er b
theorem ahH(N:Nat)(env:apf aI)(e:aw)(mem:apf aG)(kv:apf (apg×aT))(d:Nat):lM N (d+1) e env mem kv=xg N env e mem kv (oz N d) (lM N d) (pM N d) (e.az==1||(e.az==2||e.az==3)):=by
 rw[lM];cases J:(e.az==1)with
 |true=>rfl
 |false=>
  cases h2:(e.az==2)with
  |true=>rfl
  |false=>rfl
theorem amU{e:aw}(h:Gt e):(e.az==1||(e.az==2||e.az==3))=decide (e.az<=3):=by
 have:=h.lo;by_cases h3:e.az<=3
 ·rw[ao8 h3];have:e.az=1\/e.az=2\/e.az=3:=by omega
  rcases this with h|h|h<;>rw[h]<;>rfl
 ·rw[ao9 h3,show(e.az==1)=false by rw[beq_eq_false_iff_ne];omega,show(e.az==2)=false by rw[beq_eq_false_iff_ne];omega,show(e.az==3)=false by rw[beq_eq_false_iff_ne];omega];rfl
theorem abj{N:Nat}{mem:apf aG}{env:apf aI}{e a b:aw}(ha:e.bZ=[a,b])(A:Je N mem env a)(B:Je N mem env b)(ca:fY a=false)(cb:fY b=false)(d:Nat)(kv:apf (apg×aT))(hd:3*SizeOf.sizeOf a<=d/\3*SizeOf.sizeOf b<=d)(hk:CK mem kv):
 ∃x y er dI,ym N (d+1) e env mem kv=some (x,y,er,dI)/\CK mem dI/\m5 (jP (fy mem env a) λp=>jP (fy mem env b) λq=>bif kR p.2 q.2 then .ok (p,q)else .error 10) er (x,y) λp r=>r.1.yVal=p.1.1/\r.1.fv=p.1.2/\r.2.yVal=p.2.1/\r.2.fv=p.2.2/\db p.1.2=true:=by
 rw[ym,ha];simp only[List.getElem?_cons_zero,ao2,aoq];obtain⟨t,er,nc,J,h2,h3⟩:=A.v ca d kv hd.1 hk;rw[J,aoq];cases hv:fy mem env a with
 |error z=>
  rw[hv]at h3;obtain⟨rfl,hz⟩:=h3;simp only;rw[bne_iff_ne.2 hz,cond_true];exact⟨_,_,_,_,rfl,h2,rfl,hz⟩
 |ok p=>
  rw[hv]at h3;obtain⟨rfl,e1,e2,e3⟩:=h3;simp only;rw[show((0:Int) !=0)=false from rfl,cond_false];obtain⟨u,er,HL,q1,q2,q3⟩:=B.v cb d nc hd.2 h2;rw[q1,aoq];unfold FB;cases hw:fy mem env b with
  |error z=>
   rw[hw]at q3;obtain⟨rfl,hz⟩:=q3;simp only;rw[show(er==0)=false by rw[beq_eq_false_iff_ne];exact hz,cond_false,aoq,cond_false];exact⟨_,_,_,_,rfl,q2,rfl,hz⟩
  |ok q=>
   rw[hw]at q3;obtain⟨rfl,f1,f2,f3⟩:=q3;simp only;rw[show((0:Int)==0)=true from rfl,cond_true,aoq];show ∃x y er dI,(bif !(kR t.fv u.fv)then _ else _)=_/\_/\m5 (bif kR p.2 q.2 then _ else _) _ _ _;rw[e2,f2];cases kR p.2 q.2 with
   |true=>exact⟨_,_,_,_,rfl,q2,rfl,e1,e2,f1,f2,e3⟩
   |false=>exact⟨_,_,_,_,rfl,q2,rfl,by decide⟩
theorem XX(N:Nat)(hN:9223372036854775808<N)(mem:apf aG)(hm:mem.length<=4611686018427387904)(env:apf aI):∀(n:Nat)(e:aw),SizeOf.sizeOf e<=n->Ev e->Je N mem env e:=by
 intro n
 induction n with
 |zero=>intro e hs _;have:0<SizeOf.sizeOf e:=by cases e;simp;omega
        omega
 |succ n ih=>
  intro e hs hv;have E:=hv.n;have iq:0<SizeOf.sizeOf e:=by cases e;simp;omega
  have sub:∀x∈e.bZ,Je N mem env x/\3*SizeOf.sizeOf x+3<=3*SizeOf.sizeOf e:=λx hx=>by
   have:=yi hx;exact⟨ih x (by omega) (hv.arg hx),by omega⟩
  constructor
  ·intro hc d kv hd hk;obtain⟨d,rfl⟩:∃d',d=d'+1:=⟨d-1,by omega⟩;rw[ahH,amU E];unfold xg;cases kd E hc with
   |leaf h3=>
    rw[ao8 h3,cond_true,agd h3];obtain⟨t,er,dI,J,h2,h4⟩:=agj N (by omega) mem hm env e (hv.f e aox) kv hk;rw[J,aoq];refine⟨_,_,_,rfl,h2,?_⟩;cases hl:xn mem env e with
    |error z=>rw[hl]at h4;exact h4
    |ok x=>
     rw[hl]at h4;obtain⟨rfl,rfl⟩:=h4;exact⟨rfl,rfl,rfl,(anj E.lit hl).1⟩
   |cast a ha ho=>
    have h3:¬e.az<=3:=by omega
    have Fh:a∈e.bZ:=by rw[ha];simp
    obtain⟨A,zC⟩:=sub a Fh;have ca:fY a=false:=by rw[E.want 0 a (by rw[ha];rfl),ho];rfl
    rw[ao9 h3,cond_false,show(e.az==11)=false by rw[ho];rfl,cond_false,YE h3 ha,ho];obtain⟨d,rfl⟩:∃d',d=d'+1:=⟨d-1,by omega⟩;rw[pM,ha,ho];simp only[List.getElem?_cons_zero,aoq,Int.reduceBEq,cond_false,cond_true];obtain⟨t,er,nc,J,h2,h4⟩:=A.v ca d kv (by omega) hk;rw[J,aoq];cases pE:fy mem env a with
    |error z=>
     rw[pE]at h4;obtain⟨rfl,hz⟩:=h4;simp only;rw[bne_iff_ne.2 hz,cond_true,aoq];exact⟨_,_,_,rfl,h2,rfl,hz⟩
    |ok p=>
     rw[pE]at h4;obtain⟨rfl,e1,e2,e3⟩:=h4;simp only;rw[show((0:Int) !=0)=false from rfl,cond_false,acQ N hN,aoq,aoq,e1,e2];exact⟨_,_,_,rfl,h2,Ou (E.cast ho)⟩
   |neg a ha ho=>
    have h3:¬e.az<=3:=by omega
    have Fh:a∈e.bZ:=by rw[ha];simp
    obtain⟨A,zC⟩:=sub a Fh;have ca:fY a=false:=by rw[E.want 0 a (by rw[ha];rfl),ho];rfl
    rw[ao9 h3,cond_false,show(e.az==11)=false by rw[ho];rfl,cond_false,YE h3 ha,ho];obtain⟨d,rfl⟩:∃d',d=d'+1:=⟨d-1,by omega⟩;rw[pM,ha,ho];simp only[List.getElem?_cons_zero,aoq,Int.reduceBEq,cond_false,cond_true];obtain⟨t,er,nc,J,h2,h4⟩:=A.v ca d kv (by omega) hk;rw[J,aoq];cases pE:fy mem env a with
    |error z=>
     rw[pE]at h4;obtain⟨rfl,hz⟩:=h4;simp only;rw[bne_iff_ne.2 hz,cond_true,aoq];exact⟨_,_,_,rfl,h2,rfl,hz⟩
    |ok p=>
     rw[pE]at h4;obtain⟨rfl,e1,e2,e3⟩:=h4;simp only;rw[show((0:Int) !=0)=false from rfl,cond_false,Nt N hN,aoq,aoq,e1,e2];exact⟨_,_,_,rfl,h2,Ou e3⟩
   |bin a b ha ho=>
    have h3:¬e.az<=3:=by omega
    obtain⟨A,zC⟩:=sub a (by rw[ha];simp);obtain⟨B,NY⟩:=sub b (by rw[ha];simp);have w0:la e.az 0=false:=by
     unfold la;rw[show(e.az==11)=false by rw[beq_eq_false_iff_ne];omega,show(e.az==16)=false by rw[beq_eq_false_iff_ne];omega,show(e.az==17)=false by rw[beq_eq_false_iff_ne];omega,show(e.az==18)=false by rw[beq_eq_false_iff_ne];omega];rfl
    have w1:la e.az 1=false:=by
     unfold la;rw[show(e.az==11)=false by rw[beq_eq_false_iff_ne];omega,show(e.az==16)=false by rw[beq_eq_false_iff_ne];omega,show(e.az==17)=false by rw[beq_eq_false_iff_ne];omega,show(e.az==18)=false by rw[beq_eq_false_iff_ne];omega];rfl
    have ca:fY a=false:=by rw[E.want 0 a (by rw[ha];rfl),w0]
    have cb:fY b=false:=by rw[E.want 1 b (by rw[ha];rfl),w1]
    rw[ao9 h3,cond_false,show(e.az==11)=false by rw[beq_eq_false_iff_ne];omega,cond_false,aiC h3 ha];obtain⟨d,rfl⟩:∃d',d=d'+1+1:=⟨d-2,by omega⟩;rw[pM,show(e.az==8)=false by rw[beq_eq_false_iff_ne];omega,cond_false,show(e.az==12)=false by rw[beq_eq_false_iff_ne];omega,aoq,cond_false];obtain⟨x,y,er,dI,J,h2,h4⟩:=abj (e:=e) ha A B ca cb d kv ⟨by omega,by omega⟩ hk;rw[J,aoq];cases pE:fy mem env a with
    |error z=>
     rw[pE]at h4;obtain⟨rfl,hz⟩:=h4;simp only;rw[bne_iff_ne.2 hz,cond_true,aoq];exact⟨_,_,_,rfl,h2,rfl,hz⟩
    |ok p=>
     rw[pE]at h4;cases FP:fy mem env b with
     |error z=>
      rw[FP]at h4;obtain⟨rfl,hz⟩:=h4;simp only;rw[bne_iff_ne.2 hz,cond_true,aoq];exact⟨_,_,_,rfl,h2,rfl,hz⟩
     |ok q=>
      rw[FP]at h4;show ∃t er dI,_=_/\_/\N3 (bif kR p.2 q.2 then sC p.2 (qc e.az p.2 p.1 q.1)else .error 10) er t;replace h4:m5 (bif kR p.2 q.2 then .ok (p,q)else .error 10) er (x,y) λp r=>r.1.yVal=p.1.1/\r.1.fv=p.1.2/\r.2.yVal=p.2.1/\r.2.fv=p.2.2/\db p.1.2=true:=h4;cases nN:kR p.2 q.2 with
      |false=>
       rw[nN]at h4;obtain⟨rfl,hz⟩:=h4;simp only;rw[bne_iff_ne.2 hz,cond_true,aoq];exact⟨_,_,_,rfl,h2,rfl,hz⟩
      |true=>
       rw[nN]at h4;obtain⟨rfl,e1,e2,e3,e4,e5⟩:=h4;simp only at e1 e2 e3 e4 e5 ⊢;rw[show((0:Int) !=0)=false from rfl,cond_false,Nt N hN,aoq,aoq,e1,e2,e3];exact⟨_,_,_,rfl,h2,Ou e5⟩
   |ite c a b ha ho=>
    have h3:¬e.az<=3:=by omega
    obtain⟨C,hsc⟩:=sub c (by rw[ha];simp);obtain⟨A,zC⟩:=sub a (by rw[ha];simp);obtain⟨B,NY⟩:=sub b (by rw[ha];simp);have cc:fY c=true:=by rw[E.want 0 c (by rw[ha];rfl),ho];rfl
    have ca:fY a=false:=by rw[E.want 1 a (by rw[ha];rfl),ho];rfl
    have cb:fY b=false:=by rw[E.want 2 b (by rw[ha];rfl),ho];rfl
    rw[ao9 h3,cond_false,show(e.az==11)=true by rw[ho];rfl,cond_true,amj h3 ha,ha];simp only[List.getElem?_cons_zero,ao2,aoq];obtain⟨t,er,nc,J,h2,h4⟩:=C.h cc d kv (by omega) hk;rw[J,aoq];cases hh:kT mem env c with
    |error z=>
     rw[hh]at h4;obtain⟨rfl,hz,rfl⟩:=h4;simp only;rw[bne_iff_ne.2 hz,cond_true];exact⟨_,_,_,rfl,h2,rfl,hz⟩
    |ok s=>
     rw[hh]at h4;obtain⟨rfl,rfl⟩:=h4;simp only;rw[show((0:Int) !=0)=false from rfl,cond_false];cases t with
     |true=>
      obtain⟨u,er,HL,q1,q2,q3⟩:=A.v ca d nc (by omega) h2;rw[cond_true,q1,aoq];exact⟨_,_,_,rfl,q2,q3⟩
     |false=>
      obtain⟨u,er,HL,q1,q2,q3⟩:=B.v cb d nc (by omega) h2;rw[cond_false,q1,aoq];exact⟨_,_,_,rfl,q2,q3⟩
  ·intro hc d kv hd hk;obtain⟨d,rfl⟩:∃d',d=d'+1+1:=⟨d-2,by omega⟩;rw[oz,FW];cases kc E hc with
   |not a ha ho=>
    obtain⟨A,zC⟩:=sub a (by rw[ha];simp);have ca:fY a=true:=by rw[E.want 0 a (by rw[ha];rfl),ho];rfl
    rw[ha,ho,acJ ha,ao9 (by decide),cond_false];simp only[List.getElem?_cons_zero,aoq];obtain⟨t,er,nc,J,h2,h4⟩:=A.h ca d kv (by omega) hk;rw[J,aoq];cases hh:kT mem env a with
    |error z=>
     rw[hh]at h4;obtain⟨rfl,hz,rfl⟩:=h4;simp only;rw[bne_iff_ne.2 hz,cond_true,aoq,cond_true,show(er==0)=false by rw[beq_eq_false_iff_ne];exact hz,cond_false,aoq,aoq];exact⟨_,_,_,rfl,h2,rfl,hz,rfl⟩
    |ok s=>
     rw[hh]at h4;obtain⟨rfl,rfl⟩:=h4;exact⟨_,_,_,rfl,h2,rfl,rfl⟩
   |cmp a b ha ho=>
    obtain⟨A,zC⟩:=sub a (by rw[ha];simp);obtain⟨B,NY⟩:=sub b (by rw[ha];simp);have w:∀i,la e.az i=false:=λi=>by
     unfold la;rw[show(e.az==11)=false by rw[beq_eq_false_iff_ne];omega,show(e.az==16)=false by rw[beq_eq_false_iff_ne];omega,show(e.az==17)=false by rw[beq_eq_false_iff_ne];omega,show(e.az==18)=false by rw[beq_eq_false_iff_ne];omega];rfl
    have ca:fY a=false:=by rw[E.want 0 a (by rw[ha];rfl),w]
    have cb:fY b=false:=by rw[E.want 1 b (by rw[ha];rfl),w]
    rw[ao8 (show e.az<16 by omega),cond_true,Yh ha,ao8 (show e.az<16 by omega),cond_true];obtain⟨d,rfl⟩:∃d',d=d'+1:=⟨d-1,by omega⟩;obtain⟨x,y,er,dI,J,h2,h4⟩:=abj (e:=e) ha A B ca cb d kv ⟨by omega,by omega⟩ hk;rw[J,aoq];cases pE:fy mem env a with
    |error z=>
     rw[pE]at h4;obtain⟨rfl,hz⟩:=h4;simp only;rw[bne_iff_ne.2 hz,cond_true,aoq];exact⟨_,_,_,rfl,h2,rfl,hz,rfl⟩
    |ok p=>
     rw[pE]at h4;cases FP:fy mem env b with
     |error z=>
      rw[FP]at h4;obtain⟨rfl,hz⟩:=h4;simp only;rw[bne_iff_ne.2 hz,cond_true,aoq];exact⟨_,_,_,rfl,h2,rfl,hz,rfl⟩
     |ok q=>
      rw[FP]at h4;show ∃b er dI,_=_/\_/\Yx (bif kR p.2 q.2 then .ok (HW e.az (qK p.2 p.1 q.1))else .error 10) er b;replace h4:m5 (bif kR p.2 q.2 then .ok (p,q)else .error 10) er (x,y) λp r=>r.1.yVal=p.1.1/\r.1.fv=p.1.2/\r.2.yVal=p.2.1/\r.2.fv=p.2.2/\db p.1.2=true:=h4;cases nN:kR p.2 q.2 with
      |false=>
       rw[nN]at h4;obtain⟨rfl,hz⟩:=h4;simp only;rw[bne_iff_ne.2 hz,cond_true,aoq];exact⟨_,_,_,rfl,h2,rfl,hz,rfl⟩
      |true=>
       rw[nN]at h4;obtain⟨rfl,e1,e2,e3,e4,e5⟩:=h4;simp only at e1 e2 e3 e4 e5 ⊢;rw[show((0:Int) !=0)=false from rfl,cond_false,e1,e2,e3,YD N (by omega) _ _ _ e5,aoq];unfold OC HW;cases (e.az==13)with
       |true=>exact⟨_,_,_,rfl,h2,rfl,rfl⟩
       |false=>
        cases (e.az==14)with
        |true=>exact⟨_,_,_,rfl,h2,rfl,rfl⟩
        |false=>exact⟨_,_,_,rfl,h2,rfl,rfl⟩
   |log a b ha ho=>
    obtain⟨A,zC⟩:=sub a (by rw[ha];simp);obtain⟨B,NY⟩:=sub b (by rw[ha];simp);have w:∀i,la e.az i=true:=λi=>by
     unfold la;rcases ho with h|h<;>rw[h]<;>simp
    have ca:fY a=true:=by rw[E.want 0 a (by rw[ha];rfl),w]
    have cb:fY b=true:=by rw[E.want 1 b (by rw[ha];rfl),w]
    rw[ao9 (show ¬e.az<16 by omega),cond_false,Yh ha,ao9 (show ¬e.az<16 by omega),cond_false,ha];simp only[List.getElem?_cons_zero,ao2,aoq];obtain⟨t,er,nc,J,h2,h4⟩:=A.h ca d kv (by omega) hk;rw[J,aoq];cases hh:kT mem env a with
    |error z=>
     rw[hh]at h4;obtain⟨rfl,hz,rfl⟩:=h4;simp only;rw[bne_iff_ne.2 hz,cond_true,aoq,cond_true,show(er==0)=false by rw[beq_eq_false_iff_ne];exact hz,cond_false,aoq,aoq];exact⟨_,_,_,rfl,h2,rfl,hz,rfl⟩
    |ok s=>
     rw[hh]at h4;obtain⟨rfl,rfl⟩:=h4;simp only;rw[show((0:Int) !=0)=false from rfl,cond_false,show(e.az==18)=false by rw[beq_eq_false_iff_ne];omega,aoq,cond_false];obtain⟨u,er,HL,q1,q2,q3⟩:=B.h cb d nc (by omega) h2;rw[q1,aoq];cases hg:kT mem env b with
     |error z=>
      rw[hg]at q3;obtain⟨rfl,hz,rfl⟩:=q3;simp only;rw[bne_iff_ne.2 hz,cond_true,aoq];exact⟨_,_,_,rfl,q2,rfl,hz,rfl⟩
     |ok s2=>
      rw[hg]at q3;obtain⟨rfl,rfl⟩:=q3;simp only;rw[show((0:Int) !=0)=false from rfl,cond_false];unfold jP;simp only;cases (e.az==16)<;>cases t<;>exact⟨_,_,_,rfl,q2,rfl,rfl⟩
theorem SP(n:Nat):((n:Int) !=(n:Int))=false:=by rw[De,apa];rfl
structure zM(B:Nat)(x:cJ):Prop where
 mo:x.bx.xL.length<=B
 at_:x.cN.length<=B
 E8:∀l∈x.cN,l.xL.length<=B
structure Jw(B:Nat)(e:aw):Prop where
 mo:e.bx.xL.length<=B
 idx:e.xIdx.length<=B
 each:∀x∈e.xIdx,zM B x
 args:e.bZ.length<=B
def ik(B:Nat)(e:aw):Prop:=∀y∈dE e,Jw B y
theorem ik.arg{B:Nat}{e x:aw}(h:ik B e)(hx:x∈e.bZ):ik B x:=λy hy=>h y (F6 hx hy)
theorem zM.mono{A B:Nat}(h:A<=B){x:cJ}(k:zM A x):zM B x:=⟨aoJ k.mo h,aoJ k.at_ h,λl hl=>aoJ (k.E8 l hl) h⟩
theorem Jw.mono{A B:Nat}(h:A<=B){e:aw}(k:Jw A e):Jw B e:=⟨aoJ k.mo h,aoJ k.idx h,λx hx=>(k.each x hx).mono h,aoJ k.args h⟩
abbrev px:Nat:=140737488355328
theorem xq{a b:Nat}(h:a+b<=9223372036854775807):aQ ((a:Int)+(b:Int))=((a+b:Nat):Int):=by
 rw[<-Int.natCast_add];exact H6 h
def Wt(m n:Nat)(Q:Prop)(r:aph Int):Prop:=∃v:Nat,r=some (v:Int)/\n<=v/\v<=m+500000000000000/\(v<=m->Q)
theorem Su(N:Nat)(m:Nat)(hm:m<=100000)(rec:aw->Int->aph Int)(sJ:aw->Prop)(hr:∀(x:aw)(q:Nat),q<=m->sJ x->Wt q 1 (ik q x) (rec x (q:Int))):∀(l:apf aw)(k v:Nat),v<=m+500000000000000->(∀x∈l,sJ x)->
 Wt m v (v+l.length<=m/\∀x∈l,ik m x) (wi N (m:Int) rec l k (v:Int))/\zo N (m:Int) rec l k (v:Int)=wi N (m:Int) rec l k (v:Int)
 |[],k,v,hv,_=>⟨⟨v,rfl,aoC _,by omega,λh=>⟨h,λ_ h=>by cases h⟩⟩,rfl⟩
 |x::l,k,v,hv,hx=>by
  rw[wi,zo,vA];by_cases h:v<=m
  ·rw[ao8 h,cond_true,cond_true,show aQ ((m:Int)-(v:Int))=((m-v:Nat):Int) by rw[show(m:Int)-(v:Int)=((m-v:Nat):Int) by omega];exact H6 (by omega)];obtain⟨n,e1,e2,e3,e4⟩:=hr x (m-v) (Nat.sub_le _ _) (hx x aox);rw[e1,aoq,aoq];dsimp only;rw[xq (by omega)];by_cases hn:v+n<=m
   ·obtain⟨⟨u,f1,f2,f3,f4⟩,f5⟩:=Su N m hm rec sJ hr l (k+1) (v+n) (by omega) λy hy=>hx y (aoA _ hy);refine⟨⟨u,f1,by omega,f3,λhu=> ?_⟩,f5⟩;obtain⟨g1,g2⟩:=f4 hu;refine⟨by simp only[aou];omega,λy hy=> ?_⟩;rcases aoV.1 hy with rfl|hy
    ·exact λz hz=>(e4 (by omega) z hz).mono (by omega)
    ·exact g2 y hy
   ·have stop:∀(l:apf aw)(k:Nat),wi N (m:Int) rec l k ((v+n:Nat):Int)=some ((v+n:Nat):Int)/\zo N (m:Int) rec l k ((v+n:Nat):Int)=some ((v+n:Nat):Int):=by
     intro l k;cases l with
     |nil=>exact⟨rfl,rfl⟩
     |cons y l=>rw[wi,zo,vA,ao9 hn];exact⟨rfl,rfl⟩
    rw[(stop l (k+1)).1,(stop l (k+1)).2];exact⟨⟨v+n,rfl,by omega,by omega,λh=>absurd h hn⟩,rfl⟩
  ·rw[ao9 h];exact⟨⟨v,rfl,aoC _,by omega,λh'=>absurd h' h⟩,rfl⟩
theorem aam(N:Nat)(m:Nat)(hm:m<=100000)(c:Int->aph Int)(lo:Nat)(Q:Prop)(hc:∀v:Nat,v<=m+500000000000000->lo<=v->Wt m v Q (c (v:Int))):∀(l:apf bp)(k v:Nat),v<=m+500000000000000->lo<=v->(∀x∈l,x.xL.length<=px)->
 Wt m v (Q/\∀x∈l,x.xL.length<=m) (IN N c (m:Int) l k (v:Int))
 |[],k,v,hv,kC,_=>by
  obtain⟨u,J,h2,h3,h4⟩:=hc v hv kC;exact⟨u,J,h2,h3,λh=>⟨h4 h,λ_ h=>by cases h⟩⟩
 |x::l,k,v,hv,kC,hx=>by
  rw[IN,vA];by_cases h:v<=m
  ·have xC:x.xL.length<=140737488355328:=hx x aox;rw[ao8 h,cond_true];dsimp only;rw[xq (by omega)];obtain⟨u,f1,f2,f3,f4⟩:=aam N m hm c lo Q hc l (k+1) (v+x.xL.length) (by omega) (by omega) λy hy=>hx y (aoA _ hy);refine⟨u,f1,by omega,f3,λhu=>⟨(f4 hu).1,λy hy=> ?_⟩⟩;rcases aoV.1 hy with rfl|hy
   ·omega
   ·exact(f4 hu).2 y hy
  ·rw[ao9 h,cond_false];obtain⟨u,J,h2,h3,h4⟩:=hc v hv kC;exact⟨u,J,h2,h3,λhu=>absurd (aoJ h2 hu) h⟩
theorem V1(N:Nat)(m:Nat)(hm:m<=100000)(rec:aw->Int->aph Int)(sJ:aw->Prop)(hr:∀(x:aw)(q:Nat),q<=m->sJ x->Wt q 1 (ik q x) (rec x (q:Int)))(e:aw)(ha:∀x∈e.bZ,sJ x):∀(l:apf cJ)(k v:Nat),v<=m+500000000000000->(∀x∈l,zM px x)->
 Wt m v ((e.bZ.length<=m/\∀x∈e.bZ,ik m x)/\∀x∈l,zM m x) (Bj N (m:Int) rec e l k (v:Int))
 |[],k,v,hv,_=>by
  rw[Bj];obtain⟨u,J,h2,h3,h4⟩:=(Su N m hm rec sJ hr e.bZ 0 v hv ha).1;exact⟨u,J,h2,h3,λh=>⟨⟨by have:=(h4 h).1;omega,(h4 h).2⟩,λ_ h=>by cases h⟩⟩
 |x::l,k,v,hv,hx=>by
  rw[Bj,vA];by_cases h:v<=m
  ·have xC:=hx x aox;have J:x.bx.xL.length<=140737488355328:=xC.mo;have h2:x.cN.length<=140737488355328:=xC.at_;rw[ao8 h,cond_true,xq (by omega),xq (by omega)];obtain⟨u,f1,f2,f3,f4⟩:=aam N m hm (λcg=>Bj N (m:Int) rec e l (k+1) cg) 0 _ (λv hv _=>V1 N m hm rec sJ hr e ha l (k+1) v hv λy hy=>hx y (aoA _ hy)) x.cN 0 (v+x.bx.xL.length+x.cN.length) (by omega) (Nat.zero_le _) xC.E8;refine⟨u,f1,by omega,f3,λhu=> ?_⟩;obtain⟨⟨g1,g2⟩,g3⟩:=f4 hu;refine⟨g1,λy hy=> ?_⟩;rcases aoV.1 hy with rfl|hy
   ·exact⟨by omega,by omega,g3⟩
   ·exact g2 y hy
  ·rw[ao9 h,cond_false];obtain⟨⟨u,J,h2,h3,h4⟩,h5⟩:=Su N m hm rec sJ hr e.bZ 0 v hv ha;rw[h5];exact⟨u,J,h2,h3,λhu=>absurd (aoJ h2 hu) h⟩
theorem Uj(N:Nat):∀(d:Nat)(e:aw)(m:Nat),m<=100000->SizeOf.sizeOf e<d->ik px e->Wt m 1 (ik m e) (tN N d e (m:Int))
 |0,_,_,_,h,_=>absurd h (aoT _)
 |d+1,e,m,hm,h,hl=>by
  have he:=hl e aox;have J:e.bx.xL.length<=140737488355328:=he.mo;have h2:e.xIdx.length<=140737488355328:=he.idx;rw[tN,show(1:Int)=((1:Nat):Int)from rfl,xq (by omega),xq (by omega)];obtain⟨u,f1,f2,f3,f4⟩:=V1 N m hm (tN N d) (λx=>SizeOf.sizeOf x<d/\ik px x) (λx q hq hx=>Uj N d x q (by omega) hx.1 hx.2) e (λx hx=>⟨by have:=yi hx;omega,hl.arg hx⟩) e.xIdx 0 (1+e.bx.xL.length+e.xIdx.length) (by omega) he.each;refine⟨u,f1,by omega,f3,λhu=> ?_⟩;obtain⟨⟨g1,g2⟩,g3⟩:=f4 hu;intro y hy;rcases aoV.1 hy with rfl|hy
  ·exact⟨by omega,by omega,g3,g1⟩
  ·obtain⟨x,hx,hy⟩:=Ko hy;exact g2 x hx y hy
structure HX(d:bD):Prop where
 yR:d.aU.length<=12
 red:d.bY.length<=12
 ajo:∀a∈d.aU++d.bY,a.dR.xL.length<=20
 body:ik 400 d.bV
structure yB(p:aV):Prop where
 s:p.bm.length<=12
 w:p.dF.length<=12
 q:p.aY.length<=12
 d:p.aO.length<=12
 o:p.di.length<=12
 W:∀c∈p.dF,c.bx.xL.length<=20
 P:∀x∈p.aY,x.aU.length<=12/\∀y∈x.aU,y.xL.length<=20
 D:∀d∈p.aO,HX d
def Bt(Q:Prop)(r:aph Bool):Prop:=∃b,r=some b/\(b=false->Q)
theorem Bt.mono{Q R:Prop}{r:aph Bool}(h:Bt Q r)(f:Q->R):Bt R r:=let ⟨b,J,h2⟩:=h;⟨b,J,λe=>f (h2 e)⟩
theorem PJ(n:Nat):decide ((n:Int)>20)= !decide (n<=20):=kL n 20
theorem tQ(n:Nat):decide ((n:Int)>12)= !decide (n<=12):=kL n 12
theorem abx(N:Nat):∀(l:apf bp)(k:Nat),Bt (∀y∈l,y.xL.length<=20) (KC N l k)
 |[],_=>⟨_,rfl,λ_ _ h=>by cases h⟩
 |x::l,k=>by
  rw[KC,PJ];by_cases h:x.xL.length<=20
  ·rw[ao8 h];refine(abx N l (k+1)).mono λg y hy=> ?_;rcases aoV.1 hy with rfl|hy
   ·exact h
   ·exact g y hy
  ·rw[ao9 h];exact⟨true,rfl,λh=>by cases h⟩
theorem aaT(N:Nat)(d:bD)(c:aph Bool)(Q:Prop)(hc:Bt Q c)(J:d.aU.length<=12)(h2:d.bY.length<=12):∀(n k:Nat),k<=d.aU.length+d.bY.length->d.aU.length+d.bY.length-k<n->
 Bt (Q/\∀a∈(d.aU++d.bY).drop k,a.dR.xL.length<=20) (Ek N d c n (k:Int))
 |0,k,_,h=>absurd h (aoT _)
 |n+1,k,hk,h=>by
  rw[Ek,xq (by omega)];by_cases hl:k<d.aU.length+d.bY.length
  ·have pv:k<(d.aU++d.bY).length:=by rw[aos];exact hl
   rw[show decide ((k:Int)<((d.aU.length+d.bY.length:Nat):Int))=true from ao8 (by omega),fz (by omega),fz (by omega),show decide ((0:Int)<=(k:Int))=true from ao8 (by omega),cond_true,cond_true,cond_true,cond_true,aoS,aov pv,aoq,PJ,List.drop_eq_getElem_cons pv,Iv (by omega)];by_cases gz:((d.aU++d.bY)[k]).dR.xL.length<=20
   ·rw[ao8 gz];refine(aaT N d c Q hc J h2 n (k+1) (by omega) (by omega)).mono fun⟨g1,g2⟩=>⟨g1,λy hy=> ?_⟩;rcases aoV.1 hy with rfl|hy
    ·exact gz
    ·exact g2 y hy
   ·rw[ao9 gz];exact⟨true,rfl,λh=>by cases h⟩
  ·rw[show decide ((k:Int)<((d.aU.length+d.bY.length:Nat):Int))=false from ao9 (by omega),cond_false,List.drop_eq_nil_of_le (by rw[aos];omega)];exact hc.mono λg=>⟨g,λ_ h=>by cases h⟩
theorem X8(N m:Nat)(hm:m<=400)(hN:1000<N):∀(l:apf bD)(k:Nat),(∀d∈l,ik px d.bV/\SizeOf.sizeOf d.bV<N)->Bt (∀d∈l,HX d) (ED N (m:Int) l k)
 |[],_,_=>⟨_,rfl,λ_ _ h=>by cases h⟩
 |d::l,k,hd=>by
  obtain⟨d1,d2⟩:=hd d aox;have ih:=X8 N m hm hN l (k+1) λy hy=>hd y (aoA _ hy);obtain⟨v,w1,w2,w3,w4⟩:=Uj N N d.bV m (by omega) d2 d1;rw[ED,tQ,tQ];unfold RW;rw[w1,aoq,show decide ((v:Int)>(m:Int))= !decide (v<=m)from kL v m];by_cases J:d.aU.length<=12
  ·rw[ao8 J];by_cases h2:d.bY.length<=12
   ·rw[ao8 h2];by_cases h3:v<=m
    ·rw[ao8 h3];have:=aaT N d _ _ ih J h2 N 0 (Nat.zero_le _) (by omega);rw[ao0]at this;refine Bt.mono this fun⟨g1,g2⟩ y hy=> ?_;rcases aoV.1 hy with rfl|hy
     ·exact⟨J,h2,g2,λz hz=>(w4 h3 z hz).mono hm⟩
     ·exact g1 y hy
    ·rw[ao9 h3];exact⟨true,rfl,λh=>by cases h⟩
   ·rw[ao9 h2];exact⟨true,rfl,λh=>by cases h⟩
  ·rw[ao9 J];exact⟨true,rfl,λh=>by cases h⟩
theorem XR(N m:Nat)(hm:m<=400)(hN:1000<N)(p:aV)(hd:∀d∈p.aO,ik px d.bV/\SizeOf.sizeOf d.bV<N):∀(l:apf dX)(k:Nat),Bt ((∀d∈p.aO,HX d)/\∀x∈l,x.aU.length<=12/\∀y∈x.aU,y.xL.length<=20) (I4 N (m:Int) p l k)
 |[],_=>(X8 N m hm hN p.aO 0 hd).mono λg=>⟨g,λ_ h=>by cases h⟩
 |x::l,k=>by
  obtain⟨b,b1,b2⟩:=abx N x.aU 0;rw[I4,tQ];unfold Og;rw[b1,aoq];by_cases h:x.aU.length<=12
  ·rw[ao8 h];cases b with
   |true=>exact⟨true,rfl,λh=>by cases h⟩
   |false=>
    refine(XR N m hm hN p hd l (k+1)).mono fun⟨g1,g2⟩=>⟨g1,λy hy=> ?_⟩;rcases aoV.1 hy with rfl|hy
    ·exact⟨h,b2 rfl⟩
    ·exact g2 y hy
  ·rw[ao9 h];exact⟨true,rfl,λh=>by cases h⟩
theorem VG(N m:Nat)(hm:m<=400)(hN:1000<N)(p:aV)(hd:∀d∈p.aO,ik px d.bV/\SizeOf.sizeOf d.bV<N):∀(l:apf gF)(k:Nat),Bt (((∀d∈p.aO,HX d)/\∀x∈p.aY,x.aU.length<=12/\∀y∈x.aU,y.xL.length<=20)/\∀c∈l,c.bx.xL.length<=20) (IM N (m:Int) p l k)
 |[],_=>(XR N m hm hN p hd p.aY 0).mono λg=>⟨g,λ_ h=>by cases h⟩
 |c::l,k=>by
  rw[IM,PJ];by_cases h:c.bx.xL.length<=20
  ·rw[ao8 h];refine(VG N m hm hN p hd l (k+1)).mono fun⟨g1,g2⟩=>⟨g1,λy hy=> ?_⟩;rcases aoV.1 hy with rfl|hy
   ·exact h
   ·exact g2 y hy
  ·rw[ao9 h];exact⟨true,rfl,λh=>by cases h⟩
theorem aja(N m:Nat)(hm:m<=400)(hN:1000<N)(p:aV)(hd:∀d∈p.aO,ik px d.bV/\SizeOf.sizeOf d.bV<N):Bt (yB p) (Db N p (m:Int)):=by
 unfold Db;rw[tQ,tQ,tQ,tQ,tQ];by_cases J:p.bm.length<=12
 ·by_cases h2:p.dF.length<=12
  ·by_cases h3:p.aY.length<=12
   ·by_cases h4:p.aO.length<=12
    ·by_cases h5:p.di.length<=12
     ·rw[ao8 J,ao8 h2,ao8 h3,ao8 h4,ao8 h5];exact(VG N m hm hN p hd p.dF 0).mono fun⟨⟨g1,g2⟩,g3⟩=>⟨J,h2,h3,h4,h5,g3,g2,g1⟩
     ·rw[ao8 J,ao8 h2,ao8 h3,ao8 h4,ao9 h5];exact⟨true,rfl,λh=>by cases h⟩
    ·rw[ao8 J,ao8 h2,ao8 h3,ao9 h4];exact⟨true,rfl,λh=>by cases h⟩
   ·rw[ao8 J,ao8 h2,ao9 h3];exact⟨true,rfl,λh=>by cases h⟩
  ·rw[ao8 J,ao9 h2];exact⟨true,rfl,λh=>by cases h⟩
 ·rw[ao9 J];exact⟨true,rfl,λh=>by cases h⟩
theorem agO(n:Nat):w8 (n+3000)=some true:=by kernel_rfl
theorem Hu{N:Nat}(h:3000<=N):w8 N=some true:=by
 obtain⟨n,rfl⟩:∃n,N=n+3000:=⟨N-3000,by omega⟩;exact agO n
structure Uv(x:aG):Prop where
 yR:x.fb.aU.length<=20
 Nd:x.fb.eI.length<=4200
theorem UO(N:Nat)(m:apf aG):∀(l:apf aG)(k:Nat),∃b,LW N m l k=some b/\(b=true->m.length<=30/\∀x∈l,Uv x)
 |[],k=>⟨_,rfl,λh=>⟨by rw[decide_eq_true_eq]at h;omega,λx hx=>by cases hx⟩⟩
 |x::l,k=>by
  rw[LW];obtain⟨b,J,h2⟩:=UO N m l (k+1);by_cases c1:(x.au.size:Int)>100
  ·rw[ao8 c1];exact⟨false,rfl,λh=>by cases h⟩
  ·rw[ao9 c1,cond_false];by_cases c2:(x.fb.aU.length:Int)>20
   ·rw[ao8 c2];exact⟨false,rfl,λh=>by cases h⟩
   ·rw[ao9 c2,cond_false,aoq];by_cases c3:(x.fb.eI.length:Int)>4200
    ·rw[ao8 c3];exact⟨false,rfl,λh=>by cases h⟩
    ·rw[ao9 c3,cond_false];refine⟨b,J,λhb=>⟨(h2 hb).1,λy hy=> ?_⟩⟩;rcases aoV.1 hy with rfl|hy
     ·exact⟨by omega,by omega⟩
     ·exact(h2 hb).2 y hy
theorem ad6(N:Nat)(m:apf aG):∃b,Qm N m=some b/\(b=true->m.length<=30/\∀x∈m,Uv x):=UO N m m 0
theorem UW(N:Nat)(m:apf aI)(n:Int):∀(l:apf aI)(k:Nat),∃b,Kq N m n l k=some b/\(b=true->(m.length:Int)<=n)
 |[],k=>⟨_,rfl,λh=>by rw[decide_eq_true_eq]at h;exact h⟩
 |x::l,k=>by
  rw[Kq];obtain⟨b,J,h2⟩:=UW N m n l (k+1);cases decide ((x.au.size:Int)>100)with
  |true=>exact⟨false,rfl,λh=>by cases h⟩
  |false=>exact⟨b,J,h2⟩
theorem acf(N:Nat)(m:apf aI)(n:Int):∃b,R8 N m n=some b/\(b=true->(m.length:Int)<=n):=UW N m n m 0
theorem ik.mZ{B:Nat}(hB:B<=100000){e:aw}(h:ik B e):mZ e:=λy hy=>
 have hm:100000<=maxLen:=by decide
 have H:=h y hy
 ⟨aoJ (aoJ H.mo hB) hm,λx hx=>⟨aoJ (aoJ (H.each x hx).mo hB) hm,λl hl=>aoJ (aoJ ((H.each x hx).E8 l hl) hB) hm⟩,aoJ (aoJ H.args hB) hm⟩
theorem ik.ev{B:Nat}(hB:B<=100000){e:aw}(h:ik B e)(hv:mu e=0):Ev e:=
 have hm:100000<=4611686018427387904:=by decide
 ⟨λy hy=>N7 hv y hy,λy hy=>
  have H:=h y hy
  ⟨aoJ (aoJ H.mo hB) hm,λx hx=>⟨aoJ (aoJ (H.each x hx).mo hB) hm,λl hl=>aoJ (aoJ ((H.each x hx).E8 l hl) hB) hm⟩⟩⟩
theorem ahW{N:Nat}{p:aV}(h:yB p)(hs:∀d∈p.aO,SizeOf.sizeOf d.bV<N):Bd N p:=
 ⟨aoJ h.s (by decide),aoJ h.w (by decide),aoJ h.q (by decide),aoJ h.d (by decide),aoJ h.o (by decide),
  ⟨λx hx=>aoJ (h.P x hx).1 (by decide),λx hx y hy=>aoJ ((h.P x hx).2 y hy) (by decide)⟩,
  ⟨λd hd=>by have J:=(h.D d hd).yR;have h2:=(h.D d hd).red;omega,λd hd y hy=>aoJ ((h.D d hd).ajo y hy) (by decide)⟩,
  λc hc=>aoJ (h.W c hc) (by decide),λd hd=>⟨(h.D d hd).body.mZ (by decide),hs d hd⟩⟩
def rY(v:Int64):Bool:=decide (1<=v.toInt)&&decide (v.toInt<=4096)
def Iz(env:apf aI)(s:apg):Bool:=match lU env s with
 |none=>false
 |some v=>rY v
def tA(c:gF)(env:apf aI):Bool×Int:=
 let q:=dx c.bx env
 bif q.2 !=0 then(false,q.2)else(bif q.1.toInt==0 then true else bif decide (q.1.toInt>0)then !c.FF else false,0)
def vI(env:apf aI):apf gF->Int
 |[]=>0
 |c::l=>bif (tA c env).2 !=0 then(tA c env).2 else bif (tA c env).1 then vI env l else 16
def K1(p:aV)(env:apf aI):Int:=bif (env.length:Int) !=(p.bm.length:Int)then 15 else bif p.bm.all (Iz env)then vI env p.dF else 15
theorem alr(N:Nat)(hN:2147483648<N)(c:gF)(env:apf aI)(h:c.bx.xL.length<=4611686018427387904):HP N c env=some (tA c env):=by
 unfold HP tA;rw[F2 N hN _ _ h,aoq];dsimp only;cases (dx c.bx env).2 !=0 with
 |true=>rfl
 |false=>
  simp only[cond_false];cases (dx c.bx env).1.toInt==0 with
  |true=>rfl
  |false=>cases decide ((dx c.bx env).1.toInt>0)<;>rfl
theorem aiB(N:Nat)(hN:2147483648<N)(c:gF)(env:apf aI)(h:c.bx.xL.length<=4611686018427387904):RL N c env=some (tA c env):=by
 unfold RL tA;rw[acn N hN _ _ h,aoq];dsimp only;cases (dx c.bx env).2 !=0 with
 |true=>rfl
 |false=>
  simp only[cond_false];cases (dx c.bx env).1.toInt==0 with
  |true=>rfl
  |false=>cases decide ((dx c.bx env).1.toInt>0)<;>rfl
theorem Uy(N:Nat)(hN:2147483648<N)(env:apf aI):∀(l:apf gF)(k:Nat),(∀c∈l,c.bx.xL.length<=4611686018427387904)->HG N env l k=some (vI env l)/\Mc N env l k=some (vI env l)
 |[],k,_=>⟨rfl,rfl⟩
 |c::l,k,h=>by
  obtain⟨J,h2⟩:=Uy N hN env l (k+1) λx hx=>h x (aoA _ hx);rw[HG,Mc,alr N hN c env (h c aox),aiB N hN c env (h c aox),aoq,aoq,J,h2,vI];cases (tA c env).2 !=0 with
  |true=>exact⟨rfl,rfl⟩
  |false=>cases (tA c env).1<;>exact⟨rfl,rfl⟩
theorem UG(N:Nat)(s:apg):∀(env:apf aI)(k:Nat),(lU env s=none->Fk N s env k=some (-1))/\(∀v,lU env s=some v->∃i b,Fk N s env k=some ((k+i:Nat):Int)/\env[i]?=some b/\b.de=v)
 |[],k=>⟨λ_=>rfl,λv h=>by cases h⟩
 |b::r,k=>by
  obtain⟨J,h2⟩:=UG N s r (k+1);unfold lU Fk Rc;simp only[aoq];cases hb:(bL b.au==bL s)with
  |true=>exact⟨λh=>(by cases h),λv h=>by cases h;exact⟨0,b,rfl,rfl,rfl⟩⟩
  |false=>
   simp only[cond_false];refine⟨J,λv h=> ?_⟩;obtain⟨i,c,q1,q2,q3⟩:=h2 v h;exact⟨i+1,c,by rw[q1];congr 2;omega,q2,q3⟩
theorem Zi(N:Nat)(s:apg):∀(env:apf aI)(k:Nat),H8 N s env k=some (match lU env s with|none=>(0,false)|some v=>(v,true))
 |[],_=>rfl
 |b::r,k=>by
  rw[H8,lU];cases bL b.au==bL s with
  |true=>rfl
  |false=>exact Zi N s r (k+1)
theorem Xu(v:Int64):(bif decide (v.toInt<1)then some true else some (decide (v.toInt>4096)))=some (!rY v):=by
 unfold rY;by_cases J:v.toInt<1
 ·rw[ao8 J,ao9 (show ¬1<=v.toInt by omega)];rfl
 ·rw[ao9 J,ao8 (show 1<=v.toInt by omega)];by_cases h2:v.toInt>4096
  ·rw[ao8 h2,ao9 (show ¬v.toInt<=4096 by omega)];rfl
  ·rw[ao9 h2,ao8 (show v.toInt<=4096 by omega)];rfl
theorem TI(N:Nat)(hN:2147483648<N)(env:apf aI)(p:aV)(hw:∀c∈p.dF,c.bx.xL.length<=4611686018427387904):∀(l:apf apg)(k:Nat),Ln N env p l k=some (bif l.all (Iz env)then vI env p.dF else 15)/\MB N env p l k=some (bif l.all (Iz env)then vI env p.dF else 15)
 |[],k=>Uy N hN env p.dF 0 hw
 |s::l,k=>by
  obtain⟨J,h2⟩:=TI N hN env p hw l (k+1);rw[Ln,MB,J,h2,apb];unfold RZ Tc Iz;rw[Zi N s env 0,aoq];obtain⟨q1,q2⟩:=UG N s env 0;cases he:lU env s with
  |none=>rw[q1 he];exact⟨rfl,rfl⟩
  |some v=>
   obtain⟨i,b,r1,r2,rfl⟩:=q2 v he;rw[r1];simp only[aoq,aoL];rw[ao9 (show ¬(i:Int)<0 by omega),ao8 (show(0:Int)<=(i:Int) by omega),aoS,r2];simp only[aoq,cond_true,cond_false];rw[Xu];cases rY b.de<;>exact⟨rfl,rfl⟩
theorem alW(N:Nat)(hN:2147483648<N)(env:apf aI)(p:aV)(hw:∀c∈p.dF,c.bx.xL.length<=4611686018427387904):HO N p env=some (K1 p env):=by
 unfold HO K1;rw[(TI N hN env p hw p.bm 0).1];cases (env.length:Int) !=(p.bm.length:Int)<;>rfl
def extE(env:apf aI):apf bp->apf Int->apf Int×Int
 |[],acc=>(acc,0)
 |f::l,acc=>bif (dx f env).2 !=0 then([],(dx f env).2)else bif rY (dx f env).1 then extE env l (acc++[(dx f env).1.toInt])else([],15)
theorem Sf(N:Nat)(hN:2147483648<N)(env:apf aI):∀(l:apf bp)(k:Nat)(acc:apf Int),(∀x∈l,lB 1000000000 x)->acc.length+l.length<=1000000000->JW N env l k acc=some (extE env l acc)
 |[],k,acc,_,_=>rfl
 |f::l,k,acc,h,hl=>by
  simp only[aou]at hl;have hf:f.xL.length<=4611686018427387904:=aoJ (h f aox) (by decide);have J:=Sf N hN env l (k+1) (acc++[(dx f env).1.toInt]) (λx hx=>h x (aoA _ hx)) (by simp only[aos,aou,aoD];omega);rw[JW,F2 N hN f env hf,aoq,Xu,aoq,fz (by omega),cond_true];dsimp only;rw[J,extE];cases (dx f env).2 !=0 with
  |true=>rfl
  |false=>cases rY (dx f env).1<;>rfl
theorem IQ(env:apf aI):∀(l:apf bp)(acc:apf Int),(∀x∈acc,1<=x/\x<=4096)->∀x∈(extE env l acc).1,1<=x/\x<=4096
 |[],acc,h=>h
 |f::l,acc,h=>by
  rw[extE];cases (dx f env).2 !=0 with
  |true=>exact λx hx=>by cases hx
  |false=>
   rw[cond_false];cases hr:rY (dx f env).1 with
   |false=>exact λx hx=>by cases hx
   |true=>
    rw[cond_true];refine IQ env l _ λx hx=> ?_;rcases ao3.1 hx with hx|hx
    ·exact h x hx
    ·rw[List.mem_singleton]at hx;subst hx;unfold rY at hr;rw[aot,decide_eq_true_eq,decide_eq_true_eq]at hr;exact hr
def c8:apf Int->Int
 |[]=>1
 |x::l=>x*c8 l
theorem sX:∀{l:apf Int},(∀x∈l,1<=x/\x<=4096)->1<=c8 l
 |[],_=>by decide
 |x::l,h=>by
  rw[c8];have J:=sX λy hy=>h y (aoA _ hy);have h2:=(h x aox).1;have:=Int.mul_le_mul h2 J (by decide) (by omega);omega
theorem W5(N:Nat)(lim:Int)(hl:lim<=65536):∀(l:apf Int)(k:Nat)(v:Int),(∀x∈l,1<=x/\x<=4096)->1<=v->v<=lim->B8 N lim l k v=some (if v*c8 l<=lim then v*c8 l else lim+1)
 |[],k,v,_,J,h2=>by
  rw[B8,c8,Int.mul_one,if_pos h2]
 |x::l,k,v,h,J,h2=>by
  have hx:=h x aox;have hp:=sX (l:=l) λy hy=>h y (aoA _ hy);have iL:v*x<=65536*4096:=Int.mul_le_mul (by omega) hx.2 (by omega) (by omega);have lA:1*1<=v*x:=Int.mul_le_mul J hx.1 (by decide) (by omega);rw[B8,c8,jd (by omega) (by omega),<-Int.mul_assoc];by_cases hc:v*x>lim
  ·rw[ao8 hc,cond_true,jd (by omega) (by omega),if_neg];have:v*x*1<=v*x*c8 l:=Int.mul_le_mul_of_nonneg_left hp (by omega);omega
  ·rw[ao9 hc,cond_false];dsimp only;exact W5 N lim hl l (k+1) (v*x) (λy hy=>h y (aoA _ hy)) (by omega) (by omega)
theorem aoa(N:Nat)(lim:Int)(J:1<=lim)(hl:lim<=65536)(l:apf Int)(h:∀x∈l,1<=x/\x<=4096):RV N l lim=some (if c8 l<=lim then c8 l else lim+1):=by
 have:=W5 N lim hl l 0 1 h (by decide) J
 rwa [Int.one_mul]at this
theorem abd(lim:Int)(J:1<=lim)(hl:lim<=65536)(n:Int):decide ((if n<=lim then n else lim+1)>lim)=decide (n>lim):=by
 by_cases h:n<=lim
 ·rw[if_pos h]
 ·rw[if_neg h,ao8 (show lim+1>lim by omega),ao8 (show n>lim by omega)]
theorem ahE{P:apf dX}{D:apf bD}(hP:lJ P)(hD:gX D)(s:apg):(dN P D s).2.1.length<=1000000000/\∀y∈(dN P D s).2.1,lB 1000000000 y:=by
 unfold dN;cases J:P.find? (λx=>bL x.au==bL s)with
 |some x=>
  have:=List.mem_of_find?_eq_some J;exact⟨hP.len x this,hP.lk x this⟩
 |none=>
  dsimp only;cases h2:D.find? (kX s)with
  |some d=>
   have hd:=List.mem_of_find?_eq_some h2;refine⟨?_,λy hy=> ?_⟩
   ·have:=hD.len d hd;dsimp only;rw[aow];omega
   ·obtain⟨a,ha,rfl⟩:=List.mem_map.1 hy;exact hD.yR hd a ha
  |none=>exact⟨by simp,λy hy=>by cases hy⟩
def gd(p:aV)(env:apf aI)(s:apg):apf Int×aM×Int:=
 let q:=dN p.aY p.aO s
 bif q.2.2 then
  (let x:=extE env q.2.1 []
   bif x.2 !=0 then([],q.1,x.2)else bif decide (c8 x.1>4096)then([],q.1,15)else(x.1,q.1,0))
 else([],q.1,9)
theorem M8(N:Nat)(hN:2147483648<N)(p:aV)(env:apf aI)(s:apg)(hP:lJ p.aY)(hD:gX p.aO):zp N p env s=some (gd p env s):=by
 unfold zp gd C9;rw[MC N p s hP hD,aoq];obtain⟨J,h2⟩:=ahE hP hD s;rw[Sf N hN env (dN p.aY p.aO s).2.1 0 [] h2 (by simpa using J)];dsimp only;cases (dN p.aY p.aO s).2.2 with
 |false=>rfl
 |true=>
  simp only[cond_true,aoq];cases hx:(extE env (dN p.aY p.aO s).2.1 []).2 !=0 with
  |true=>rfl
  |false=>
   rw[cond_false,cond_false,aoa N 4096 (by decide) (by decide) _ (IQ env _ [] λx hx=>by cases hx),aoq,abd 4096 (by decide) (by decide)];cases decide (c8 (extE env (dN p.aY p.aO s).2.1 []).1>4096)<;>rfl
theorem ahG(N:Nat)(L:apf Int):uh N L L=some true:=by
 have go:∀(l:apf Int)(k:Nat),L.drop k=l->uV N L l k=some true:=by
  intro l
  induction l with
  |nil=>intro k _;rfl
  |cons x l ih=>intro k h;rw[uV,aoS,bI h,aoq,bne_self_eq_false,cond_false];exact ih (k+1) (pf h)
 unfold uh;rw[SP,cond_false];exact go L 0 rfl
end Go.Proofs.YtpeecnpmcbnahaaGreatDoor
