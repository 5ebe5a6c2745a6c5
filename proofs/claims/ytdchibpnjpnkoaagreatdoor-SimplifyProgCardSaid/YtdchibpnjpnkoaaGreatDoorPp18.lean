/-
  Part 18 of the proof: SmE, SmR, SmS, SmVR, SmVF, SmK, SmL, SmM, SmN, SmO, SmP, SmQ, SmX, SmG, OpenT, SmProgAbs.
-/
import Derived.Test.YtdchibpnjpnkoaaGreatDoorPp17
namespace Go.Proofs.YtdchibpnjpnkoaaGreatDoor
open Go.RowKit
set_option linter.unusedSimpArgs false
set_option linter.unusedVariables false
theorem afz{a b:aE}:fx a b=true↔a=b:=by
 unfold fx;simp only[arA,beq_iff_eq,and_true];constructor
 ·rintro⟨h1,h2,h3,h4,h5⟩;cases a;cases b;simp only at*;subst h1;subst h2;subst h3;subst h4;subst h5;rfl
 ·rintro rfl;exact⟨rfl,rfl,rfl,rfl,rfl⟩
noncomputable def kF(a b:an):Bool:=se (SizeOf.sizeOf a+1) a b
def cV(op:Int)(l:asn an):an:=⟨op,bs [],bW,cY,dq,[],l⟩
def iu(t:aE)(v:aG):an:=⟨1,bs [],v,t,dq,[],[]⟩
def n5(l:aH):an:=⟨2,bs [],bW,cY,l,[],[]⟩
def zj:aE:=⟨3,0,0,0,0⟩
def CK(op:Int):Bool:=op==4||(op==5||(op==6||(op==7||(op==9||op==10))))
abbrev Kn:=gS
def mc:Kn:=⟨cY,false⟩
def kC:Nat->an->Kn
 |0,_=>mc
 |d+1,e=>bif e.ar==1||e.ar==12 then⟨e.ay,true⟩else bif e.ar==2 then⟨zj,true⟩
  else match e.ax with
  |[a]=>bif e.ar==8 then kC d a else mc
  |[a,b]=>bif CK e.ar then(bif (kC d a).dQ then kC d a else kC d b)else mc
  |[_,a,b]=>bif e.ar==11&&((kC d a).dQ&&((kC d b).dQ&&fx (kC d a).yT (kC d b).yT))then kC d a else mc
  |_=>mc
noncomputable def du(e:an):Kn:=kC (SizeOf.sizeOf e) e
theorem Sj:∀(d d':Nat)(e:an),SizeOf.sizeOf e<=d->SizeOf.sizeOf e<=d'->kC d e=kC d' e
 |0,_,e,h,_=>by cases e;simp at h
 |_,0,e,_,h=>by cases e;simp at h
 |d+1,d'+1,e,h,h'=>by
  have ih:∀x∈e.ax,kC d x=kC d' x:=λx hx=>Sj d d' x (by have:=gY hx;omega) (by have:=gY hx;omega);rw[kC,kC];revert ih
  match e.ax with
  |[]=>intro _;rfl
  |[a]=>intro ih;simp only[ih a (by simp)]
  |[a,b]=>intro ih;simp only[ih a (by simp),ih b (by simp)]
  |[c,a,b]=>intro ih;simp only[ih a (by simp),ih b (by simp)]
  |_::_::_::_::_=>intro _;rfl
theorem Yk(e:an):du e=bif e.ar==1||e.ar==12 then⟨e.ay,true⟩else bif e.ar==2 then⟨zj,true⟩
 else match e.ax with
 |[a]=>bif e.ar==8 then du a else mc
 |[a,b]=>bif CK e.ar then(bif (du a).dQ then du a else du b)else mc
 |[_,a,b]=>bif e.ar==11&&((du a).dQ&&((du b).dQ&&fx (du a).yT (du b).yT))then du a else mc
 |_=>mc:=by
 have ih:∀x∈e.ax,kC (SizeOf.sizeOf e) x=du x:=λx hx=>Sj _ _ x (by have:=gY hx;omega) (arJ _);unfold du;rw[Sj _ (SizeOf.sizeOf e+1) e (arJ _) (Nat.le_succ _),kC];revert ih;unfold du
 match e.ax with
 |[]=>intro _;rfl
 |[a]=>intro ih;simp only[ih a (by simp)]
 |[a,b]=>intro ih;simp only[ih a (by simp),ih b (by simp)]
 |[c,a,b]=>intro ih;simp only[ih a (by simp),ih b (by simp)]
 |_::_::_::_::_=>intro _;rfl
noncomputable def xJ(a b:an):Kn:=bif (du a).dQ then du a else du b
noncomputable def sf(e:an)(k:Kn)(i:Nat):Kn:=
 bif CK e.ar||(e.ar==8||(e.ar==11&& !(i==0)))then k
 else bif e.ar==12 then(match e.ax with|[a]=>du a|_=>mc)
 else bif e.ar==13||(e.ar==14||e.ar==15)then(match e.ax with|[a,b]=>xJ a b|_=>mc)else mc
def kS(e:an):asp aH:=bif e.ar==2 then some e.aM else bif e.ar==1&&e.ay.aO==3 then some ⟨e.bD.xN,[]⟩else none
def nx(f g:aH):X aH:=match kJ g (-1)with| .error e=> .error e| .ok h=>lM f h
def Uc(a b:an):asp Int64:=match kS a,kS b with
 |some f,some g=>(match nx f g with| .ok d=>bif d.xL.length==0 then some d.xK else none| .error _=>none)
 |_,_=>none
def vH(op sign:Int):Bool:=bif op==13 then decide (sign<0)else bif op==14 then decide (sign<=0)else sign==0
noncomputable def oS(op:Int)(a b:an):Bool×Bool:=
 bif a.ar==1&&(b.ar==1&&fx a.ay b.ay)then(vH op (l7 a.ay a.bD b.bD),true)
 else match Uc a b with
 |some k=>(vH op (nM k.toInt 0),true)
 |none=>bif kF a b then(!(op==13),true)else(false,false)
noncomputable def jF:Nat->an->Bool×Bool
 |0,_=>(false,false)
 |d+1,e=>match e.ax with
  |[a]=>bif e.ar==18 then((jF d a).2&& !(jF d a).1,(jF d a).2)else(false,false)
  |[a,b]=>bif e.ar==13||(e.ar==14||e.ar==15)then oS e.ar a b
   else bif e.ar==16||e.ar==17 then
    (bif ((jF d a).2&&(jF d a).1==(e.ar==17))||((jF d b).2&&(jF d b).1==(e.ar==17))then(e.ar==17,true)
    else(!(e.ar==17)&&((jF d a).2&&(jF d b).2),(jF d a).2&&(jF d b).2))
   else(false,false)
  |_=>(false,false)
noncomputable def fy(e:an):Bool×Bool:=jF (SizeOf.sizeOf e) e
theorem Rj:∀(d d':Nat)(e:an),SizeOf.sizeOf e<=d->SizeOf.sizeOf e<=d'->jF d e=jF d' e
 |0,_,e,h,_=>by cases e;simp at h
 |_,0,e,_,h=>by cases e;simp at h
 |d+1,d'+1,e,h,h'=>by
  have ih:∀x∈e.ax,jF d x=jF d' x:=λx hx=>Rj d d' x (by have:=gY hx;omega) (by have:=gY hx;omega);rw[jF,jF];revert ih
  match e.ax with
  |[]=>intro _;rfl
  |[a]=>intro ih;simp only[ih a (by simp)]
  |[a,b]=>intro ih;simp only[ih a (by simp),ih b (by simp)]
  |_::_::_::_=>intro _;rfl
theorem adn(e:an):fy e=match e.ax with
 |[a]=>bif e.ar==18 then((fy a).2&& !(fy a).1,(fy a).2)else(false,false)
 |[a,b]=>bif e.ar==13||(e.ar==14||e.ar==15)then oS e.ar a b
  else bif e.ar==16||e.ar==17 then
   (bif ((fy a).2&&(fy a).1==(e.ar==17))||((fy b).2&&(fy b).1==(e.ar==17))then(e.ar==17,true)
   else(!(e.ar==17)&&((fy a).2&&(fy b).2),(fy a).2&&(fy b).2))
  else(false,false)
 |_=>(false,false):=by
 have ih:∀x∈e.ax,jF (SizeOf.sizeOf e) x=fy x:=λx hx=>Rj _ _ x (by have:=gY hx;omega) (arJ _);unfold fy;rw[Rj _ (SizeOf.sizeOf e+1) e (arJ _) (Nat.le_succ _),jF];revert ih;unfold fy
 match e.ax with
 |[]=>intro _;rfl
 |[a]=>intro ih;simp only[ih a (by simp)]
 |[a,b]=>intro ih;simp only[ih a (by simp),ih b (by simp)]
 |_::_::_::_=>intro _;rfl
def q8(t:aE)(r:aG×Int):asp an:=bif r.2==0 then some (iu t r.1)else none
def ki(r:X aH):asp an:=match r with| .ok l=>some (n5 l)| .error _=>none
def vl(e:an):asp an:=match e.ax with
 |[a]=>bif e.ar==8&&a.ar==1 then q8 a.ay (s9 8 a.ay a.bD a.bD)else none
 |[a,b]=>bif CK e.ar&&(a.ar==1&&(b.ar==1&&fx a.ay b.ay))then q8 a.ay (s9 e.ar a.ay a.bD b.bD)else none
 |_=>none
noncomputable def uV(e:an):asp an:=match e.ax with
 |[a]=>bif e.ar==12 then(bif a.ar==1 then q8 e.ay (yu a.ay e.ay a.bD)else bif (du a).dQ&&fx (du a).yT e.ay then some a else none)else none
 |_=>none
def B8(op:Int)(a b:an):asp an:=match kS a,kS b with
 |some f,some g=>bif a.ar==2||b.ar==2 then ki (bif op==5 then nx f g else lM f g)else none
 |_,_=>none
def iY(e:an):Bool:=e.ar==1&&e.ay.aO==3
def rB(a b:an):asp an:=
 bif a.ar==2&&iY b then ki (kJ a.aM b.bD.xN)else bif iY a&&b.ar==2 then ki (kJ b.aM a.bD.xN)else none
def we(e:an):asp an:=
 bif e.ar==2 then(bif e.aM.xL.length==0&&(decide (-2147483647<=e.aM.xK.toInt)&&decide (e.aM.xK.toInt<=2147483647))then some (iu zj ⟨e.aM.xK,1⟩)else none)
 else match e.ax with
 |[a]=>bif e.ar==8&&a.ar==2 then ki (kJ a.aM (-1))else none
 |[a,b]=>bif e.ar==4||e.ar==5 then B8 e.ar a b else bif e.ar==6 then rB a b else none
 |_=>none
noncomputable def wG(e:an):asp an:=match e.ax with
 |[c,a,b]=>bif e.ar==11&&(fy c).2 then some (bif (fy c).1 then a else b)else none
 |_=>none
noncomputable def vb(e:an):asp an:=match e.ax with
 |[_,a,b]=>bif e.ar==11&&kF a b then some a else none
 |[a,b]=>bif (e.ar==9||(e.ar==10||(e.ar==16||e.ar==17)))&&kF a b then some a else none
 |_=>none
def gj(e:an):Bool:=e.ar==1&&rm e.bD (rU e.ay)
def lr(e:an):Bool:=e.ar==1&&((jR e.ay).2==0&&rm e.bD (jR e.ay).1)
def um(e:an):asp an:=match e.ax with
 |[a,b]=>bif e.ar==4 then(bif gj b then some a else bif gj a then some b else none)
  else bif e.ar==5 then(bif gj b then some a else bif gj a then some (cV 8 [b])else none)
  else bif e.ar==6 then(bif gj b then some b else bif gj a then some a else none)
  else bif e.ar==7 then(bif gj a then some a else none)else none
 |_=>none
def vD(e:an):asp an:=match e.ax with
 |[a,b]=>bif e.ar==6 then(bif lr b then some a else bif lr a then some b else none)else bif e.ar==7 then(bif lr b then some a else none)else none
 |_=>none
noncomputable def vW(e:an)(k:Kn):asp an:=match e.ax with
 |[a,b]=>bif (e.ar==5||e.ar==7)&&(k.dQ&&kF a b)then
    (bif e.ar==5 then some (iu k.yT (rU k.yT))else bif !(k.yT.aO==2)&&(jR k.yT).2==0 then some (iu k.yT (jR k.yT).1)else none)else none
 |_=>none
def tX(e:an)(k:Kn):asp an:=
 bif k.dQ&&(!(k.yT.aO==2)||k.yT.bM==2)then
  (match e.ax with
  |[a]=>bif e.ar==8&&a.ar==8 then a.ax[0]? else none
  |[a,b]=>bif e.ar==4 then(bif b.ar==8 then(b.ax[0]?).map λx=>cV 5 [a,x]else bif a.ar==8 then(a.ax[0]?).map λx=>cV 5 [b,x]else none)
   else bif e.ar==5&&b.ar==8 then(b.ax[0]?).map λx=>cV 4 [a,x]else none
  |_=>none)else none
def uU(e:an):asp an:=match e.ax with
 |[c,a,b]=>bif e.ar==11&&c.ar==18 then(c.ax[0]?).map λx=>cV 11 [x,b,a]else none
 |[c]=>bif e.ar==18 then
    (bif c.ar==18 then c.ax[0]? else bif c.ar==13 then(match c.ax with|[x,y]=>some (cV 14 [y,x])|_=>none)
    else bif c.ar==14 then(match c.ax with|[x,y]=>some (cV 13 [y,x])|_=>none)else none)else none
 |_=>none
noncomputable def uF(e:an):asp an:=match e.ax with
 |[a,b]=>bif e.ar==16||e.ar==17 then
    (bif (fy a).2&&(fy a).1==(e.ar==16)then some b else bif (fy b).2&&(fy b).1==(e.ar==16)then some a else none)else none
 |_=>none
abbrev Rw:=asp (an×aso)
def kO(o:asp an)(s:aso)(r:Rw):Rw:=match o with|some x=>some (x,s)|none=>r
def QX:aso:=bs [102,111,108,100]
def Uw:aso:=bs [99,97,115,116]
def SR:aso:=bs [105,110,100,101,120]
def Qk:aso:=bs [105,102]
def Qm:aso:=bs [115,97,109,101]
def S2:aso:=bs [122,101,114,111]
def Uo:aso:=bs [111,110,101]
def QB:aso:=bs [99,97,110,99,101,108]
def Oy:aso:=bs [110,101,103,97,116,101]
def RU:aso:=bs [110,111,116]
def Ur:aso:=bs [108,111,103,105,99]
noncomputable def oe(e:an)(k:Kn):Rw:=
 kO (vl e) QX (kO (uV e) Uw (kO (we e) SR (kO (wG e) Qk (kO (vb e) Qm (kO (um e) S2 (kO (vD e) Uo
  (kO (vW e k) QB (kO (tX e k) Oy (kO (uU e) RU (kO (uF e) Ur none))))))))))
def vg(e:an)(i:Nat)(x:an):an:=⟨e.ar,e.aC,e.bD,e.ay,e.aM,e.xIdx,e.ax.set i x⟩
noncomputable def ld(rec:an->Kn->Rw)(e:an)(k:Kn):Nat->asn an->Rw
 |_,[]=>none
 |i,x::l=>match rec x (sf e k i)with
  |some (y,s)=>some (vg e i y,s)
  |none=>ld rec e k (i+1) l
noncomputable def mB:Nat->an->Kn->Rw
 |0,_,_=>none
 |d+1,e,k=>match oe e k with
  |some r=>some r
  |none=>ld (mB d) e k 0 e.ax
noncomputable def jV(e:an)(k:Kn):Rw:=mB (SizeOf.sizeOf e) e k
noncomputable def fR(t:aE)(e:an):Rw:=bif cZ t&&ig e==0 then jV e ⟨t,!fc e⟩else none
theorem Bl{a g:aH}{b:Int64}(h:kJ a b= .ok g):g.xL.length<=a.xL.length:=by
 rw[SK]at h;cases h1:eH a<;>rw[h1]at h
 ·cases h
 ·cases h2:b.toInt==0<;>rw[h2]at h
  ·cases h3:ep (a.xK.toInt*b.toInt)&&a.xL.all (qA b)<;>rw[h3]at h
   ·cases h
   ·cases h;exact Nat.le_of_eq (arD _)
  ·cases h;exact Nat.zero_le _
theorem B4:∀a b:asn bB,(eK a b).length<=a.length+b.length
 |[],[]=>by rw[eK];exact arJ _
 |x::l,[]=>by rw[eK];have:=B4 l [];simp only[arB,arK]at*;omega
 |[],y::r=>by rw[eK];have:=B4 [] r;simp only[arB,arK]at*;omega
 |x::l,y::r=>by
  rw[eK];have h1:=B4 l (y::r);have h2:=B4 (x::l) r;have h3:=B4 l r;split
  ·simp only[arB]at*;omega
  ·split<;>simp only[arB]at* <;>omega
termination_by a b=>a.length+b.length
theorem aba{a b g:aH}(h:lM a b= .ok g):g.xL.length<=a.xL.length+b.xL.length:=by
 rw[We]at h;cases h1:eH a&&eH b<;>rw[h1]at h
 ·cases h
 ·cases h2:ep (a.xK.toInt+b.xK.toInt)&&(eK a.xL b.xL).all lz<;>rw[h2]at h
  ·cases h
  ·cases h
   exact arQ (List.length_filterMap_le _ _) (B4 _ _)
theorem apV{f g d:aH}(h:nx f g= .ok d):d.xL.length<=f.xL.length+g.xL.length:=by
 unfold nx at h;cases h1:kJ g (-1)with
 |error e=>rw[h1]at h;cases h
 |ok q=>rw[h1]at h;have:=Bl h1;have:=aba h;omega
theorem PJ{a:an}{f:aH}(h:kS a=some f):f.xL.length<=a.aM.xL.length:=by
 unfold kS at h;cases h2:a.ar==2 with
 |true=>rw[h2]at h;cases h;exact arJ _
 |false=>
  rw[h2]at h;cases h3:a.ar==1&&a.ay.aO==3 with
  |true=>rw[h3]at h;cases h;exact Nat.zero_le _
  |false=>rw[h3]at h;cases h
def own(w:an->Nat):Prop:=∀e l,w ⟨e.ar,e.aC,e.bD,e.ay,e.aM,e.xIdx,l⟩=w e
def W(w:an->Nat)(e:an):Nat:=((cW e).map w).sum
def WL(w:an->Nat)(l:asn an):Nat:=(l.map (W w)).sum
theorem Vt(w:an->Nat):∀l:asn an,((jU l).map w).sum=WL w l
 |[]=>by rw[jU];rfl
 |x::l=>by
  rw[Ax,List.map_append,List.sum_append,Vt w l];show _=(List.map (W w) (x::l)).sum;rw[arX,List.sum_cons];rfl
theorem de(w:an->Nat)(e:an):W w e=w e+WL w e.ax:=by
 unfold W;unfold cW;rw[arX,List.sum_cons,Vt]
theorem qk(w:an->Nat)(x:an)(l:asn an):WL w (x::l)=W w x+WL w l:=by unfold WL;rw[arX,List.sum_cons]
theorem Fo(w:an->Nat):WL w []=0:=rfl
theorem lP{w:an->Nat}:∀{l:asn an}{x:an},x∈l->W w x<=WL w l
 |y::l,x,h=>by
  rw[qk];rcases ar2.1 h with rfl|h
  ·omega
  ·have:=lP (w:=w) h;omega
theorem VB{w:an->Nat}:∀{l:asn an}{i:Nat}{a:an}(x:an),l[i]?=some a->WL w (l.set i x)+W w a=WL w l+W w x
 |[],i,a,x,h=>by cases h
 |y::l,0,a,x,h=>by cases h;rw[List.set_cons_zero,qk,qk];omega
 |y::l,i+1,a,x,h=>by
  rw[ar9]at h;rw[List.set_cons_succ,qk,qk];have:=VB (w:=w) x h;omega
theorem anv{w:an->Nat}(hw:own w){e a:an}{i:Nat}(x:an)(h:e.ax[i]?=some a):W w (vg e i x)+W w a=W w e+W w x:=by
 rw[de w (vg e i x),de w e];have h1:w (vg e i x)=w e:=hw e _;have h2:WL w (vg e i x).ax+W w a=WL w e.ax+W w x:=VB (w:=w) x h;omega
inductive gn:an->an->Prop
 |arg {e x:an}:4<=e.ar->x∈e.ax->gn e x
 |mM {e a x:an}:4<=e.ar->a∈e.ax->4<=a.ar->x∈a.ax->gn e x
 |val {e:an} (t:aE) (v:aG):e.ar=2\/(4<=e.ar/\e.ax≠ [])->gn e (iu t v)
 |idx {e:an} {l:aH}:4<=e.ar->e.ax≠ []->l.xL.length<=(e.ax.map λx=>x.aM.xL.length).sum->(∀x∈e.ax,x.ar=1\/x.ar=2)->(∃x∈e.ax,x.ar=2)->gn e (n5 l)
 |neg {e a b:an} (op:Int):4<=e.ar->4<=op->e.ax=[a,b]->gn e (cV op [b])
 |two {e a b c:an} (op:Int):4<=e.ar->4<=op->e.ax=[a,b]->4<=b.ar->b.ax=[c]->gn e (cV op [a,c])
 |BI {e a b c:an} (op:Int):4<=e.ar->4<=op->e.ax=[a,b]->4<=a.ar->a.ax=[c]->gn e (cV op [b,c])
 |swap {e a x y:an} (op:Int):4<=e.ar->4<=op->e.ax=[a]->4<=a.ar->a.ax=[x,y]->gn e (cV op [y,x])
 |three {e c a b x:an} (op:Int):4<=e.ar->4<=op->e.ax=[c,a,b]->4<=c.ar->c.ax=[x]->gn e (cV op [x,b,a])
theorem gv(w:an->Nat)(a b:an):WL w [a,b]=W w a+W w b:=by rw[qk,qk,Fo];omega
theorem jP(w:an->Nat)(a:an):WL w [a]=W w a:=by rw[qk,Fo];omega
theorem uq(w:an->Nat)(a b c:an):WL w [a,b,c]=W w a+(W w b+W w c):=by rw[qk,qk,qk,Fo];omega
def wN(_:an):Nat:=1
def wM(e:an):Nat:=bif e.ar==2 then 3 else 2
def wT(e:an):Nat:=e.aM.xL.length
def gat(l:asn aZ):Nat:=(l.filter λx=> !(bL x.bS==[])).length
def wC(e:an):Nat:=bif e.ar==1||e.ar==2 then 0 else bif e.ar==3 then 1+gat e.xIdx else 1
theorem aiU:own wN:=λ_ _=>rfl
theorem ai4:own wM:=λ_ _=>rfl
theorem afi:own wT:=λ_ _=>rfl
theorem aoQ:own wC:=λ_ _=>rfl
theorem rS{e:an}(h:4<=e.ar):wC e=1:=by
 unfold wC;rw[beq_false_of_ne (show e.ar≠1 by omega),beq_false_of_ne (show e.ar≠2 by omega),beq_false_of_ne (show e.ar≠3 by omega)];rfl
theorem nu{e:an}(h:4<=e.ar):wM e=2:=by
 unfold wM;rw[beq_false_of_ne (show e.ar≠2 by omega)];rfl
theorem yJ(e:an):2<=wM e:=by unfold wM;cases e.ar==2<;>simp
theorem H0(w:an->Nat)(t:aE)(v:aG):W w (iu t v)=w (iu t v):=by rw[de];show _+WL w []=_;rw[Fo];rfl
theorem Jn(w:an->Nat)(l:aH):W w (n5 l)=w (n5 l):=by rw[de];show _+WL w []=_;rw[Fo];rfl
theorem jC(w:an->Nat)(op:Int)(l:asn an):W w (cV op l)=w (cV op l)+WL w l:=de w _
theorem VX{f g:an->Nat}:∀{l:asn an},(∀x∈l,f x<=g x)->(l.map f).sum<=(l.map g).sum
 |[],_=>arJ _
 |x::l,h=>by
  rw[arX,arX,List.sum_cons,List.sum_cons];have:=VX λy hy=>h y (arH x hy);have:=h x arE;omega
theorem aiu{e x:an}(h:gn e x):W wM x<W wM e:=by
 cases h with
 |arg h0 h1=>rw[de wM e];have:=lP (w:=wM) h1;have:=yJ e;omega
 |mM h0 h1 h2 h3=>rw[de wM e];rename_i a;have h4:=lP (w:=wM) h1;have:=lP (w:=wM) h3;have:=yJ e;rw[de wM a]at h4;omega
 |val t v h0=>
  rw[H0,de wM e];show 2<_;rcases h0 with h0|h0
  ·have:wM e=3:=by unfold wM;rw[h0];rfl
   omega
  ·obtain⟨h0,h1⟩:=h0;obtain⟨y,hy⟩:=List.exists_mem_of_ne_nil _ h1;have:=lP (w:=wM) hy;have:=yJ y;have:=yJ e;rw[de wM y]at*;omega
 |idx h0 h1 h2 h3 h4=>
  obtain⟨y,hy,KW⟩:=h4;rw[Jn,de wM e];have:=lP (w:=wM) hy;have:=yJ y;have:=yJ e;rw[de wM y]at*;show 3<_;omega
 |neg op h0 ho h1=>rw[jC,de wM e,h1,jP,gv,nu h0,nu (show 4<=(cV op _).ar from ho)];have:=de wM;rename_i a b;have:=yJ a;rw[de wM a];omega
 |two op h0 ho h1 h2 h3=>rename_i a b c;rw[jC,de wM e,h1,gv,gv,de wM b,h3,jP,nu h0,nu h2,nu (show 4<=(cV op _).ar from ho)];omega
 |BI op h0 ho h1 h2 h3=>rename_i a b c;rw[jC,de wM e,h1,gv,gv,de wM a,h3,jP,nu h0,nu h2,nu (show 4<=(cV op _).ar from ho)];omega
 |swap op h0 ho h1 h2 h3=>rename_i a x y;rw[jC,de wM e,h1,jP,gv,de wM a,h3,gv,nu h0,nu h2,nu (show 4<=(cV op _).ar from ho)];omega
 |three op h0 ho h1 h2 h3=>rename_i c a b x;rw[jC,de wM e,h1,uq,uq,de wM c,h3,jP,nu h0,nu h2,nu (show 4<=(cV op _).ar from ho)];omega
theorem ami{e x:an}(h:gn e x):W wN x<=W wN e:=by
 cases h with
 |arg h0 h1=>rw[de wN e];have:=lP (w:=wN) h1;omega
 |mM h0 h1 h2 h3=>rename_i a;rw[de wN e];have h4:=lP (w:=wN) h1;have h5:=lP (w:=wN) h3;rw[de wN a]at h4;omega
 |val t v h0=>rw[H0,de wN e];show 1<=1+_;omega
 |idx h0 h1 h2 h3 h4=>rw[Jn,de wN e];show 1<=1+_;omega
 |neg op h0 ho h1=>rename_i a b;rw[jC,de wN e,h1,jP,gv];rw[show ∀l,wN (cV op l)=1 from λ_=>rfl];have:wN e=1:=rfl;omega
 |two op h0 ho h1 h2 h3=>rename_i a b c;rw[jC,de wN e,h1,gv,gv,de wN b,h3,jP];rw[show ∀l,wN (cV op l)=1 from λ_=>rfl];have:wN e=1:=rfl;omega
 |BI op h0 ho h1 h2 h3=>rename_i a b c;rw[jC,de wN e,h1,gv,gv,de wN a,h3,jP];rw[show ∀l,wN (cV op l)=1 from λ_=>rfl];have:wN e=1:=rfl;omega
 |swap op h0 ho h1 h2 h3=>rename_i a x y;rw[jC,de wN e,h1,jP,gv,de wN a,h3,gv];rw[show ∀l,wN (cV op l)=1 from λ_=>rfl];have:wN e=1:=rfl;omega
 |three op h0 ho h1 h2 h3=>rename_i c a b x;rw[jC,de wN e,h1,uq,uq,de wN c,h3,jP];rw[show ∀l,wN (cV op l)=1 from λ_=>rfl];have:wN e=1:=rfl;omega
theorem ah3{e x:an}(h:gn e x):W wC x<=W wC e:=by
 cases h with
 |arg h0 h1=>rw[de wC e];have:=lP (w:=wC) h1;omega
 |mM h0 h1 h2 h3=>rename_i a;rw[de wC e];have h4:=lP (w:=wC) h1;have h5:=lP (w:=wC) h3;rw[de wC a]at h4;omega
 |val t v h0=>rw[H0];exact Nat.zero_le _
 |idx h0 h1 h2 h3 h4=>rw[Jn];exact Nat.zero_le _
 |neg op h0 ho h1=>rename_i a b;rw[jC,de wC e,h1,jP,gv];rw[show ∀l,wC (cV op l)=1 from λl=>rS (e:=cV op l) ho,rS h0];omega
 |two op h0 ho h1 h2 h3=>rename_i a b c;rw[jC,de wC e,h1,gv,gv,de wC b,h3,jP];rw[show ∀l,wC (cV op l)=1 from λl=>rS (e:=cV op l) ho,rS h0];omega
 |BI op h0 ho h1 h2 h3=>rename_i a b c;rw[jC,de wC e,h1,gv,gv,de wC a,h3,jP];rw[show ∀l,wC (cV op l)=1 from λl=>rS (e:=cV op l) ho,rS h0];omega
 |swap op h0 ho h1 h2 h3=>rename_i a x y;rw[jC,de wC e,h1,jP,gv,de wC a,h3,gv];rw[show ∀l,wC (cV op l)=1 from λl=>rS (e:=cV op l) ho,rS h0];omega
 |three op h0 ho h1 h2 h3=>rename_i c a b x;rw[jC,de wC e,h1,uq,uq,de wC c,h3,jP];rw[show ∀l,wC (cV op l)=1 from λl=>rS (e:=cV op l) ho,rS h0];omega
theorem aqd{e x:an}(h:gn e x):W wT x<=W wT e:=by
 cases h with
 |arg h0 h1=>rw[de wT e];have:=lP (w:=wT) h1;omega
 |mM h0 h1 h2 h3=>rename_i a;rw[de wT e];have h4:=lP (w:=wT) h1;have h5:=lP (w:=wT) h3;rw[de wT a]at h4;omega
 |val t v h0=>rw[H0];exact Nat.zero_le _
 |idx h0 h1 h2 h3 h4=>
  rename_i l
  rw[Jn,de wT e];show l.xL.length<=_;have:(e.ax.map λx=>x.aM.xL.length).sum<=WL wT e.ax:=VX λx _=>by rw[de wT x];exact asd _ _
  omega
 |neg op h0 ho h1=>rename_i a b;rw[jC,de wT e,h1,jP,gv];rw[show ∀l,wT (cV op l)=0 from λ_=>rfl];omega
 |two op h0 ho h1 h2 h3=>rename_i a b c;rw[jC,de wT e,h1,gv,gv,de wT b,h3,jP];rw[show ∀l,wT (cV op l)=0 from λ_=>rfl];omega
 |BI op h0 ho h1 h2 h3=>rename_i a b c;rw[jC,de wT e,h1,gv,gv,de wT a,h3,jP];rw[show ∀l,wT (cV op l)=0 from λ_=>rfl];omega
 |swap op h0 ho h1 h2 h3=>rename_i a x y;rw[jC,de wT e,h1,jP,gv,de wT a,h3,gv];rw[show ∀l,wT (cV op l)=0 from λ_=>rfl];omega
 |three op h0 ho h1 h2 h3=>rename_i c a b x;rw[jC,de wT e,h1,uq,uq,de wT c,h3,jP];rw[show ∀l,wT (cV op l)=0 from λ_=>rfl];omega
theorem fz{α:Type}{b:Bool}{o:asp α}{x:α}(h:(bif b then o else none)=some x):b=true/\o=some x:=by
 cases b with
 |true=>exact⟨rfl,h⟩
 |false=>cases h
theorem j7{α:Type}{b:Bool}{o p:asp α}{x:α}(h:(bif b then o else p)=some x):(b=true/\o=some x)\/(b=false/\p=some x):=by
 cases b with
 |true=>exact .inl ⟨rfl,h⟩
 |false=>exact .inr ⟨rfl,h⟩
theorem pP{o:asp an}{s t:aso}{r:Rw}{x:an}(h:kO o s r=some (x,t)):(o=some x/\s=t)\/r=some (x,t):=by
 unfold kO at h;cases o with
 |none=>exact .inr h
 |some y=>cases h;exact .inl ⟨rfl,rfl⟩
theorem anm{op:Int}(h:CK op=true):4<=op/\op<=10/\op≠8:=by
 unfold CK at h;simp only[Bool.or_eq_true,beq_iff_eq]at h;omega
theorem Sf{t:aE}{r:aG×Int}{x:an}(h:q8 t r=some x):x=iu t r.1/\r.2=0:=by
 obtain⟨h1,h2⟩:=fz h;cases h2
 exact⟨rfl,by simpa using h1⟩
theorem JI{r:X aH}{x:an}(h:ki r=some x):∃l,r= .ok l/\x=n5 l:=by
 unfold ki at h;cases r with
 |ok l=>cases h;exact⟨l,rfl,rfl⟩
 |error e=>cases h
def rk(e:an):Prop:=(e.ax.length:Int)=kK e.ar/\∀a∈e.ax,(a.ax.length:Int)=kK a.ar
theorem Q6{a:an}(h:(a.ax.length:Int)=kK a.ar)(h1:kK a.ar=1):∃x,a.ax=[x]:=by
 rw[h1]at h
 match a.ax,h with
 |[x],_=>exact⟨x,rfl⟩
 |[],h=>simp at h
 |_::_::_,h=>simp at h;omega
theorem apL{e x:an}(h:vl e=some x):gn e x:=by
 unfold vl at h;split at h
 ·rename_i a ha
  obtain⟨h1,h2⟩:=fz h;obtain⟨rfl,_⟩:=Sf h2;simp only[arA,beq_iff_eq]at h1;exact .val _ _ (.inr ⟨by omega,by rw[ha];simp⟩)
 ·rename_i a b ha
  obtain⟨h1,h2⟩:=fz h;obtain⟨rfl,_⟩:=Sf h2;simp only[arA,beq_iff_eq]at h1;exact .val _ _ (.inr ⟨(anm h1.1).1,by rw[ha];simp⟩)
 ·cases h
theorem an3{e x:an}(h:uV e=some x):gn e x:=by
 unfold uV at h;split at h
 ·rename_i a ha
  obtain⟨h1,h2⟩:=fz h;have ho:e.ar=12:=by simpa using h1
  rcases j7 h2 with⟨_,h3⟩|⟨_,h3⟩
  ·obtain⟨rfl,_⟩:=Sf h3;exact .val _ _ (.inr ⟨by omega,by rw[ha];simp⟩)
  ·obtain⟨_,h4⟩:=fz h3;cases h4
   exact .arg (by omega) (by rw[ha];simp)
 ·cases h
theorem akw{e x:an}(h:we e=some x):gn e x:=by
 unfold we at h;rcases j7 h with⟨h1,h2⟩|⟨h1,h2⟩
 ·obtain⟨_,h3⟩:=fz h2;cases h3
  exact .val _ _ (.inl (by simpa using h1))
 ·split at h2
  ·rename_i a ha
   obtain⟨h3,h4⟩:=fz h2;simp only[arA,beq_iff_eq]at h3;obtain⟨l,h5,rfl⟩:=JI h4;have:=Bl h5;exact .idx (by omega) (by rw[ha];simp) (by rw[ha];simp;omega) (by rw[ha];simp;omega) (by rw[ha];simp;omega)
  ·rename_i a b ha
   rcases j7 h2 with⟨h3,h4⟩|⟨h3,h4⟩
   ·simp only[Bool.or_eq_true,beq_iff_eq]at h3;unfold B8 at h4;split at h4
    ·rename_i f g hf hg
     obtain⟨h5,h6⟩:=fz h4;simp only[Bool.or_eq_true,beq_iff_eq]at h5;obtain⟨l,h7,rfl⟩:=JI h6;have l1:=PJ hf;have l2:=PJ hg;have l3:l.xL.length<=f.xL.length+g.xL.length:=by
      cases h8:e.ar==5 with
      |true=>rw[h8]at h7;exact apV h7
      |false=>rw[h8]at h7;exact aba h7
     have fo:∀{y:an}{q:aH},kS y=some q->y.ar=1\/y.ar=2:=fun{y q} hq=>by
      unfold kS at hq;rcases j7 hq with⟨h9,_⟩|⟨_,h9⟩
      ·exact .inr (by simpa using h9)
      ·obtain⟨aK,_⟩:=fz h9;simp only[arA,beq_iff_eq]at aK;exact .inl aK.1
     refine .idx (by omega) (by rw[ha];simp) (by rw[ha];simp;omega) ?_ ?_
     ·rw[ha];intro y hy;simp only[ar2,ase,or_false]at hy;rcases hy with rfl|rfl
      ·exact fo hf
      ·exact fo hg
     ·rw[ha];rcases h5 with h5|h5
      ·exact⟨a,by simp,h5⟩
      ·exact⟨b,by simp,h5⟩
    ·cases h4
   ·obtain⟨h5,h6⟩:=fz h4;have ho:e.ar=6:=by simpa using h5
    unfold rB at h6;rcases j7 h6 with⟨h7,h8⟩|⟨_,h8⟩
    ·obtain⟨l,h9,rfl⟩:=JI h8;have:=Bl h9;simp only[iY,arA,beq_iff_eq]at h7;exact .idx (by omega) (by rw[ha];simp) (by rw[ha];simp;omega) (by rw[ha];simp;omega) (by rw[ha];simp;omega)
    ·obtain⟨h7,h8⟩:=fz h8;obtain⟨l,h9,rfl⟩:=JI h8;have:=Bl h9;simp only[iY,arA,beq_iff_eq]at h7;exact .idx (by omega) (by rw[ha];simp) (by rw[ha];simp;omega) (by rw[ha];simp;omega) (by rw[ha];simp;omega)
  ·cases h2
theorem amY{e x:an}(h:wG e=some x):gn e x:=by
 unfold wG at h;split at h
 ·rename_i c a b ha
  obtain⟨h1,h2⟩:=fz h;simp only[arA,beq_iff_eq]at h1;cases h2
  refine .arg (by omega) ?_;rw[ha];cases (fy c).1<;>simp
 ·cases h
theorem ajv{e x:an}(h:vb e=some x):gn e x:=by
 unfold vb at h;split at h
 ·rename_i c a b ha
  obtain⟨h1,h2⟩:=fz h;simp only[arA,beq_iff_eq]at h1;cases h2
  exact .arg (by omega) (by rw[ha];simp)
 ·rename_i a b ha
  obtain⟨h1,h2⟩:=fz h;simp only[arA,Bool.or_eq_true,beq_iff_eq]at h1;cases h2
  exact .arg (by omega) (by rw[ha];simp)
 ·cases h
theorem ard{e x:an}(h:um e=some x):gn e x:=by
 unfold um at h;split at h
 ·rename_i a b ha
  have A:∀y,4<=e.ar->y=a\/y=b->gn e y:=λy h1 h2=> .arg h1 (by rw[ha];rcases h2 with rfl|rfl<;>simp);rcases j7 h with⟨h1,h2⟩|⟨_,h⟩
  ·have ho:e.ar=4:=by simpa using h1
   rcases j7 h2 with⟨_,h3⟩|⟨_,h3⟩
   ·cases h3;exact A _ (by omega) (.inl rfl)
   ·obtain⟨_,h4⟩:=fz h3;cases h4;exact A _ (by omega) (.inr rfl)
  ·rcases j7 h with⟨h1,h2⟩|⟨_,h⟩
   ·have ho:e.ar=5:=by simpa using h1
    rcases j7 h2 with⟨_,h3⟩|⟨_,h3⟩
    ·cases h3;exact A _ (by omega) (.inl rfl)
    ·obtain⟨_,h4⟩:=fz h3;cases h4;exact .neg 8 (by omega) (by decide) ha
   ·rcases j7 h with⟨h1,h2⟩|⟨_,h⟩
    ·have ho:e.ar=6:=by simpa using h1
     rcases j7 h2 with⟨_,h3⟩|⟨_,h3⟩
     ·cases h3;exact A _ (by omega) (.inr rfl)
     ·obtain⟨_,h4⟩:=fz h3;cases h4;exact A _ (by omega) (.inl rfl)
    ·obtain⟨h1,h2⟩:=fz h;have ho:e.ar=7:=by simpa using h1
     obtain⟨_,h4⟩:=fz h2;cases h4;exact A _ (by omega) (.inl rfl)
 ·cases h
theorem alL{e x:an}(h:vD e=some x):gn e x:=by
 unfold vD at h;split at h
 ·rename_i a b ha
  have A:∀y,4<=e.ar->y=a\/y=b->gn e y:=λy h1 h2=> .arg h1 (by rw[ha];rcases h2 with rfl|rfl<;>simp);rcases j7 h with⟨h1,h2⟩|⟨_,h⟩
  ·have ho:e.ar=6:=by simpa using h1
   rcases j7 h2 with⟨_,h3⟩|⟨_,h3⟩
   ·cases h3;exact A _ (by omega) (.inl rfl)
   ·obtain⟨_,h4⟩:=fz h3;cases h4;exact A _ (by omega) (.inr rfl)
  ·obtain⟨h1,h2⟩:=fz h;have ho:e.ar=7:=by simpa using h1
   obtain⟨_,h4⟩:=fz h2;cases h4;exact A _ (by omega) (.inl rfl)
 ·cases h
theorem aeD{e x:an}{k:Kn}(h:vW e k=some x):gn e x:=by
 unfold vW at h;split at h
 ·rename_i a b ha
  obtain⟨h1,h2⟩:=fz h;simp only[arA,Bool.or_eq_true,beq_iff_eq]at h1;rcases j7 h2 with⟨_,h3⟩|⟨_,h3⟩
  ·cases h3;exact .val _ _ (.inr ⟨by omega,by rw[ha];simp⟩)
  ·obtain⟨_,h4⟩:=fz h3;cases h4;exact .val _ _ (.inr ⟨by omega,by rw[ha];simp⟩)
 ·cases h
theorem abA{l:asn an}{x:an}(h:l[0]?=some x):x∈l:=arL h
theorem aqv{e x:an}{k:Kn}(hr:rk e)(h:tX e k=some x):gn e x:=by
 unfold tX at h;obtain⟨_,h⟩:=fz h;split at h
 ·rename_i a ha
  obtain⟨h1,h2⟩:=fz h;simp only[arA,beq_iff_eq]at h1;exact .mM (by omega) (by rw[ha];simp) (by omega) (abA h2)
 ·rename_i a b ha
  have one:∀y,y=a\/y=b->y.ar=8->∃c,y.ax=[c]:=λy hy ho=>Q6 (hr.2 y (by rw[ha];rcases hy with rfl|rfl<;>simp)) (by rw[ho];rfl);rcases j7 h with⟨h1,h⟩|⟨_,h⟩
  ·have ho:e.ar=4:=by simpa using h1
   rcases j7 h with⟨h2,h⟩|⟨_,h⟩
   ·have hb:b.ar=8:=by simpa using h2
    obtain⟨c,hc⟩:=one b (.inr rfl) hb;rw[hc]at h;cases h
    exact .two 5 (by omega) (by decide) ha (by omega) hc
   ·obtain⟨h2,h⟩:=fz h;have hb:a.ar=8:=by simpa using h2
    obtain⟨c,hc⟩:=one a (.inl rfl) hb;rw[hc]at h;cases h
    exact .BI 5 (by omega) (by decide) ha (by omega) hc
  ·obtain⟨h1,h⟩:=fz h;simp only[arA,beq_iff_eq]at h1;obtain⟨c,hc⟩:=one b (.inr rfl) h1.2;rw[hc]at h;cases h
   exact .two 4 (by omega) (by decide) ha (by omega) hc
 ·cases h
theorem akS{e x:an}(hr:rk e)(h:uU e=some x):gn e x:=by
 unfold uU at h;split at h
 ·rename_i c a b ha
  obtain⟨h1,h⟩:=fz h;simp only[arA,beq_iff_eq]at h1;obtain⟨y,hy⟩:=Q6 (hr.2 c (by rw[ha];simp)) (by rw[h1.2];rfl);rw[hy]at h;cases h
  exact .three 11 (by omega) (by decide) ha (by omega) hy
 ·rename_i c ha
  obtain⟨h1,h⟩:=fz h;have ho:e.ar=18:=by simpa using h1
  rcases j7 h with⟨h2,h⟩|⟨_,h⟩
  ·have hb:c.ar=18:=by simpa using h2
   exact .mM (by omega) (by rw[ha];simp) (by omega) (abA h)
  ·rcases j7 h with⟨h2,h⟩|⟨_,h⟩
   ·have hb:c.ar=13:=by simpa using h2
    split at h
    ·rename_i p q hp
     cases h
     exact .swap 14 (by omega) (by decide) ha (by omega) hp
    ·cases h
   ·obtain⟨h2,h⟩:=fz h;have hb:c.ar=14:=by simpa using h2
    split at h
    ·rename_i p q hp
     cases h
     exact .swap 13 (by omega) (by decide) ha (by omega) hp
    ·cases h
 ·cases h
theorem als{e x:an}(h:uF e=some x):gn e x:=by
 unfold uF at h;split at h
 ·rename_i a b ha
  obtain⟨h1,h⟩:=fz h;simp only[Bool.or_eq_true,beq_iff_eq]at h1;rcases j7 h with⟨_,h⟩|⟨_,h⟩
  ·cases h;exact .arg (by omega) (by rw[ha];simp)
  ·obtain⟨_,h⟩:=fz h;cases h;exact .arg (by omega) (by rw[ha];simp)
 ·cases h
theorem XY{e x:an}{k:Kn}{s:aso}(hr:rk e)(h:oe e k=some (x,s)):gn e x:=by
 unfold oe at h;rcases pP h with⟨h,_⟩|h
 ·exact apL h
 rcases pP h with⟨h,_⟩|h
 ·exact an3 h
 rcases pP h with⟨h,_⟩|h
 ·exact akw h
 rcases pP h with⟨h,_⟩|h
 ·exact amY h
 rcases pP h with⟨h,_⟩|h
 ·exact ajv h
 rcases pP h with⟨h,_⟩|h
 ·exact ard h
 rcases pP h with⟨h,_⟩|h
 ·exact alL h
 rcases pP h with⟨h,_⟩|h
 ·exact aeD h
 rcases pP h with⟨h,_⟩|h
 ·exact aqv hr h
 rcases pP h with⟨h,_⟩|h
 ·exact akS hr h
 rcases pP h with⟨h,_⟩|h
 ·exact als h
 cases h
theorem RM{rec:an->Kn->Rw}{e x:an}{k:Kn}{s:aso}:∀(l:asn an)(i:Nat),e.ax.drop i=l->ld rec e k i l=some (x,s)->
 ∃j a y,e.ax[j]?=some a/\rec a (sf e k j)=some (y,s)/\x=vg e j y
 |[],i,_,h=>by cases h
 |a::l,i,hd,h=>by
  rw[ld]at h;cases hr:rec a (sf e k i)with
  |some r=>rw[hr]at h;cases h;exact⟨i,a,r.1,ba hd,by rw[hr],rfl⟩
  |none=>rw[hr]at h;exact RM l (i+1) (gk hd) h
def nV(e:an):Prop:=∀y∈cW e,(y.ax.length:Int)=kK y.ar
theorem nV.arg{e x:an}(h:nV e)(hx:x∈e.ax):nV x:=λy hy=>h y (mA hx hy)
theorem yF(e:an):e∈cW e:=arE
theorem nV.rk{e:an}(h:nV e):rk e:=⟨h e (yF e),λa ha=>h a (mA ha (yF a))⟩
theorem OW{w:an->Nat}(hw:own w){R:Nat->Nat->Prop}(hR:∀a b p q:Nat,R a b->p+b=q+a->R p q)(NO:∀{e x:an},gn e x->R (W w x) (W w e)):
 ∀(d:Nat)(e x:an)(k:Kn)(s:aso),nV e->mB d e k=some (x,s)->R (W w x) (W w e)
 |0,_,_,_,_,_,h=>by cases h
 |d+1,e,x,k,s,hr,h=>by
  rw[mB]at h;cases h1:oe e k with
  |some r=>rw[h1]at h;cases h;exact NO (XY hr.rk (by rw[h1]))
  |none=>
   rw[h1]at h;obtain⟨j,a,y,h2,h3,rfl⟩:=RM e.ax 0 rfl h;have ih:=OW hw hR NO d a y _ s (hr.arg (arL h2)) h3;exact hR _ _ _ _ ih (anv hw y h2)
theorem TK:∀(d d':Nat)(e:an)(k:Kn),SizeOf.sizeOf e<=d->SizeOf.sizeOf e<=d'->mB d e k=mB d' e k
 |0,_,e,_,h,_=>by cases e;simp at h
 |_,0,e,_,_,h=>by cases e;simp at h
 |d+1,d'+1,e,k,h,h'=>by
  rw[mB,mB];have ih:∀(l:asn an)(i:Nat),(∀x∈l,x∈e.ax)->ld (mB d) e k i l=ld (mB d') e k i l:=λl=>by
    induction l with
    |nil=>intro i _;rfl
    |cons x l ih=>
     intro i hl;have hx:=gY (hl x arE);rw[ld,ld,TK d d' x _ (by omega) (by omega),ih _ λy hy=>hl y (arH _ hy)]
  rw[ih e.ax 0 λx hx=>hx]
theorem acI(e:an)(k:Kn):jV e k=match oe e k with
 |some r=>some r
 |none=>ld jV e k 0 e.ax:=by
 unfold jV;rw[TK _ (SizeOf.sizeOf e+1) e k (arJ _) (Nat.le_succ _),mB];have ih:∀(l:asn an)(i:Nat),(∀x∈l,x∈e.ax)->ld (mB (SizeOf.sizeOf e)) e k i l=ld (λe k=>mB (SizeOf.sizeOf e) e k) e k i l:=λl=>by
  induction l with
  |nil=>intro i _;rfl
  |cons x l ih=>
   intro i hl;have hx:=gY (hl x arE);rw[ld,ld,TK (SizeOf.sizeOf e) (SizeOf.sizeOf x) x _ (by omega) (arJ _),ih _ λy hy=>hl y (arH _ hy)]
 rw[ih e.ax 0 λx hx=>hx]<;>rfl
theorem Wg:∀l:asn an,jY l=0->∀x∈l,lh x=0
 |[],_,x,hx=>by cases hx
 |y::l,h,x,hx=>by
  rw[jY]at h;cases hy:lh y !=0 with
  |true=>
   rw[hy]at h;simp only[cond_true]at h;rw[h]at hy;cases hy
  |false=>
   rw[hy]at h;rcases ar2.1 hx with rfl|hx
   ·rw[gV]at hy;simpa using hy
   ·exact Wg l h x hx
def vE(e:an):Prop:=∀y∈cW e,lh y=0
theorem vE.arg{e x:an}(h:vE e)(hx:x∈e.ax):vE x:=λy hy=>h y (mA hx hy)
structure xG(e:an):Prop where
 plain:nw e=true
 named:qb e=true
 aaI:mr e=true
 typed:lQ e=true
 formed:sM e=true
theorem Mk{x:an}(h:lh x=0):xG x:=by
 unfold lh at h;cases p:nw x<;>rw[p]at h
 ·cases h
 cases q:qb x<;>rw[q]at h
 ·cases h
 cases r:mr x<;>rw[r]at h
 ·cases h
 cases s:lQ x<;>rw[s]at h
 ·cases h
 cases t:sM x<;>rw[t]at h
 ·cases h
 exact⟨p,q,r,s,t⟩
theorem GG{e:an}(h:ig e=0):vE e/\iM 40 e<=40/\(cW e).length<=2000:=by
 unfold ig at h;cases h1:decide (40<iM 40 e)with
 |true=>rw[h1]at h;cases h
 |false=>
  cases h2:decide (2000<(cW e).length)with
  |true=>rw[h1,h2]at h;cases h
  |false=>
   rw[h1,h2]at h;exact⟨λx hx=>Wg (cW e) h x hx,by simpa using h1,by simpa using h2⟩
theorem vE.nV{e:an}(h:vE e):nV e:=λy hy=>by
 have:=(Mk (h y hy)).aaI;unfold mr at this;rw[arA,beq_iff_eq]at this;exact this.1
theorem vn{t:aE}{e x:an}{s:aso}(h:fR t e=some (x,s)):cZ t=true/\ig e=0/\jV e ⟨t,!fc e⟩=some (x,s):=by
 obtain⟨h1,h2⟩:=fz h;simp only[arA,beq_iff_eq]at h1;exact⟨h1.1,h1.2,h2⟩
theorem aim{t:aE}{e x:an}{s:aso}(h:fR t e=some (x,s)):W wM x<W wM e:=by
 obtain⟨_,h1,h2⟩:=vn h;exact OW (R:=λa b=>a<b) ai4 (λa b p q h e=>by omega) aiu _ e x _ s (GG h1).1.nV h2
theorem Ov{w:an->Nat}(hw:own w)(NO:∀{e x:an},gn e x->W w x<=W w e){t:aE}{e x:an}{s:aso}(h:fR t e=some (x,s)):W w x<=W w e:=by
 obtain⟨_,h1,h2⟩:=vn h;exact OW (R:=λa b=>a<=b) hw (λa b p q h e=>by omega) NO _ e x _ s (GG h1).1.nV h2
theorem ajc{P:an->Prop}(mU:∀t v,P (iu t v))(uK:∀l,P (n5 l))(fJ:∀op l,4<=op->l.length<=3->P (cV op l)){e x:an}(h:gn e x)(he:∀y∈cW e,P y):∀y∈cW x,P y:=by
 have hA:∀{a:an},a∈e.ax->∀y∈cW a,P y:=λha y hy=>he y (mA ha hy);have hO:∀op l,4<=op->l.length<=3->(∀a∈l,∀y∈cW a,P y)->∀y∈cW (cV op l),P y:=λop l ho hl ha y hy=>by
  rcases ar2.1 hy with rfl|hy
  ·exact fJ op l ho hl
  ·obtain⟨a,h1,h2⟩:=CP hy;exact ha a h1 y h2
 cases h with
 |arg h0 h1=>exact hA h1
 |mM h0 h1 h2 h3=>exact λy hy=>hA h1 y (mA h3 hy)
 |val t v h0=>exact λy hy=>by rcases ar2.1 hy with rfl|hy;exact mU t v;exact absurd hy (by rw[show(iu t v).ax=[]from rfl,jU];simp)
 |idx h0 h1 h2 h3 h4=>rename_i l;exact λy hy=>by rcases ar2.1 hy with rfl|hy;exact uK l;exact absurd hy (by rw[show(n5 l).ax=[]from rfl,jU];simp)
 |neg op h0 ho h1=>exact hO _ _ ho (by simp) λa ha=>by simp at ha;subst ha;exact hA (by rw[h1];simp)
 |two op h0 ho h1 h2 h3=>
  rename_i a b c
  exact hO _ _ ho (by simp) λz hz=>by
   simp at hz;rcases hz with rfl|rfl
   ·exact hA (by rw[h1];simp)
   ·exact λy hy=>hA (a:=b) (by rw[h1];simp) y (mA (x:=z) (by rw[h3];simp) hy)
 |BI op h0 ho h1 h2 h3=>
  rename_i a b c
  exact hO _ _ ho (by simp) λz hz=>by
   simp at hz;rcases hz with rfl|rfl
   ·exact hA (by rw[h1];simp)
   ·exact λy hy=>hA (a:=a) (by rw[h1];simp) y (mA (x:=z) (by rw[h3];simp) hy)
 |swap op h0 ho h1 h2 h3=>
  rename_i a p q
  exact hO _ _ ho (by simp) λz hz=>by
   simp at hz;exact λy hy=>hA (a:=a) (by rw[h1];simp) y (mA (x:=z) (by rw[h3];rcases hz with rfl|rfl<;>simp) hy)
 |three op h0 ho h1 h2 h3=>
  rename_i c a b p
  exact hO _ _ ho (by simp) λz hz=>by
   simp at hz;rcases hz with rfl|rfl|rfl
   ·exact λy hy=>hA (a:=c) (by rw[h1];simp) y (mA (x:=z) (by rw[h3];simp) hy)
   ·exact hA (by rw[h1];simp)
   ·exact hA (by rw[h1];simp)
theorem Z8{P:an->Prop}(mU:∀t v,P (iu t v))(uK:∀l,P (n5 l))(fJ:∀op l,4<=op->l.length<=3->P (cV op l))(Kj:∀e i x,P e->P (vg e i x)):
 ∀(d:Nat)(e x:an)(k:Kn)(s:aso),nV e->mB d e k=some (x,s)->(∀y∈cW e,P y)->∀y∈cW x,P y
 |0,_,_,_,_,_,h,_=>by cases h
 |d+1,e,x,k,s,hr,h,he=>by
  rw[mB]at h;cases h1:oe e k with
  |some r=>rw[h1]at h;cases h;exact ajc mU uK fJ (XY hr.rk (by rw[h1])) he
  |none=>
   rw[h1]at h;obtain⟨j,a,z,h2,h3,rfl⟩:=RM e.ax 0 rfl h;have ha:=arL h2;have ih:=Z8 mU uK fJ Kj d a z _ s (hr.arg ha) h3 λy hy=>he y (mA ha hy);intro y hy;rcases ar2.1 hy with rfl|hy
   ·exact Kj e j z (he e (yF e))
   ·obtain⟨b,h4,h5⟩:=CP hy;have h4':b∈e.ax.set j z:=h4;rcases List.mem_or_eq_of_mem_set h4' with h4|rfl
    ·exact he y (mA h4 h5)
    ·exact ih y h5
theorem Zy{P:an->Prop}(mU:∀t v,P (iu t v))(uK:∀l,P (n5 l))(fJ:∀op l,4<=op->l.length<=3->P (cV op l))(Kj:∀e i x,P e->P (vg e i x))
 {t:aE} {e x:an} {s:aso} (h:fR t e=some (x,s)) (he:∀y∈cW e,P y):∀y∈cW x,P y:=by
 obtain⟨_,h1,h2⟩:=vn h;exact Z8 mU uK fJ Kj _ e x _ s (GG h1).1.nV h2 he
set_option maxRecDepth 100000
theorem vf{a b:Int64}(h1: -9223372036854775808<=a.toInt+b.toInt)(h2:a.toInt+b.toInt<=9223372036854775807):(a+b).toInt=a.toInt+b.toInt:=by rw[EX,IntKind.wrap_i64];omega
theorem pL{a b:Int64}(h1: -9223372036854775808<=a.toInt-b.toInt)(h2:a.toInt-b.toInt<=9223372036854775807):(a-b).toInt=a.toInt-b.toInt:=by rw[I7,IntKind.wrap_i64];omega
theorem ry{a b:Int64}(h1: -9223372036854775808<=a.toInt*b.toInt)(h2:a.toInt*b.toInt<=9223372036854775807):(a*b).toInt=a.toInt*b.toInt:=by rw[KY,IntKind.wrap_i64];omega
theorem q7{a:Int64}(h1: -9223372036854775807<=a.toInt):(-a).toInt= -a.toInt:=by
 have:=Int64.toInt_lt a;rw[Int64.toInt_neg,Int.bmod_def];omega
theorem zF{a b A B:Int}(ha: -A<=a)(Wo:a<=A)(hb: -B<=b)(fW:b<=B): -(A*B)<=a*b/\a*b<=A*B:=by
 have h1:a.natAbs<=A.natAbs:=by omega
 have h2:b.natAbs<=B.natAbs:=by omega
 have h3:(a*b).natAbs<=(A*B).natAbs:=by rw[Int.natAbs_mul,Int.natAbs_mul];exact Nat.mul_le_mul h1 h2
 have h4:0<=A*B:=Int.mul_nonneg (by omega) (by omega);omega
theorem apu:∀n:Fin 31,IntKind.u64.wrap (n.val:Int)=(n.val:Int)/\(Int64.ofInt ((1:Int)*2^(min n.val (IntKind.bits .i64)))).toInt=2^n.val/\min n.val (IntKind.bits .i64)=n.val:=by decide+kernel
theorem Aa{f:Int}(h1:0<=f)(h2:f<=30):IntKind.u64.wrap f=f/\(Int64.ofInt ((1:Int)*2^(min f.toNat (IntKind.bits .i64)))).toInt=2^f.toNat/\min f.toNat (IntKind.bits .i64)=f.toNat:=by
 obtain⟨n,rfl⟩:∃n:Nat,f=n:=⟨f.toNat,by omega⟩;have:=apu ⟨n,by omega⟩
 simpa using this
theorem aeu:∀n:Fin 30,(decide ((0:Int)<=(IntKind.u64.wrap (aI ((64:Int)-((n.val+2:Nat):Int))))))=true/\min ((IntKind.u64.wrap (aI ((64:Int)-((n.val+2:Nat):Int))))).toNat (IntKind.bits .u64)=62-n.val/\
 min ((IntKind.u64.wrap (aI ((64:Int)-((n.val+2:Nat):Int))))).toNat (IntKind.bits .i64)=62-n.val/\(2:Int)^(62-n.val)*(2*2^(n.val+1))=18446744073709551616/\(0:Int)<2^(62-n.val):=by decide+kernel
theorem aq1{b:Int}(h1:2<=b)(h2:b<=31):∃k:Nat,(decide ((0:Int)<=(IntKind.u64.wrap (aI ((64:Int)-b)))))=true/\min ((IntKind.u64.wrap (aI ((64:Int)-b)))).toNat (IntKind.bits .u64)=k/\
 min ((IntKind.u64.wrap (aI ((64:Int)-b)))).toNat (IntKind.bits .i64)=k/\(2:Int)^k*(2*2^(b-1).toNat)=18446744073709551616/\(0:Int)<2^k:=by
 obtain⟨n,rfl⟩:∃n:Nat,b=n:=⟨b.toNat,by omega⟩;have:=aeu ⟨n-2,by omega⟩;simp only[show n-2+2=n by omega,show n-2+1=n-1 by omega]at this;rw[show((n:Int)-1).toNat=n-1 by omega];exact⟨_,this⟩
theorem MH(n:Int64):Int64.ofInt n.toInt=n:=AS (by rw[rP,IntKind.wrap_i64];have:=kg n;omega)
theorem rG{q:Int64}{z:Int}(h:q.toInt=z):q=Int64.ofInt z:=by rw[<-h,MH]
theorem B5(N:Nat){t:aE}(F:sk t)(n:Int64):oa N t n=some (lA t n.toInt):=by
 obtain⟨f1,f2,f3,f4,f5,f6⟩:=LH F.b1 F.b2;obtain⟨k,u1,u2,u3,u4,u5⟩:=aq1 F.b1 F.b2;have hH:=Nc F;unfold oa Sz DQ Fp zX;rw[dU,arx,arx,mJ,asf F.b1,asf F.b2];simp only[Bool.and_self,cond_true];rw[f1,u1];simp only[cond_true,arx];rw[f3,f4,u2,u3]
 change _=some (⟨Int64.ofInt (oG (t.bM==2) (ck t) n.toInt),1⟩:aG)
 have iI:(-(Int64.ofInt ((1:Int)*2^(min ((IntKind.u64.wrap (aI (t.bo-(1:Int))))).toNat (IntKind.bits .i64)))))=Int64.ofInt (-ck t):=rG f3;have lY:((Int64.ofInt ((1:Int)*2^(min ((IntKind.u64.wrap (aI (t.bo-(1:Int))))).toNat (IntKind.bits .i64))))-(1:Int64))=Int64.ofInt (ck t-1):=rG f4;rw[iI,lY];rw[mJ,dU];have hr:(decide (-(2^(t.bo-1).toNat)<=n.toInt)&&decide (n.toInt<=2^(t.bo-1).toNat-1))=(decide (-ck t<=n.toInt)&&decide (n.toInt<=ck t-1)):=rfl;have hm:(t.bM !=1&&t.bM !=2)=false:=by rcases F.o with h|h<;>rw[h]<;>rfl
 rw[hm];simp only[arx,cond_false];rw[dU,hr];by_cases h1: -ck t<=n.toInt
 ·by_cases h2:n.toInt<=ck t-1
  ·rw[asf h1,asf h2,ajV (by omega) h1 h2,MH];rfl
  ·rw[asf h1,asg h2];simp only[Bool.and_false,cond_false];rcases F.o with ho|ho
   ·rw[ho,asg (show ¬n.toInt< -2^(t.bo-1).toNat from λh=>by have:n.toInt< -ck t:=h;omega)];simp only[ash,cond_true,arx,cond_false];rw[show((1:Int)==2)=false from rfl];unfold oG;simp only[cond_false];rw[show max (-ck t) (min (ck t-1) n.toInt)=ck t-1 by omega]
   ·rw[ho];show some (⟨Int64.ofInt (((Int64.ofInt _).toInt).fdiv (2^k)),1⟩:aG)=_;rw[rP,IntKind.wrap_i64,lk,lk,Int.fdiv_eq_ediv_of_nonneg _ (by omega),Int.mul_emod,Int.emod_emod,<-Int.mul_emod,Vg u4 u5 (by unfold ck at hH;omega)];rfl
 ·rw[asg h1];simp only[Bool.false_and,cond_false];rcases F.o with ho|ho
  ·have aS:n.toInt< -ck t:=by omega
   rw[ho,asf (show n.toInt< -2^(t.bo-1).toNat from aS)];simp only[ash,cond_true,arx];rw[show((1:Int)==2)=false from rfl];unfold oG;simp only[cond_false];rw[show max (-ck t) (min (ck t-1) n.toInt)= -ck t by omega];rfl
  ·rw[ho];show some (⟨Int64.ofInt (((Int64.ofInt _).toInt).fdiv (2^k)),1⟩:aG)=_;rw[rP,IntKind.wrap_i64,lk,lk,Int.fdiv_eq_ediv_of_nonneg _ (by omega),Int.mul_emod,Int.emod_emod,<-Int.mul_emod,Vg u4 u5 (by unfold ck at hH;omega)];rfl
theorem Wu(N:Nat)(hN:2147483648<N){t:aE}(v:aG)(ht:cZ t=true)(hk:t.aO=2):tF N t v=some (dG t v):=by
 have h:=wo N hN t v ht;unfold qn at h;rw[oV,ht,arx,hk]at h;have h':Option.bind (tF N t v) (λx=>some x)=some (dG t v):=h;cases hx:tF N t v with
 |none=>rw[hx]at h';cases h'
 |some b=>rw[hx]at h';exact h'
def vq:aE:=⟨1,0,0,0,0⟩
theorem Ru:cZ vq=true:=rfl
theorem oc(N:Nat)(hN:2147483648<N)(v:aG):kr N v=some (dG vq v):=by
 have h:=wo N hN vq v Ru;unfold qn at h;rw[oV,Ru,arx]at h;have h':Option.bind (kr N v) (λx=>some x)=some (dG vq v):=h;cases hx:kr N v with
 |none=>rw[hx]at h';cases h'
 |some b=>rw[hx]at h';exact h'
theorem gg.ok{v:aG}(h:gg v):dG vq v=true:=by
 unfold dG;show(decide (v.xN.toInt<=2147483647)&&(decide (-2147483647<=v.xN.toInt)&&(decide (1<=v.xD.toInt)&&(decide (v.xD.toInt<=2147483647)&&(Nat.gcd v.xN.toInt.natAbs v.xD.toInt.toNat==1)))))=true;rw[asf h.n2,asf h.n1,asf h.d1,asf h.d2,h.g];rfl
theorem acF(N:Nat)(hN:2147483648<N){t:aE}(ht:cZ t=true)(hk:t.aO=2):∀(l:asn aG)(k:Nat),(∀v∈l,dG t v=true)->JX N t l k=some 0
 |[],_,_=>rfl
 |v::l,k,h=>by
  rw[JX,Wu N hN v ht hk,h v arE];exact acF N hN ht hk l (k+1) λx hx=>h x (arH _ hx)
theorem Xa(N:Nat){t:aE}(ht:cZ t=true)(hk:t.aO=2):ve N t=some 0:=by
 have F:=jG ht hk;have ho:(t.bM==1||t.bM==2)=true:=by rcases F.o with h|h<;>rw[h]<;>rfl
 rw[P9 N t (by rw[hk];rfl),asf F.b1,asf F.b2,asf F.f1,asf F.f2,asf F.r1,asf F.r2,ho];rfl
theorem U5(N:Nat)(hN:2147483648<N){t:aE}(ht:cZ t=true)(hk:t.aO=2){l:asn aG}(h:∀v∈l,dG t v=true):qW N t l=some 0:=by
 unfold qW;rw[Xa N ht hk,arx];exact acF N hN ht hk l 0 h
theorem al9{a b:Nat}(hb:0<b)(ha:a<=9223372036854775808)(lI:b<=9223372036854775808)(neg:Bool)(how:Int):tG (a:Int) (b:Int) neg how=((m4 a b neg how:Nat):Int):=by
 have hq:a / b<=a:=Nat.div_le_self _ _;have hr:a%b<b:=Nat.mod_lt _ hb;have e1:IntKind.u64.wrap ((a:Int).tdiv (b:Int))=((a / b:Nat):Int):=by rw[<-Int.ofNat_tdiv,lk];generalize a / b=q at*;omega
 have e2:(a:Int).tmod (b:Int)=((a%b:Nat):Int):=(Int.ofNat_tmod a b).symm;have e3:IntKind.u64.wrap (2*((a%b:Nat):Int))=((2*(a%b):Nat):Int):=by rw[lk];generalize a%b=q at*;omega
 have e4:IntKind.u64.wrap (((a / b:Nat):Int)+1)=((a / b+1:Nat):Int):=by rw[lk];generalize a / b=q at*;omega
 have e5:((a / b:Nat):Int).tmod 2=((a / b%2:Nat):Int):=(Int.ofNat_tmod (a / b) 2).symm;unfold tG hX m4 Ca;simp only[e1,e2,e3,e4,e5];have c1:(((a%b:Nat):Int)==0)=(a%b==0):=nU _ 0;have c2:decide (((2*(a%b):Nat):Int)<(b:Int))=decide (2*(a%b)<b):=mS (by omega);have c3:(((2*(a%b):Nat):Int)==(b:Int))=(2*(a%b)==b):=nU _ _;have c4:(((a / b%2:Nat):Int)==0)=(a / b%2==0):=nU _ 0;rw[c1,c2,c3,c4];generalize ((a%b==0||how==3)||((how==1&& !neg)||(how==2&&neg))||(how==4&&(decide (2*(a%b)<b)||(2*(a%b)==b&&a / b%2==0))))=z;cases z<;>rfl
theorem ZB(N:Nat)(v:Int64):GM N v=some ((v.toInt.natAbs:Nat):Int):=by
 unfold GM;have:=kg v;by_cases h:v.toInt<0
 ·rw[asf h];simp only[cond_true,lk]
  congr 1
  omega
 ·rw[asg h];simp only[cond_false,lk]
  congr 1
  omega
theorem aem{a b:Nat}(neg:Bool)(how:Int):m4 a b neg how<=a+1:=by
 have hq:a / b<=a:=Nat.div_le_self _ _;unfold m4;cases Ca a b neg how
 ·simp only[cond_false];omega
 ·simp only[cond_true];omega
theorem Tv(N:Nat)(n d:Int64){how:Int}(h1:1<=how)(h4:how<=4)(b1: -4611686018427387904<=n.toInt)(b2:n.toInt<=4611686018427387904):
 Ay N n d how=some (bif d.toInt==0 then(0,4)else(Int64.ofInt (qj n.toInt d.toInt how),0)):=by
 unfold Ay EC;rw[mJ,dU,asf h1,asf h4];simp only[Bool.and_self,arx,cond_true];by_cases hd:d.toInt=0
 ·rw[hd];rfl
 ·have KK:=kg d;rw[beq_false_of_ne hd];simp only[cond_false];rw[ZB,ZB];unfold SP;simp only[arx];rw[show(((d.toInt.natAbs:Nat):Int) !=0)=true by rw[bne_iff_ne];omega];simp only[cond_true,arx];rw[al9 (by omega) (by omega) (by omega)];have key:=amZ (n:=n.toInt) (d:=d.toInt) hd h1 h4;have hb:=aem (a:=n.toInt.natAbs) (b:=d.toInt.natAbs);cases hs:(decide (n.toInt<0)==decide (d.toInt<0))with
  |true=>
   have ct:(decide (n.toInt<0) !=decide (d.toInt<0))=false:=by unfold bne;rw[hs];rfl
   rw[ct]at key;simp only[cond_false]at key;have:=hb false how;simp only[Bool.not_true,cond_true];rw[mJ,asg (show ¬(9223372036854775808:Int)<=((m4 n.toInt.natAbs d.toInt.natAbs false how:Nat):Int) by omega)];simp only[cond_false];rw[key]
  |false=>
   have ct:(decide (n.toInt<0) !=decide (d.toInt<0))=true:=by unfold bne;rw[hs];rfl
   rw[ct]at key;simp only[cond_true]at key;have:=hb true how;simp only[Bool.not_false,cond_false];rw[<-key]
   congr 2
   refine AS ?_;rw[rP,rP,lk,IntKind.wrap_i64,IntKind.wrap_i64];omega
theorem pI{t:aE}(F:sk t){v:aG}(V:LN t v): -1073741824<=v.xN.toInt/\v.xN.toInt<=1073741824:=by
 have:=Nc F;have:=V.n1;have:=V.n2;omega
structure Fx(N:Nat)(t:aE)(a b:aG):Prop where
 hN:2147483648<N
 ht:cZ t=true
 hk:t.aO=2
 ha:dG t a=true
 hb:dG t b=true
theorem Fx.fg{N:Nat}{t:aE}{a b:aG}(h:Fx N t a b):qW N t [a,b]=some 0:=U5 N h.hN h.ht h.hk λv hv=>by
 simp only[ar2,ase,or_false]at hv;rcases hv with rfl|rfl
 ·exact h.ha
 ·exact h.hb
theorem alr{N:Nat}{t:aE}{a:aG}(h:Fx N t a a):GB N t a=some (lA t (-a.xN.toInt),0):=by
 have B:=pI (jG h.ht h.hk) (l9 h.ha h.hk);unfold GB Qc PC;rw[h.fg];show Option.bind (Option.bind (oa N t (-a.xN)) (λv6=>some (v6,0))) _=_;rw[B5 N (jG h.ht h.hk),q7 (by omega)];rfl
theorem ag8{N:Nat}{t:aE}{a b:aG}(h:Fx N t a b):FA N t a b=some (lA t (a.xN.toInt+b.xN.toInt),0):=by
 have B:=pI (jG h.ht h.hk) (l9 h.ha h.hk);have C:=pI (jG h.ht h.hk) (l9 h.hb h.hk);unfold FA TE RA;rw[h.fg];show Option.bind (Option.bind (oa N t (a.xN+b.xN)) (λv6=>some (v6,0))) _=_;rw[B5 N (jG h.ht h.hk),vf (by omega) (by omega)];rfl
theorem aog{N:Nat}{t:aE}{a b:aG}(h:Fx N t a b):Dp N t a b=some (lA t (a.xN.toInt-b.xN.toInt),0):=by
 have B:=pI (jG h.ht h.hk) (l9 h.ha h.hk);have C:=pI (jG h.ht h.hk) (l9 h.hb h.hk);unfold Dp O9 Qv;rw[h.fg];show Option.bind (Option.bind (oa N t (a.xN-b.xN)) (λv6=>some (v6,0))) _=_;rw[B5 N (jG h.ht h.hk),pL (by omega) (by omega)];rfl
theorem yz{n d how:Int}(hd:0<d)(h1: -4611686018427387904<=n)(h2:n<=4611686018427387904):(Int64.ofInt (jb n d how)).toInt=jb n d how:=by
 have:=Nt (how:=how) hd (B:=4611686018427387904) (by decide) h1 h2;exact je (by omega) (by omega)
theorem ag5{n d how:Int}(hd:d≠0)(h1: -4611686018427387904<=n)(h2:n<=4611686018427387904):(Int64.ofInt (qj n d how)).toInt=qj n d how:=by
 unfold qj;by_cases h:d<0
 ·rw[asf h];exact yz (by omega) (by omega) (by omega)
 ·rw[asg h];exact yz (by omega) h1 h2
theorem Ya{n d how:Int}(hd:0<d):qj n d how=jb n d how:=by unfold qj;rw[asg (show ¬d<0 by omega)];rfl
theorem anA{N:Nat}{t:aE}{a b:aG}(h:Fx N t a b):FK N t a b=some (lA t (jb (a.xN.toInt*b.xN.toInt) (fb t) t.bN),0):=by
 have F:=jG h.ht h.hk;have B:=pI F (l9 h.ha h.hk);have C:=pI F (l9 h.hb h.hk);have M:=zF B.1 B.2 C.1 C.2;have S:=FE F;obtain⟨s1,s2,s3⟩:=Aa F.f1 F.f2;unfold FK Ui Rt;have e:=ry (a:=a.xN) (b:=b.xN) (by omega) (by omega);have yx:(Int64.ofInt ((1:Int)*2^(min (t.bE).toNat (IntKind.bits .i64)))).toInt=fb t:=s2;rw[h.fg,asf F.f1,Tv N _ _ F.r1 F.r2 (by rw[e];omega) (by rw[e];omega),yx,e,beq_false_of_ne (show fb t≠0 by omega)];simp only[arx,cond_true,cond_false,bne_self_eq_false];rw[B5 N F,Ya (by omega),yz (by omega) (by omega) (by omega)];rfl
theorem ac4{n:Int64}{f:Int}(h1:0<=f)(h2:f<=30)(b1: -4294967296<=n.toInt)(b2:n.toInt<=4294967296):
 (Int64.ofInt (n.toInt*2^(min f.toNat (IntKind.bits .i64)))).toInt=n.toInt*2^f.toNat/\-4611686018427387904<=n.toInt*2^f.toNat/\n.toInt*2^f.toNat<=4611686018427387904:=by
 obtain⟨s1,s2,s3⟩:=Aa h1 h2;have S:=acV (λx=>1<=x/\x<=1073741824) (by decide) h1 h2;have M:=zF b1 b2 (show-1073741824<=2^f.toNat by omega) S.2;rw[s3];exact⟨je (by omega) (by omega),by omega,by omega⟩
theorem apn{N:Nat}{t:aE}{a b:aG}(h:Fx N t a b):Fm N t a b=some (bif b.xN.toInt==0 then(bW,4)else(lA t (qj (a.xN.toInt*fb t) b.xN.toInt t.bN),0)):=by
 have F:=jG h.ht h.hk;have B:=pI F (l9 h.ha h.hk);obtain⟨e,e1,e2⟩:=ac4 (n:=a.xN) F.f1 F.f2 (by omega) (by omega);unfold Fm Ue TS;rw[h.fg,asf F.f1,Tv N _ _ F.r1 F.r2 (by rw[e];omega) (by rw[e];omega),e];by_cases hb:b.xN.toInt=0
 ·rw[hb];rfl
 ·rw[beq_false_of_ne hb];simp only[arx,cond_true,cond_false,bne_self_eq_false];rw[B5 N F,ag5 hb e1 e2];rfl
theorem BJ(N:Nat)(hN:9223372036854775808<N)(n d:Int64):sK N n d=some (jw n.toInt d.toInt):=by
 unfold sK jw;have hn:=kg n;have hdd:=kg d;by_cases hd:d.toInt=0
 ·rw[hd];rfl
 ·rw[beq_false_of_ne hd];simp only[cond_false];rw[EF,EF];unfold Bq;simp only[arx];rw[LX N N _ _ (by omega)];simp only[arx];have hg:0<Nat.gcd n.toInt.natAbs d.toInt.natAbs:=Nat.gcd_pos_of_pos_right _ (by omega);rw[show(((Nat.gcd n.toInt.natAbs d.toInt.natAbs:Nat):Int) !=0)=true by rw[bne_iff_ne];omega]
  change _=some (bif decide (2147483647<n.toInt.natAbs / Nat.gcd n.toInt.natAbs d.toInt.natAbs)||decide (2147483647<d.toInt.natAbs / Nat.gcd n.toInt.natAbs d.toInt.natAbs)then(bW,3)else(⟨Int64.ofInt (bif decide (n.toInt<0) !=decide (d.toInt<0)then-((n.toInt.natAbs / Nat.gcd n.toInt.natAbs d.toInt.natAbs:Nat):Int)else((n.toInt.natAbs / Nat.gcd n.toInt.natAbs d.toInt.natAbs:Nat):Int)),Int64.ofInt ((d.toInt.natAbs / Nat.gcd n.toInt.natAbs d.toInt.natAbs:Nat):Int)⟩,0))
  generalize hgg:Nat.gcd n.toInt.natAbs d.toInt.natAbs=g at*;have a1:n.toInt.natAbs / g<=n.toInt.natAbs:=Nat.div_le_self _ _;have a2:d.toInt.natAbs / g<=d.toInt.natAbs:=Nat.div_le_self _ _;have e1:IntKind.u64.wrap ((n.toInt.natAbs:Int).tdiv (g:Int))=((n.toInt.natAbs / g:Nat):Int):=by rw[<-Int.ofNat_tdiv,lk];generalize n.toInt.natAbs / g=q at*;omega
  have e2:IntKind.u64.wrap ((d.toInt.natAbs:Int).tdiv (g:Int))=((d.toInt.natAbs / g:Nat):Int):=by rw[<-Int.ofNat_tdiv,lk];generalize d.toInt.natAbs / g=q at*;omega
  simp only[cond_true];rw[e1,e2,jO,arx,mS (p:=((n.toInt.natAbs / g:Nat):Int)>2147483647) (q:=2147483647<n.toInt.natAbs / g) (by omega),mS (p:=((d.toInt.natAbs / g:Nat):Int)>2147483647) (q:=2147483647<d.toInt.natAbs / g) (by omega)];cases hc:(decide (2147483647<n.toInt.natAbs / g)||decide (2147483647<d.toInt.natAbs / g))with
  |true=>rfl
  |false=>
   rw[asm,decide_eq_false_iff_not,decide_eq_false_iff_not]at hc;unfold bne;cases (decide (n.toInt<0)==decide (d.toInt<0))with
   |true=>rfl
   |false=>
    simp only[cond_false,Bool.not_false,cond_true];clear e1 e2;generalize n.toInt.natAbs / g=p at*;generalize d.toInt.natAbs / g=q at*
    congr 3
    refine AS ?_;rw[q7 (by rw[je]<;>omega),je (by omega) (by omega),je (by omega) (by omega)]
theorem DK{a b:Int}(ha: -2147483647<=a)(Wo:a<=2147483647)(hb: -2147483647<=b)(fW:b<=2147483647): -4611686014132420609<=a*b/\a*b<=4611686014132420609:=by
 have:=zF ha Wo hb fW;omega
theorem gg.d0{v:aG}(h:gg v): -2147483647<=v.xD.toInt:=by have:=h.d1;omega
theorem ja{a b:Int64}(h1: -2147483647<=a.toInt)(h2:a.toInt<=2147483647)(h3: -2147483647<=b.toInt)(h4:b.toInt<=2147483647):(a*b).toInt=a.toInt*b.toInt:=by
 have:=DK h1 h2 h3 h4;exact ry (by omega) (by omega)
theorem WD{a b:aG}(A:gg a)(B:gg b):(a.xN*b.xD+b.xN*a.xD).toInt=a.xN.toInt*b.xD.toInt+b.xN.toInt*a.xD.toInt:=by
 have p:=DK A.n1 A.n2 B.d0 B.d2;have q:=DK B.n1 B.n2 A.d0 A.d2;rw[vf]<;>rw[ja A.n1 A.n2 B.d0 B.d2,ja B.n1 B.n2 A.d0 A.d2]<;>omega
theorem YU{a b:aG}(A:gg a)(B:gg b):(a.xN*b.xD-b.xN*a.xD).toInt=a.xN.toInt*b.xD.toInt-b.xN.toInt*a.xD.toInt:=by
 have p:=DK A.n1 A.n2 B.d0 B.d2;have q:=DK B.n1 B.n2 A.d0 A.d2;rw[pL]<;>rw[ja A.n1 A.n2 B.d0 B.d2,ja B.n1 B.n2 A.d0 A.d2]<;>omega
theorem aqu{N:Nat}(hN:9223372036854775808<N){a b:aG}(A:gg a)(B:gg b):Ds N a b=some (jw (a.xN.toInt*b.xD.toInt+b.xN.toInt*a.xD.toInt) (a.xD.toInt*b.xD.toInt)):=by
 unfold Ds;rw[oc N (by omega),oc N (by omega),A.ok,B.ok,BJ N hN,WD A B,ja A.d0 A.d2 B.d0 B.d2];rfl
theorem afW{N:Nat}(hN:9223372036854775808<N){a b:aG}(A:gg a)(B:gg b):DE N a b=some (jw (a.xN.toInt*b.xD.toInt-b.xN.toInt*a.xD.toInt) (a.xD.toInt*b.xD.toInt)):=by
 unfold DE;rw[oc N (by omega),oc N (by omega),A.ok,B.ok,BJ N hN,YU A B,ja A.d0 A.d2 B.d0 B.d2];rfl
theorem ahT{N:Nat}(hN:9223372036854775808<N){a b:aG}(A:gg a)(B:gg b):EG N a b=some (jw (a.xN.toInt*b.xN.toInt) (a.xD.toInt*b.xD.toInt)):=by
 unfold EG;rw[oc N (by omega),oc N (by omega),A.ok,B.ok,BJ N hN,ja A.n1 A.n2 B.n1 B.n2,ja A.d0 A.d2 B.d0 B.d2];rfl
theorem aqR{N:Nat}(hN:9223372036854775808<N){a b:aG}(A:gg a)(B:gg b):Gm N a b=some (jw (a.xN.toInt*b.xD.toInt) (a.xD.toInt*b.xN.toInt)):=by
 unfold Gm;rw[oc N (by omega),oc N (by omega),A.ok,B.ok,BJ N hN,ja A.n1 A.n2 B.d0 B.d2,ja A.d0 A.d2 B.n1 B.n2];rfl
theorem aeq(N:Nat)(n:Int64):p8 N n=some (decide (-2147483647<=n.toInt)&&decide (n.toInt<=2147483647)):=by
 unfold p8;rw[mJ,dU];rfl
theorem Tt{a b:Int}: -(a.natAbs:Int)<=a.tdiv b/\a.tdiv b<=(a.natAbs:Int):=by
 have h:(a.tdiv b).natAbs<=a.natAbs:=by rw[Int.natAbs_tdiv];exact Nat.div_le_self _ _
 omega
theorem OC{a b:Int}(hb:b≠0): -(a.natAbs:Int)<=a.tmod b/\a.tmod b<=(a.natAbs:Int):=by
 have h:(a.tmod b).natAbs<=a.natAbs:=by rw[Int.natAbs_tmod];exact Nat.mod_le _ _
 omega
theorem alv(N:Nat)(op:Int)(a b:Int64)(h1: -2147483647<=a.toInt)(h2:a.toInt<=2147483647)(h3: -2147483647<=b.toInt)(h4:b.toInt<=2147483647)(ho:op=4\/op=5\/op=6\/op=7):
 EV N op a b=some (uE op a.toInt b.toInt):=by
 have eA:=vf (a:=a) (b:=b) (by omega) (by omega);have eS:=pL (a:=a) (b:=b) (by omega) (by omega);have eM:=ja h1 h2 h3 h4;have fin:∀(z:Int64)(n:Int),z.toInt=n->((p8 N z).bind λv=>bif v then some ((⟨z,(1:Int64)⟩:aG),(0:Int))else some (bW,(3:Int)))=some (bif decide (-2147483647<=n)&&decide (n<=2147483647)then(⟨Int64.ofInt n,1⟩,0)else(bW,3)):=λz n hz=>by
  subst hz;rw[aeq,arx,MH];cases (decide (-2147483647<=z.toInt)&&decide (z.toInt<=2147483647))<;>rfl
 unfold EV uE;rcases ho with rfl|rfl|rfl|rfl
 ·exact fin _ _ eA
 ·exact fin _ _ eS
 ·exact fin _ _ eM
 ·show(bif b.toInt==0 then some (bW,(4:Int))else _)=some (bif true&&b.toInt==0 then(bW,4)else bif decide (-2147483647<=mH a.toInt b.toInt)&&decide (mH a.toInt b.toInt<=2147483647)then(⟨Int64.ofInt (mH a.toInt b.toInt),1⟩,0)else(bW,3));by_cases hb:b.toInt=0
  ·rw[hb];rfl
  ·have t1:=Tt (a:=a.toInt) (b:=b.toInt);have t2:=OC (a:=a.toInt) hb;have q1:(Int64.ofInt (a.toInt.tmod b.toInt)).toInt=a.toInt.tmod b.toInt:=je (by omega) (by omega);have q2:(Int64.ofInt (a.toInt.tdiv b.toInt)).toInt=a.toInt.tdiv b.toInt:=je (by omega) (by omega);have q3:((Int64.ofInt (a.toInt.tdiv b.toInt))-(1:Int64)).toInt=a.toInt.tdiv b.toInt-1:=by
    rw[pL]<;>rw[q2,show(1:Int64).toInt=1 from rfl]<;>omega
   have key:=aiI (a:=a.toInt) hb;rw[beq_false_of_ne hb,bne_iff_ne.2 hb,q1];simp only[cond_false,cond_true,Bool.and_false];rw[dU,arx];have hx:(!(decide (a.toInt<0)==decide (b.toInt<0)))=(decide (a.toInt<0) !=decide (b.toInt<0)):=rfl;rw[hx];cases hz:(a.toInt.tmod b.toInt !=0&&(decide (a.toInt<0) !=decide (b.toInt<0)))with
   |true=>rw[hz]at key;exact fin _ _ (q3.trans key)
   |false=>rw[hz]at key;exact fin _ _ (q2.trans key)
theorem amI(N:Nat)(a b:Int64):Cg N a b=some (nM a.toInt b.toInt):=by
 unfold Cg nM;cases decide (a.toInt<b.toInt)
 ·cases decide (a.toInt>b.toInt)<;>rfl
 ·rfl
theorem abx(N:Nat)(hN:2147483648<N)(t:aE)(a b:aG)(ht:cZ t=true):Ey N t a b=some (l7 t a b):=by
 unfold Ey l7;rw[wo N hN t a ht,wo N hN t b ht,ht];cases ha:dG t a with
 |false=>rfl
 |true=>
  cases hb:dG t b with
  |false=>rfl
  |true=>
   simp only[arx,cond_true,Bool.not_true,cond_false,Bool.and_self];cases hk:t.aO==1 with
   |true=>
    have jA:t.aO=1:=by simpa using hk
    have A:=o6 ha (by omega);have B:=o6 hb (by omega);simp only[cond_true];unfold Pn;rw[oc N hN,oc N hN,A.ok,B.ok,amI,ja A.n1 A.n2 B.d0 B.d2,ja B.n1 B.n2 A.d0 A.d2];rfl
   |false=>
    simp only[cond_false];unfold nM;cases decide (a.xN.toInt<b.xN.toInt)
    ·cases decide (a.xN.toInt>b.xN.toInt)<;>rfl
    ·rfl
theorem alA(N:Nat)(hN:9223372036854775808<N){op:Int}{t:aE}{a b:aG}(ht:cZ t=true)(ha:dG t a=true)(hb:dG t b=true)(ho:op=4\/op=5\/op=6\/op=7):
 I2 N op t a b=some (bif t.aO==2 then C0 op t a.xN.toInt b.xN.toInt else bif t.aO==3 then uE op a.xN.toInt b.xN.toInt else xI op a b):=by
 unfold I2;rcases kinds ht with hk|hk|hk
 ·have A:=o6 ha (by omega);have B:=o6 hb (by omega);rw[hk];rcases ho with rfl|rfl|rfl|rfl
  ·show Option.bind (Ds N a b) _=_;rw[aqu hN A B];rfl
  ·show Option.bind (DE N a b) _=_;rw[afW hN A B];rfl
  ·show Option.bind (EG N a b) _=_;rw[ahT hN A B];rfl
  ·show Option.bind (Gm N a b) _=_;rw[aqR hN A B];rfl
 ·have X:Fx N t a b:=⟨by omega,ht,hk,ha,hb⟩;rw[hk];rcases ho with rfl|rfl|rfl|rfl
  ·show Option.bind (FA N t a b) _=_;rw[ag8 X];rfl
  ·show Option.bind (Dp N t a b) _=_;rw[aog X];rfl
  ·show Option.bind (FK N t a b) _=_;rw[anA X];rfl
  ·show Option.bind (Fm N t a b) _=_;rw[apn X];rfl
 ·have A:=o6 ha (by omega);have B:=o6 hb (by omega);rw[hk];show Option.bind (EV N op a.xN b.xN) _=_;rw[alv N op _ _ A.n1 A.n2 B.n1 B.n2 ho];rfl
theorem al3(N:Nat)(hN:2147483648<N){t:aE}{a:aG}(ht:cZ t=true)(ha:dG t a=true)(b:Int):IY N t a=some (bif t.aO==2 then C0 8 t a.xN.toInt b else bif t.aO==3 then uE 8 a.xN.toInt b else xI 8 a a):=by
 unfold IY;rcases kinds ht with hk|hk|hk
 ·rw[hk];rfl
 ·rw[hk];show Option.bind (GB N t a) _=_;rw[alr ⟨hN,ht,hk,ha,ha⟩];rfl
 ·have A:=o6 ha (by omega);have D:=HA ha hk;have e:(-a.xN).toInt= -a.xN.toInt:=q7 (by have:=A.n1;omega);rw[hk];unfold uE;rw[show((8:Int)==7&&b==0)=false from rfl,show((8:Int)==4)=false from rfl,show((8:Int)==5)=false from rfl,show((8:Int)==6)=false from rfl,show((8:Int)==7)=false from rfl,show((3:Int)==2)=false from rfl,show((3:Int)==3)=true from rfl];simp only[cond_false,cond_true];rw[asf (show-2147483647<=-a.xN.toInt by have:=A.n2;omega),asf (show-a.xN.toInt<=2147483647 by have:=A.n1;omega)];simp only[Bool.and_self,cond_true]
  congr 2
  exact HH (by rw[e];exact(je (by have:=A.n2;omega) (by have:=A.n1;omega)).symm) D
theorem abB(N:Nat)(hN:2147483648<N){t:aE}{a b:aG}(ht:cZ t=true)(op:Int):Cu N t a b op true=some (bif op==9 then(bif decide (l7 t a b>0)then b else a)else(bif decide (l7 t a b<0)then b else a),0):=by
 unfold Cu;rw[abx N hN t a b ht];simp only[cond_true,arx];generalize l7 t a b=c;cases h9:op==9 with
 |true=>
  by_cases hc:c>0
  ·rw[asf hc,bne_iff_ne.2 (show c≠0 by omega)];rfl
  ·rw[asg hc];rfl
 |false=>
  by_cases hc:c<0
  ·rw[asf hc,asg (show ¬c>0 by omega),bne_iff_ne.2 (show c≠0 by omega)];rfl
  ·rw[asg hc];by_cases h0:c>0
   ·rw[asf h0];rfl
   ·obtain rfl:c=0:=by omega
    rfl
theorem alf(a b c:aG):xI 8 a b=xI 8 a c:=by
 unfold xI;rw[show((8:Int)==4)=false from rfl,show((8:Int)==5)=false from rfl,show((8:Int)==6)=false from rfl,show((8:Int)==7)=false from rfl];simp only[cond_false]
theorem ai7(N:Nat)(hN:9223372036854775808<N)(op:Int)(t:aE)(a b:aG):F9 N op t a b=some (s9 op t a b):=by
 have lZ:2147483648<N:=Nat.lt_trans (by decide) hN;unfold F9 s9;rw[jO,arx,oV,arx];by_cases h4:op<4
 ·rw[asf h4];rfl
 by_cases aK:op<=10
 ·rw[asg h4,asg (show ¬op>10 by omega)];simp only[Bool.or_self,cond_false];cases ht:cZ t with
  |false=>rfl
  |true=>
   simp only[cond_true,Bool.not_true,cond_false,bne_self_eq_false];rw[wo N lZ t a ht,wo N lZ t b ht];cases ha:dG t a with
   |false=>rfl
   |true=>
    simp only[arx,cond_true,Bool.not_true,Bool.false_or];rw[gV,dU,arx];by_cases h8:op=8
    ·subst h8;rw[al3 N lZ ht ha b.xN.toInt,alf a a b];rfl
    ·rw[beq_false_of_ne h8];simp only[Bool.not_false,Bool.true_and,cond_false];cases hb:dG t b with
     |false=>rfl
     |true=>
      simp only[Bool.not_true,cond_false];by_cases h9:op=9
      ·subst h9;rw[show((9:Int)==9)=true from rfl,abB N lZ ht];rfl
      ·rw[beq_false_of_ne h9];simp only[cond_false];by_cases h1:op=10
       ·subst h1;rw[show((10:Int)==10)=true from rfl,abB N lZ ht];rfl
       ·rw[beq_false_of_ne h1];unfold Cu;simp only[cond_false];rw[alA N hN ht ha hb (by omega)];rfl
 ·rw[asf (show op>10 by omega),Bool.or_true];rfl
theorem ak2(N:Nat)(hN:9223372036854775808<N){t:aE}{v:aG}(ht:cZ t=true)(hv:dG t v=true):Ms N t v=some (mI t v):=by
 unfold Ms mI;cases hk:t.aO==2 with
 |false=>rfl
 |true=>
  have jA:t.aO=2:=by simpa using hk
  have F:=jG ht jA;obtain⟨s1,s2,s3⟩:=Aa F.f1 F.f2;have yx:(Int64.ofInt ((1:Int)*2^(min (t.bE).toNat (IntKind.bits .i64)))).toInt=fb t:=s2;simp only[cond_true];unfold SI;rw[U5 N (by omega) ht jA (l:=[v]) (by intro x hx;simp only[ar2,ase,or_false]at hx;subst hx;exact hv),asf F.f1,BJ N hN,yx];rfl
theorem aoI(N:Nat)(hN:2147483648<N){v:aG}(V:gg v):Fk N v=some (Int64.ofInt (v.xN.toInt / v.xD.toInt)):=by
 unfold Fk Kl;have hd:=V.d1;have t1:=Tt (a:=v.xN.toInt) (b:=v.xD.toInt);have t2:=OC (a:=v.xN.toInt) (show v.xD.toInt≠0 by omega);have n1:=V.n1;have n2:=V.n2;rw[oc N hN,V.ok,bne_iff_ne.2 (show v.xD.toInt≠0 by omega),je (by omega) (by omega)];simp only[arx,cond_true];have key:=aaE (n:=v.xN.toInt) (d:=v.xD.toInt) (by omega);have q2:(Int64.ofInt (v.xN.toInt.tdiv v.xD.toInt)).toInt=v.xN.toInt.tdiv v.xD.toInt:=je (by omega) (by omega);cases hz:decide (v.xN.toInt.tmod v.xD.toInt<0)with
 |true=>
  rw[hz]at key;simp only[cond_true]at key ⊢;rw[<-key]
  congr 1
  refine rG ?_;rw[pL]<;>rw[q2,show(1:Int64).toInt=1 from rfl]<;>omega
 |false=>
  rw[hz]at key;simp only[cond_false]at key ⊢;rw[<-key]
theorem agX(N:Nat)(hN:2147483648<N){t:aE}{v:aG}(ht:cZ t=true)(hk:t.aO=2)(V:gg v):HE N t v=some (lA t (jb (v.xN.toInt*fb t) v.xD.toInt t.bN),0):=by
 have F:=jG ht hk;obtain⟨s1,s2,s3⟩:=Aa F.f1 F.f2;have n1:=V.n1;have n2:=V.n2;have d1:=V.d1;obtain⟨e,e1,e2⟩:=ac4 (n:=v.xN) F.f1 F.f2 (by omega) (by omega);unfold HE Uq EC;rw[Xa N ht hk,oc N hN,V.ok,s1,mJ,dU,asf F.r1,asf F.r2,asf F.f1,asg (show ¬t.bE<0 by have:=F.f1;omega),asg (show ¬t.bE>30 by have:=F.f2;omega)];simp only[arx,bne_self_eq_false,cond_false,cond_true,Bool.and_self,Bool.not_true];rw[Tv N _ _ F.r1 F.r2 (by rw[e];omega) (by rw[e];omega),e,beq_false_of_ne (show v.xD.toInt≠0 by omega)];simp only[arx,cond_false,bne_self_eq_false];rw[B5 N F,Ya (by omega),yz (by omega) e1 e2];rfl
theorem aqr(N:Nat)(hN:9223372036854775808<N)(t u:aE)(v:aG):EJ N t u v=some (yu t u v):=by
 unfold EJ yu;rw[oV,oV];cases ht:cZ t with
 |false=>rfl
 |true=>
  cases hu:cZ u with
  |false=>rfl
  |true=>
   simp only[arx,cond_true,bne_self_eq_false,cond_false,Bool.not_true,Bool.or_self];rw[wo N (by omega) t v ht];cases hv:dG t v with
   |false=>rfl
   |true=>
    simp only[arx,cond_true,Bool.not_true,cond_false];have V:=aa4 ht hv;rw[ak2 N hN ht hv,arx];rcases kinds hu with hk|hk|hk
    ·rw[hk];rfl
    ·rw[hk];show Option.bind (HE N u (mI t v)) _=_;rw[agX N (by omega) hu hk V];rfl
    ·rw[hk];show Option.bind (Fk N (mI t v)) _=_;rw[aoI N (by omega) V];rfl
theorem Wb(N:Nat)(t:aE):CS N t=some (rU t):=by
 unfold CS rU;rw[oV];cases cZ t<;>rfl
theorem ab8(N:Nat)(hN:2147483648<N)(t:aE):Bv N t=some (jR t):=by
 unfold Bv jR;rw[oV];cases ht:cZ t with
 |false=>rfl
 |true=>
  simp only[arx,cond_true,bne_self_eq_false,cond_false,Bool.not_true];cases hk:t.aO==2 with
  |false=>
   rw[gV,hk];have hv:dG t ⟨Int64.ofInt 1,1⟩=true:=by
     unfold dG;rw[hk];cases t.aO==3<;>rfl
   simp only[Bool.not_false,cond_true,cond_false];rw[hv];rfl
  |true=>
   have jA:t.aO=2:=by simpa using hk
   have F:=jG ht jA;obtain⟨s1,s2,s3⟩:=Aa F.f1 F.f2;have s4:(Int64.ofInt ((1:Int)*2^(min (t.bE).toNat (IntKind.bits .i64))))=Int64.ofInt (fb t):=rG s2;rw[gV,hk,asf F.f1,s4];simp only[Bool.not_true,cond_false,cond_true];rw[Wu N hN _ ht jA];cases dG t ⟨Int64.ofInt (fb t),1⟩<;>rfl
theorem akQ{n d:Int}: -(n.natAbs:Int)<=n.tdiv d*d/\n.tdiv d*d<=(n.natAbs:Int):=by
 have h:(n.tdiv d*d).natAbs<=n.natAbs:=by rw[Int.natAbs_mul,Int.natAbs_tdiv];exact Nat.div_mul_le_self _ _
 omega
theorem Nn(N:Nat)(n d:Int64)(hd:0<d.toInt)(b1: -4611686025000000000<=n.toInt)(b2:n.toInt<=4611686025000000000):
 wX N n d=some (Int64.ofInt (n.toInt / d.toInt)):=by
 have t1:=Tt (a:=n.toInt) (b:=d.toInt);have t2:=akQ (n:=n.toInt) (d:=d.toInt);have q1:(Int64.ofInt (n.toInt.tdiv d.toInt)).toInt=n.toInt.tdiv d.toInt:=je (by omega) (by omega);have q2:((Int64.ofInt (n.toInt.tdiv d.toInt))*d).toInt=n.toInt.tdiv d.toInt*d.toInt:=by
  rw[ry]<;>rw[q1]<;>omega
 have q3:((Int64.ofInt (n.toInt.tdiv d.toInt))-(1:Int64)).toInt=n.toInt.tdiv d.toInt-1:=by
  rw[pL]<;>rw[q1,show(1:Int64).toInt=1 from rfl]<;>omega
 have key:=XO (n:=n.toInt) hd;unfold wX;rw[bne_iff_ne.2 (show d.toInt≠0 by omega),q2];simp only[cond_true];cases hz:decide (n.toInt.tdiv d.toInt*d.toInt>n.toInt)with
 |true=>
  rw[hz]at key;simp only[cond_true]at key ⊢
  congr 1
  exact rG (q3.trans key)
 |false=>
  rw[hz]at key;simp only[cond_false]at key ⊢;rw[<-key]
theorem PS{n d B:Int}(hd:0<d)(hB:0<=B)(h1: -B<=n)(h2:n<=B): -B<=n / d/\n / d<=B/\n-d<n / d*d/\n / d*d<=n:=by
 have e:=Int.mul_ediv_add_emod n d;have e1:=Int.emod_nonneg n (show d≠0 by omega);have e2:=Int.emod_lt_of_pos n hd;rw[Int.mul_comm]at e;refine⟨?_,?_,by omega,by omega⟩
 ·refine Int.le_ediv_of_mul_le hd ?_;have:B*1<=B*d:=Int.mul_le_mul_of_nonneg_left (by omega) hB;rw[Int.neg_mul];omega
 ·by_cases h:0<=n
  ·exact Int.le_trans (Int.ediv_le_self _ h) h2
  ·exact Int.le_trans (Int.le_of_lt (Int.ediv_neg_of_neg_of_pos (by omega) hd)) hB
theorem Ow(N:Nat)(n d:Int64)(how:Int)(hd:0<d.toInt)(nK:d.toInt<=4294967296)(b1: -4611686018427387904<=n.toInt)(b2:n.toInt<=4611686018427387904):
 Cx N n d how=some (Int64.ofInt (jb n.toInt d.toInt how)):=by
 obtain⟨k1,k2,k3,k4⟩:=PS hd (B:=4611686018427387904) (by decide) b1 b2;have q0:(Int64.ofInt (n.toInt / d.toInt)).toInt=n.toInt / d.toInt:=je (by omega) (by omega);have q1:(Int64.ofInt (n.toInt / d.toInt)*d).toInt=n.toInt / d.toInt*d.toInt:=by rw[ry]<;>rw[q0]<;>omega
 have q2:(n-Int64.ofInt (n.toInt / d.toInt)*d).toInt=n.toInt-n.toInt / d.toInt*d.toInt:=by rw[pL]<;>rw[q1]<;>omega
 have q3:(d-(n-Int64.ofInt (n.toInt / d.toInt)*d)).toInt=d.toInt-(n.toInt-n.toInt / d.toInt*d.toInt):=by rw[pL]<;>rw[q2]<;>omega
 have q4:Int64.ofInt (n.toInt / d.toInt)+(1:Int64)=Int64.ofInt (n.toInt / d.toInt+1):=rG (by rw[vf]<;>rw[q0,show(1:Int64).toInt=1 from rfl]<;>omega);have q5:(Int64.ofInt ((n.toInt / d.toInt).tmod 2)).toInt=(n.toInt / d.toInt).tmod 2:=by
  have:=OC (a:=n.toInt / d.toInt) (b:=2) (by decide);exact je (by omega) (by omega)
 rw[<-aeS how (n:=n.toInt) (d:=d.toInt) (q:=n.toInt / d.toInt) (rest:=n.toInt-n.toInt / d.toInt*d.toInt) rfl rfl];unfold Cx;rw[Nn N n d hd (by omega) (by omega),arx,q2,q3,q0,q5,q4,jO,arx];generalize n.toInt-n.toInt / d.toInt*d.toInt=rest;generalize n.toInt / d.toInt=q;cases (rest==0||how==1)with
 |true=>rfl
 |false=>
  simp only[cond_false];cases how==2 with
  |true=>rfl
  |false=>
   simp only[cond_false];cases how==3 with
   |true=>simp only[cond_true];cases decide (n.toInt<0)<;>rfl
   |false=>
    simp only[cond_false];rw[dU,jO,arx];cases (decide (rest>d.toInt-rest)||(rest==d.toInt-rest&&q.tmod 2 !=0))<;>rfl
theorem aml(a b:Int64):(qQ a b).toInt=max a.toInt b.toInt:=by unfold qQ;split<;>omega
theorem ajY(a b:Int64):(wu a b).toInt=min a.toInt b.toInt:=by unfold wu;split<;>omega
theorem Aj(N:Nat){t:aE}(F:sk t)(n:Int64)(b1: -4611686018427387905<=n.toInt)(b2:n.toInt<=4611686018427387905):sD N t n=some (lA t n.toInt):=by
 obtain⟨f1,f2,f3,f4,f5,f6⟩:=LH F.b1 F.b2;obtain⟨h1,h2⟩:=Nc F;have iI:(-(Int64.ofInt ((1:Int)*2^(min ((IntKind.u64.wrap (aI (t.bo-(1:Int))))).toNat (IntKind.bits .i64)))))=Int64.ofInt (-ck t):=rG f3;have lY:((Int64.ofInt ((1:Int)*2^(min ((IntKind.u64.wrap (aI (t.bo-(1:Int))))).toNat (IntKind.bits .i64))))-(1:Int64))=Int64.ofInt (ck t-1):=rG f4;have hf0:(Int64.ofInt ((1:Int)*2^(min ((IntKind.u64.wrap (aI (t.bo-(1:Int))))).toNat (IntKind.bits .i64))))=Int64.ofInt (ck t):=by
  have a1:=congrArg Int64.toInt lY;have a2:=f4;have e:∀x:Int64,(x-1).toInt=ck t-1->x=Int64.ofInt (ck t):=λx hx=>by
   refine rG ?_;rw[I7,show(1:Int64).toInt=1 from rfl,IntKind.wrap_i64]at hx;have:=kg x;omega
  exact e _ f4
 have e0:(Int64.ofInt (ck t)).toInt=ck t:=je (by omega) (by omega);have e1:(Int64.ofInt (-ck t)).toInt= -ck t:=je (by omega) (by omega);have e2:(Int64.ofInt (ck t-1)).toInt=ck t-1:=je (by omega) (by omega);have J:∀z:Int64,z.toInt=n.toInt/\(t.bM==2)=false\/(z.toInt=oG true (ck t) n.toInt/\(t.bM==2)=true)->EP N t z=some (lA t n.toInt):=λz hz=>by
  unfold EP;rw[iI,lY];unfold lA
  congr 1
  refine HH ?_ rfl;show(qQ (Int64.ofInt (-ck t)) (wu (Int64.ofInt (ck t-1)) z)).toInt=(Int64.ofInt (oG (t.bM==2) (ck t) n.toInt)).toInt;have hb:=aqp (w:=t.bM==2) (h:=ck t) (n:=n.toInt) (by omega);rw[aml,ajY,e1,e2,je (by omega) (by omega)];rcases hz with⟨hz,ho⟩|⟨hz,ho⟩
  ·rw[hz,ho];rfl
  ·rw[ho]at hb ⊢;rw[hz];omega
 unfold sD;rw[f1];simp only[cond_true];cases ho:t.bM==2 with
 |false=>exact J n (.inl ⟨rfl,ho⟩)
 |true=>
  simp only[cond_true];rw[hf0];have a1:(n+Int64.ofInt (ck t)).toInt=n.toInt+ck t:=by rw[vf]<;>rw[e0]<;>omega
  have a2:((2:Int64)*Int64.ofInt (ck t)).toInt=2*ck t:=by rw[ry]<;>rw[e0,show(2:Int64).toInt=2 from rfl]<;>omega
  rw[Nn N _ _ (by rw[a2];omega) (by rw[a1];omega) (by rw[a1];omega),arx,a1,a2];obtain⟨k1,k2,k3,k4⟩:=PS (n:=n.toInt+ck t) (d:=2*ck t) (B:=4611686025000000000) (by omega) (by decide) (by omega) (by omega);have a3:(Int64.ofInt ((n.toInt+ck t)/(2*ck t))).toInt=(n.toInt+ck t)/(2*ck t):=je (by omega) (by omega);have hq:(n.toInt+ck t)/(2*ck t)*(2*ck t)=(n.toInt+ck t)/(2*ck t)*2*ck t:=by rw[Int.mul_assoc]
  have hm:(n.toInt+ck t)%(2*ck t)=n.toInt+ck t-(n.toInt+ck t)/(2*ck t)*(2*ck t):=by
   rw[Int.emod_def,Int.mul_comm]
  have q9:2<=ck t->-4611686025000000000<=(n.toInt+ck t)/(2*ck t)*2/\(n.toInt+ck t)/(2*ck t)*2<=4611686025000000000:=λhh=>by
   have z1:(n.toInt+ck t)/(2*ck t)*2<=(n.toInt+ck t).natAbs:=by
    by_cases hp:0<=(n.toInt+ck t)/(2*ck t)
    ·have:(n.toInt+ck t)/(2*ck t)*2<=(n.toInt+ck t)/(2*ck t)*(2*ck t):=Int.mul_le_mul_of_nonneg_left (by omega) hp;omega
    ·omega
   have z2: -((n.toInt+ck t).natAbs:Int)-4*ck t<=(n.toInt+ck t)/(2*ck t)*2:=by
    by_cases hp:0<=(n.toInt+ck t)/(2*ck t)
    ·omega
    ·have:(n.toInt+ck t)/(2*ck t)*(2*ck t)<=(n.toInt+ck t)/(2*ck t)*2:=Int.mul_le_mul_of_nonpos_left (by omega) (by omega);omega
   omega
  obtain⟨z1,z2⟩:=q9 h1;have a4:(Int64.ofInt ((n.toInt+ck t)/(2*ck t))*(2:Int64)).toInt=(n.toInt+ck t)/(2*ck t)*2:=by rw[ry]<;>rw[a3,show(2:Int64).toInt=2 from rfl]<;>omega
  have a5:(Int64.ofInt ((n.toInt+ck t)/(2*ck t))*(2:Int64)*Int64.ofInt (ck t)).toInt=(n.toInt+ck t)/(2*ck t)*(2*ck t):=by
   rw[ry]<;>rw[a4,e0,<-hq]<;>omega
  refine J _ (.inr ⟨?_,ho⟩);rw[pL]<;>rw[a5]
  ·unfold oG;simp only[cond_true];rw[hm];omega
  ·omega
  ·omega
theorem Ei(N:Nat){t:aE}(F:sk t):vO N t=some (Int64.ofInt (fb t)):=by
 obtain⟨s1,s2,s3⟩:=Aa F.f1 F.f2;have s4:(Int64.ofInt ((1:Int)*2^(min (t.bE).toNat (IntKind.bits .i64))))=Int64.ofInt (fb t):=rG s2;unfold vO;rw[s1,asf F.f1,s4];rfl
theorem OY{t:aE}(F:sk t):(Int64.ofInt (fb t)).toInt=fb t:=by
 have:=FE F;exact je (by omega) (by omega)
theorem aqm(N:Nat){op:Int}{t:aE}{a b:aG}(F:sk t)(A:LN t a)(B:op≠8->LN t b):Lw N op t a.xN b.xN=some (C0 op t a.xN.toInt b.xN.toInt):=by
 have a1:=pI F A;have S:=FE F;have s:=OY F;unfold Lw C0;by_cases h8:op=8
 ·subst h8;have e:(-a.xN).toInt= -a.xN.toInt:=q7 (by omega);rw[show((8:Int)==4)=false from rfl,show((8:Int)==5)=false from rfl,show((8:Int)==6)=false from rfl,show((8:Int)==8)=true from rfl];simp only[cond_false,cond_true];rw[Aj N F _ (by rw[e];omega) (by rw[e];omega),e];rfl
 have b1:=pI F (B h8);rw[beq_false_of_ne h8];cases op==4 with
 |true=>
  have e:=vf (a:=a.xN) (b:=b.xN) (by omega) (by omega);simp only[cond_true];rw[Aj N F _ (by rw[e];omega) (by rw[e];omega),e];rfl
 |false=>
  simp only[cond_false];cases op==5 with
  |true=>
   have e:=pL (a:=a.xN) (b:=b.xN) (by omega) (by omega);simp only[cond_true];rw[Aj N F _ (by rw[e];omega) (by rw[e];omega),e];rfl
  |false=>
   simp only[cond_false];cases op==6 with
   |true=>
    have M:=zF a1.1 a1.2 b1.1 b1.2;have e:=ry (a:=a.xN) (b:=b.xN) (by omega) (by omega);simp only[cond_true];rw[Ei N F,arx,Ow N _ _ _ (by rw[s];omega) (by rw[s];omega) (by rw[e];omega) (by rw[e];omega),arx,e,s];have r:=Nt (n:=a.xN.toInt*b.xN.toInt) (d:=fb t) (how:=t.bN) (B:=4611686018427387904) (by omega) (by decide) (by omega) (by omega);have r2:=yz (n:=a.xN.toInt*b.xN.toInt) (d:=fb t) (how:=t.bN) (by omega) (by omega) (by omega);rw[Aj N F _ (by rw[r2];omega) (by rw[r2];omega),r2];rfl
   |false=>
    simp only[cond_false];by_cases hb:b.xN.toInt=0
    ·rw[hb];rfl
    ·rw[beq_false_of_ne hb];simp only[cond_false];have M:=zF a1.1 a1.2 (show-1073741824<=fb t by omega) S.2;have J:∀x y:Int64,0<y.toInt->y.toInt<=1073741824->-1073741824<=x.toInt->x.toInt<=1073741824->Gx N t x y=some (lA t (jb (x.toInt*fb t) y.toInt t.bN),0):=λx y y0 y1 x0 x1=>by
       have M:=zF x0 x1 (show-1073741824<=fb t by omega) S.2;have e:(x*Int64.ofInt (fb t)).toInt=x.toInt*fb t:=by rw[ry]<;>rw[s]<;>omega
       unfold Gx;rw[Ei N F,arx,Ow N _ _ _ (by omega) (by omega) (by rw[e];omega) (by rw[e];omega),arx,e];have r:=Nt (n:=x.toInt*fb t) (d:=y.toInt) (how:=t.bN) (B:=4611686018427387904) (by omega) (by decide) (by omega) (by omega);have r2:=yz (n:=x.toInt*fb t) (d:=y.toInt) (how:=t.bN) (by omega) (by omega) (by omega);rw[Aj N F _ (by rw[r2];omega) (by rw[r2];omega),r2];rfl
     unfold qj;by_cases sH:b.xN.toInt<0
     ·have ea:(-a.xN).toInt= -a.xN.toInt:=q7 (by omega);have eb:(-b.xN).toInt= -b.xN.toInt:=q7 (by omega);rw[asf sH];simp only[cond_true];rw[J _ _ (by rw[eb];omega) (by rw[eb];omega) (by rw[ea];omega) (by rw[ea];omega),ea,eb,Int.neg_mul]
     ·rw[asg sH];simp only[cond_false];rw[J _ _ (by omega) (by omega) (by omega) (by omega)]
theorem ai5(N:Nat){op:Int}{a b:Int64}(h1: -2147483647<=a.toInt)(h2:a.toInt<=2147483647)(hb:op≠8->-2147483647<=b.toInt/\b.toInt<=2147483647)(ho:4<=op/\op<=8):
 ID N op a b=some (uE op a.toInt b.toInt):=by
 have fin:∀(z:Int64)(n:Int),z.toInt=n->(Option.bind (bif (decide (z.toInt>2147483647))then some true else some (decide (z.toInt<(-2147483647:Int)))) λv=>bif v then some (bW,(3:Int))else some ((⟨z,(1:Int64)⟩:aG),(0:Int)))=some (bif decide (-2147483647<=n)&&decide (n<=2147483647)then(⟨Int64.ofInt n,1⟩,0)else(bW,3)):=λz n hz=>by
  subst hz;rw[jO,arx,MH];by_cases c1:z.toInt>2147483647
  ·rw[asf c1,asg (show ¬z.toInt<=2147483647 by omega),Bool.and_false];rfl
  ·rw[asg c1,asf (show z.toInt<=2147483647 by omega),Bool.and_true];by_cases c2:z.toInt< -2147483647
   ·rw[asf c2,asg (show ¬-2147483647<=z.toInt by omega)];rfl
   ·rw[asg c2,asf (show-2147483647<=z.toInt by omega)];rfl
 unfold ID uE;rcases (by omega:op=4\/op=5\/op=6\/op=7\/op=8)with rfl|rfl|rfl|rfl|rfl
 ·obtain⟨h3,h4⟩:=hb (by decide);exact fin _ _ (vf (a:=a) (b:=b) (by omega) (by omega))
 ·obtain⟨h3,h4⟩:=hb (by decide);exact fin _ _ (pL (a:=a) (b:=b) (by omega) (by omega))
 ·obtain⟨h3,h4⟩:=hb (by decide);exact fin _ _ (ja h1 h2 h3 h4)
 ·obtain⟨h3,h4⟩:=hb (by decide);show(bif b.toInt==0 then some (bW,(4:Int))else _)=some (bif true&&b.toInt==0 then(bW,4)else bif decide (-2147483647<=mH a.toInt b.toInt)&&decide (mH a.toInt b.toInt<=2147483647)then(⟨Int64.ofInt (mH a.toInt b.toInt),1⟩,0)else(bW,3));by_cases pc:b.toInt=0
  ·rw[pc];rfl
  ·rw[beq_false_of_ne pc];simp only[cond_false,Bool.and_false];have J:∀x y:Int64,0<y.toInt->-2147483647<=x.toInt->x.toInt<=2147483647->mH a.toInt b.toInt=x.toInt / y.toInt->Fj N x y=some (bif decide (-2147483647<=mH a.toInt b.toInt)&&decide (mH a.toInt b.toInt<=2147483647)then(⟨Int64.ofInt (mH a.toInt b.toInt),1⟩,0)else(bW,3)):=λx y y0 x0 x1 hf=>by
     unfold Fj;obtain⟨k1,k2,k3,k4⟩:=PS (n:=x.toInt) (d:=y.toInt) (B:=2147483647) y0 (by decide) (by omega) (by omega);rw[Nn N x y y0 (by omega) (by omega),arx,hf];exact fin _ _ (je (by omega) (by omega))
   by_cases sH:b.toInt<0
   ·have ea:(-a).toInt= -a.toInt:=q7 (by omega);have eb:(-b).toInt= -b.toInt:=q7 (by omega);rw[asf sH];exact J _ _ (by rw[eb];omega) (by rw[ea];omega) (by rw[ea];omega) (by unfold mH;rw[asf sH,ea,eb];rfl)
   ·rw[asg sH];exact J _ _ (by omega) (by omega) (by omega) (by unfold mH;rw[asg sH];rfl)
 ·exact fin _ _ (q7 (by omega))
theorem qc(N:Nat)(hN:2147483648<N)(v:aG):mP N v=some (dG vq v):=by
 unfold mP;have h:=s7 N hN vq v Ru;have h':pn N ⟨1,0,0,0,0⟩ v=some (dG vq v):=h;rw[h'];rfl
theorem abZ(N:Nat)(v:Int64):FG N v=some ((v.toInt.natAbs:Nat):Int):=by
 unfold FG;have hb:=kg v;by_cases h:v.toInt<0
 ·have e1:(v+(1:Int64)).toInt=v.toInt+1:=by rw[vf]<;>rw[show(1:Int64).toInt=1 from rfl]<;>omega
  have e2:(-(v+(1:Int64))).toInt= -(v.toInt+1):=by rw[q7]<;>rw[e1];omega
  rw[asf h,e2];simp only[cond_true,lk]
  congr 1
  omega
 ·rw[asg h];simp only[cond_false,lk]
  congr 1
  omega
theorem acf(N:Nat):∀(k a b:Nat),b<k->Dc N k (a:Int) (b:Int)=some ((Nat.gcd a b:Nat):Int)
 |0,a,b,h=>absurd h (ar0 _)
 |k+1,a,b,h=>by
  rw[Dc];by_cases h0:b=0
  ·subst h0;simp
  ·rw[show(((b:Nat):Int) !=0)=true by rw[bne_iff_ne];omega];simp only[cond_true];rw[<-Int.ofNat_tmod,acf N k b (a%b) (by have:=Nat.mod_lt a (Nat.pos_of_ne_zero h0);omega)];rw[Nat.gcd_comm a b,Nat.gcd_rec b a,Nat.gcd_comm]
theorem G7(N:Nat)(hN:9223372036854775808<N)(n d:Int64):vI N n d=some (jw n.toInt d.toInt):=by
 have h:=BJ N hN n d;unfold sK Bq at h;rw[EF,EF]at h;unfold vI OE PD;rw[abZ,abZ];have hdd:=kg d;by_cases hd:d.toInt=0
 ·rw[hd]at h ⊢;exact h
 ·rw[beq_false_of_ne hd]at h ⊢;simp only[cond_false,arx]at h ⊢;rw[LX N N _ _ (by omega)]at h;rw[acf N N _ _ (by omega)];simp only[arx]at h ⊢;have hg:0<Nat.gcd n.toInt.natAbs d.toInt.natAbs:=Nat.gcd_pos_of_pos_right _ (by omega);rw[show(((Nat.gcd n.toInt.natAbs d.toInt.natAbs:Nat):Int) !=0)=true by rw[bne_iff_ne];omega]at h ⊢;simp only[cond_true]at h ⊢;rw[jO,arx]at h ⊢;cases hc:(decide (IntKind.u64.wrap (((n.toInt.natAbs:Nat):Int).tdiv ((Nat.gcd n.toInt.natAbs d.toInt.natAbs:Nat):Int))>2147483647)||decide (IntKind.u64.wrap (((d.toInt.natAbs:Nat):Int).tdiv ((Nat.gcd n.toInt.natAbs d.toInt.natAbs:Nat):Int))>2147483647))with
  |true=>rw[hc]at h;exact h
  |false=>
   rw[hc]at h;simp only[cond_false]at h ⊢;cases hs:(decide (n.toInt<0)==decide (d.toInt<0))with
   |true=>rw[hs]at h;exact h
   |false=>rw[hs]at h;exact h
theorem apd{N:Nat}(hN:9223372036854775808<N){a b:aG}(A:gg a)(B:gg b):JZ N a b=some (jw (a.xN.toInt*b.xD.toInt+b.xN.toInt*a.xD.toInt) (a.xD.toInt*b.xD.toInt)):=by
 unfold JZ;rw[qc N (by omega),qc N (by omega),A.ok,B.ok,G7 N hN,WD A B,ja A.d0 A.d2 B.d0 B.d2];rfl
theorem ajt{N:Nat}(hN:9223372036854775808<N){a b:aG}(A:gg a)(B:gg b):JV N a b=some (jw (a.xN.toInt*b.xD.toInt-b.xN.toInt*a.xD.toInt) (a.xD.toInt*b.xD.toInt)):=by
 unfold JV;rw[qc N (by omega),qc N (by omega),A.ok,B.ok,G7 N hN,YU A B,ja A.d0 A.d2 B.d0 B.d2];rfl
theorem ajW{N:Nat}(hN:9223372036854775808<N){a b:aG}(A:gg a)(B:gg b):LZ N a b=some (jw (a.xN.toInt*b.xN.toInt) (a.xD.toInt*b.xD.toInt)):=by
 unfold LZ;rw[qc N (by omega),qc N (by omega),A.ok,B.ok,G7 N hN,ja A.n1 A.n2 B.n1 B.n2,ja A.d0 A.d2 B.d0 B.d2];rfl
theorem ai1{N:Nat}(hN:9223372036854775808<N){a b:aG}(A:gg a)(B:gg b):JE N a b=some (jw (a.xN.toInt*b.xD.toInt) (a.xD.toInt*b.xN.toInt)):=by
 unfold JE;rw[qc N (by omega),qc N (by omega),A.ok,B.ok,G7 N hN,ja A.n1 A.n2 B.d0 B.d2,ja A.d0 A.d2 B.n1 B.n2];rfl
theorem aor{N:Nat}(hN:2147483648<N){a:aG}(A:gg a):H4 N a=some ⟨-a.xN,a.xD⟩:=by
 unfold H4;rw[qc N hN,A.ok];rfl
theorem aqA(N:Nat)(a b:Int64):AL N a b=some (nM a.toInt b.toInt):=by
 unfold AL nM;cases decide (a.toInt<b.toInt)
 ·cases decide (a.toInt>b.toInt)<;>rfl
 ·rfl
theorem uB{t:aE}{v:aG}(ht:cZ t=true)(hv:dG t v=true):gg v:=by
 by_cases hk:t.aO=2
 ·have F:=jG ht hk;have A:=l9 hv hk;have B:=pI F A;have d:=A.d;exact⟨by omega,by omega,by omega,by omega,by rw[d];exact Nat.gcd_one_right _⟩
 ·exact o6 hv hk
theorem QI(N:Nat)(hN:2147483648<N)(t:aE)(a b:aG):C3 N t a b=some (l7 t a b):=by
 unfold C3 K9 l7;rw[qJ];cases ht:cZ t with
 |false=>rfl
 |true=>
  simp only[arx,cond_true];rw[s7 N hN t a ht,s7 N hN t b ht];cases ha:dG t a with
  |false=>rfl
  |true=>
   cases hb:dG t b with
   |false=>rfl
   |true=>
    have A:=uB ht ha;have B:=uB ht hb;simp only[arx,cond_true,Bool.not_true,cond_false,Bool.and_self];unfold OD;rw[qc N hN,qc N hN,A.ok,B.ok];simp only[arx,cond_true];rw[aqA,ja A.n1 A.n2 B.d0 B.d2,ja B.n1 B.n2 A.d0 A.d2];cases hk:t.aO==1 with
    |true=>rfl
    |false=>
     have da:a.xD.toInt=1:=by
      rcases kinds ht with h|h|h
      ·rw[h]at hk;cases hk
      ·exact(l9 ha h).d
      ·exact HA ha h
     have db:b.xD.toInt=1:=by
      rcases kinds ht with h|h|h
      ·rw[h]at hk;cases hk
      ·exact(l9 hb h).d
      ·exact HA hb h
     rw[da,db,Int.mul_one,Int.mul_one];rfl
theorem aaB(N:Nat)(hN:9223372036854775808<N)(op:Int)(t:aE)(a b:aG):xB N op t a b=some (s9 op t a b):=by
 have lZ:2147483648<N:=Nat.lt_trans (by decide) hN;unfold xB s9;rw[jO,arx,qJ,arx];by_cases h4:op<4
 ·rw[asf h4];rfl
 by_cases aK:op<=10
 ·rw[asg h4,asg (show ¬op>10 by omega)];simp only[Bool.or_self,cond_false];cases ht:cZ t with
  |false=>rfl
  |true=>
   simp only[cond_true,Bool.not_true,cond_false];rw[s7 N lZ t a ht,s7 N lZ t b ht];cases ha:dG t a with
   |false=>rfl
   |true=>
    have A:=uB ht ha;simp only[arx,cond_true,Bool.not_true,Bool.false_or];rw[gV,dU,arx];have l8:(!(op==8)&& !dG t b)=false->op≠8->dG t b=true:=λh h8=>by
     rw[beq_false_of_ne h8]at h
     simpa using h
    cases hc:(!(op==8)&& !dG t b)with
    |true=>rfl
    |false=>
     have hb:=l8 hc;simp only[cond_false];rw[jO,arx];by_cases h9:op=9
     ·subst h9;rw[QI N lZ t a b];simp only[ash,Bool.true_or,cond_true,arx];cases decide (l7 t a b>0)<;>rfl
     ·by_cases h1:op=10
      ·subst h1;have hb:=hb (by decide);rw[QI N lZ t a b];rw[show((10:Int)==9)=false from rfl,show((10:Int)==10)=true from rfl];simp only[Bool.or_true,cond_true,arx,cond_false];by_cases c0:l7 t a b>0
       ·rw[asf c0,asg (show ¬l7 t a b<0 by omega)];rfl
       ·by_cases c1:l7 t a b<0
        ·rw[asg c0,asf c1];rfl
        ·have e:=ak4 ht ha hb (by omega);subst e;rw[asg c0,asg c1];rfl
      ·rw[beq_false_of_ne h9,beq_false_of_ne h1];simp only[Bool.or_self,cond_false];rcases kinds ht with hk|hk|hk
       ·rw[hk,show((1:Int)==2)=false from rfl,show((1:Int)==3)=false from rfl];simp only[cond_false];unfold xI;rcases (by omega:op=4\/op=5\/op=6\/op=7\/op=8)with rfl|rfl|rfl|rfl|rfl
        ·have B:=uB ht (hb (by decide));rw[apd hN A B];rfl
        ·have B:=uB ht (hb (by decide));rw[ajt hN A B];rfl
        ·have B:=uB ht (hb (by decide));rw[ajW hN A B];rfl
        ·have B:=uB ht (hb (by decide));rw[ai1 hN A B];rfl
        ·rw[aor lZ A];rfl
       ·rw[hk,show((2:Int)==2)=true from rfl];simp only[cond_true];rw[aqm N (jG ht hk) (l9 ha hk) λh8=>l9 (hb h8) hk];rfl
       ·rw[hk,show((3:Int)==2)=false from rfl,show((3:Int)==3)=true from rfl];simp only[cond_true,cond_false];rw[ai5 N A.n1 A.n2 (λh8=>by have B:=uB ht (hb h8);exact⟨B.n1,B.n2⟩) (by omega)];rfl
 ·rw[asf (show op>10 by omega),Bool.or_true];rfl
theorem anR(N:Nat)(hN:9223372036854775808<N){t:aE}{v:aG}(ht:cZ t=true):JY N t v=some (mI t v):=by
 unfold JY Mh mI;cases hk:t.aO==2 with
 |false=>rfl
 |true=>
  have F:=jG ht (by simpa using hk);simp only[cond_true];rw[Ei N F,arx,G7 N hN,OY F];rfl
theorem ap8(N:Nat)(hN:9223372036854775808<N)(t u:aE)(v:aG):DR N t u v=some (yu t u v):=by
 have lZ:2147483648<N:=Nat.lt_trans (by decide) hN;unfold DR yu;rw[qJ,qJ];cases ht:cZ t with
 |false=>rfl
 |true=>
  cases hu:cZ u with
  |false=>rfl
  |true=>
   simp only[arx,cond_true,cond_false,Bool.not_true,Bool.or_self];rw[s7 N lZ t v ht];cases hv:dG t v with
   |false=>rfl
   |true=>
    simp only[arx,cond_true,Bool.not_true,cond_false];have V:=aa4 ht hv;have n1:=V.n1;have n2:=V.n2;have d1:=V.d1;have d2:=V.d2;rw[anR N hN ht,arx];rcases kinds hu with hk|hk|hk
    ·rw[hk];rfl
    ·have F:=jG hu hk;have S:=FE F;have s:=OY F;have M:=zF n1 n2 (show-1073741824<=fb u by omega) S.2;have e:((mI t v).xN*Int64.ofInt (fb u)).toInt=(mI t v).xN.toInt*fb u:=by rw[ry]<;>rw[s]<;>omega
     rw[hk,show((2:Int)==3)=false from rfl,show((2:Int)==2)=true from rfl];simp only[cond_true,cond_false];rw[Ei N F,arx,Ow N _ _ _ (by omega) (by omega) (by rw[e];omega) (by rw[e];omega),arx,e];have r:=Nt (n:=(mI t v).xN.toInt*fb u) (d:=(mI t v).xD.toInt) (how:=u.bN) (B:=4611686018427387904) (by omega) (by decide) (by omega) (by omega);have r2:=yz (n:=(mI t v).xN.toInt*fb u) (d:=(mI t v).xD.toInt) (how:=u.bN) (by omega) (by omega) (by omega);rw[Aj N F _ (by rw[r2];omega) (by rw[r2];omega),r2];rfl
    ·rw[hk,show((3:Int)==3)=true from rfl];simp only[cond_true];rw[Nn N _ _ (by omega) (by omega) (by omega)];rfl
theorem XN(N:Nat)(t:aE):Ag N t=some (rU t):=by
 unfold Ag rU;rw[qJ];cases cZ t<;>rfl
theorem Z5(N:Nat)(hN:2147483648<N)(t:aE):BW N t=some (jR t):=by
 unfold BW jR IM;rw[qJ];cases ht:cZ t with
 |false=>rfl
 |true=>
  simp only[arx,cond_true,cond_false,Bool.not_true];cases hk:t.aO==2 with
  |false=>
   simp only[cond_false];rw[s7 N hN t _ ht,show Int64.ofInt 1=(1:Int64)from rfl];cases dG t ⟨1,1⟩<;>rfl
  |true=>
   have F:=jG ht (by simpa using hk);simp only[cond_true];rw[Ei N F,arx,s7 N hN t _ ht];cases dG t ⟨Int64.ofInt (fb t),1⟩<;>rfl
structure En(N:Nat)(e:an):Prop where
 hN:9223372036854775808<N
 sz:8*SizeOf.sizeOf e+16<=N
 v:vE e
 t:W wT e<=800000
theorem En.arg{N:Nat}{e x:an}(h:En N e)(hx:x∈e.ax):En N x:=
 ⟨h.hN,by have:=h.sz;have:=gY hx;omega,h.v.arg hx,by have:=h.t;rw[de]at this;have:=lP (w:=wT) hx;omega⟩
theorem En.A2{N:Nat}{e:an}(h:En N e):2147483648<N:=Nat.lt_trans (by decide) h.hN
theorem En.node{N:Nat}{e:an}(h:En N e):xG e:=Mk (h.v e (yF e))
inductive Sh:an->Prop
 |leaf {op:Int} {n v t l i}:op=1\/op=2\/op=3->Sh ⟨op,n,v,t,l,i,[]⟩
 |one {op:Int} {n v t l i a}:op=8\/op=12\/op=18->Sh ⟨op,n,v,t,l,i,[a]⟩
 |two {op:Int} {n v t l i a b}:op=4\/op=5\/op=6\/op=7\/op=9\/op=10\/op=13\/op=14\/op=15\/op=16\/op=17->Sh ⟨op,n,v,t,l,i,[a,b]⟩
 |three {op:Int} {n v t l i c a b}:op=11->Sh ⟨op,n,v,t,l,i,[c,a,b]⟩
theorem GN{n:Nat}{l:asn an}(h:l.length=n):(n=0->l=[])/\(n=1->∃a,l=[a])/\(n=2->∃a b,l=[a,b])/\(n=3->∃a b c,l=[a,b,c]):=by
 subst h
 match l with
 |[]=>simp
 |[a]=>simp
 |[a,b]=>simp
 |[a,b,c]=>simp
 |_::_::_::_::_=>simp
theorem gF{e:an}(h:xG e):Sh e:=by
 have hp:=h.plain;have hr:=h.aaI;unfold nw at hp;unfold mr at hr;simp only[arA,decide_eq_true_eq,beq_iff_eq]at hp hr;obtain⟨o1,o2,_⟩:=hp;obtain⟨r,_⟩:=hr;obtain⟨op,n,v,t,l,i,al⟩:=e;simp only at o1 o2 r;have key:∀k:Nat,kK op=(k:Int)->al.length=k:=λk hk=>by rw[hk]at r;omega
 rcases (by omega:(op=1\/op=2\/op=3)\/(op=8\/op=12\/op=18)\/(op=4\/op=5\/op=6\/op=7\/op=9\/op=10\/op=13\/op=14\/op=15\/op=16\/op=17)\/op=11)with h1|h1|h1|h1
 ·have:=(GN (key 0 (by rcases h1 with rfl|rfl|rfl<;>rfl))).1 rfl;subst this;exact .leaf h1
 ·obtain⟨a,rfl⟩:=(GN (key 1 (by rcases h1 with rfl|rfl|rfl<;>rfl))).2.1 rfl;exact .one h1
 ·obtain⟨a,b,rfl⟩:=(GN (key 2 (by rcases h1 with rfl|rfl|rfl|rfl|rfl|rfl|rfl|rfl|rfl|rfl|rfl<;>rfl))).2.2.1 rfl;exact .two h1
 ·obtain⟨c,a,b,rfl⟩:=(GN (key 3 (by subst h1;rfl))).2.2.2 rfl;exact .three h1
theorem I0{N:Nat}{a:an}(b:an)(h:3*SizeOf.sizeOf a+3<=N):qY N a b=some (kF a b):=by
 obtain⟨c,e1,e2⟩:=VR N (SizeOf.sizeOf a+1) a b N (asl _) (by omega);unfold qY TJ;rw[e1,arx,e2];rfl
theorem My{N:Nat}{a:an}(b:an)(h:3*SizeOf.sizeOf a+3<=N):lJ N a b=some (kF a b):=Yp N (SizeOf.sizeOf a+1) a b N (asl _) (by omega)
def kn(t:Kn):iN:=⟨t.yT,t.dQ⟩
theorem Zn(a b:aE):((a.aO==b.aO)&&((a.bo==b.bo)&&((a.bE==b.bE)&&((a.bN==b.bN)&&((a.bM==b.bM)&&true)))))=fx a b:=rfl
theorem X3(N:Nat):∀(n:Nat)(e:an),SizeOf.sizeOf e<n->vE e->∀d,SizeOf.sizeOf e<d->lV N d e=some (du e)
 |0,_,h,_,_,_=>absurd h (ar0 _)
 |n+1,e,hn,hv,d,hd=>by
  obtain⟨d,rfl⟩:∃k,d=k+1:=⟨d-1,by omega⟩;have ih:∀x∈e.ax,lV N d x=some (du x):=λx hx=>X3 N n x (by have:=gY hx;omega) (hv.arg hx) d (by have:=gY hx;omega);have sh:=gF (Mk (hv e (yF e)));rw[lV,Yk];clear hn hd hv;cases sh with
  |leaf h=>rcases h with rfl|rfl|rfl<;>rfl
  |one h=>
   rename_i a
   have i1:=ih a (by simp);rcases h with rfl|rfl|rfl
   ·show Option.bind (lV N d a) _=some (du a);rw[i1];rfl
   ·rfl
   ·rfl
  |two h=>
   rename_i a b
   have i1:=ih a (by simp);have i2:=ih b (by simp);have J:Option.bind (lV N d a) (λv12=>(some b).bind λaF=>(lV N d aF).bind λaV=>(zG N v12 aV).bind λbt=>some bt)=some (bif (du a).dQ then du a else du b):=by
    rw[i1,arx,arx,i2,arx];unfold zG;cases (du a).dQ<;>rfl
   rcases h with rfl|rfl|rfl|rfl|rfl|rfl|rfl|rfl|rfl|rfl|rfl
   ·exact J
   ·exact J
   ·exact J
   ·exact J
   ·exact J
   ·exact J
   all_goals rfl
  |three h=>
   rename_i c a b
   have i1:=ih a (by simp);have i2:=ih b (by simp);subst h;show Option.bind (lV N d a) (λv6=>Option.bind (bif v6.dQ then Option.bind (lV N d b) _ else some false) _)=some (bif true&&((du a).dQ&&((du b).dQ&&fx (du a).yT (du b).yT))then du a else mc);rw[i1,arx,i2];generalize du a=A;generalize du b=B;obtain⟨At,Ak⟩:=A;obtain⟨Bt,Bk⟩:=B;dsimp only;cases Ak with
   |false=>rfl
   |true=>
    simp only[cond_true,arx,Zn];cases Bk<;>cases fx At Bt<;>rfl
theorem Iy(N:Nat):∀(n:Nat)(e:an),SizeOf.sizeOf e<n->vE e->∀d,2*SizeOf.sizeOf e<d->my N d e=some (kn (du e))
 |0,_,h,_,_,_=>absurd h (ar0 _)
 |n+1,e,hn,hv,d,hd=>by
  have hp:0<SizeOf.sizeOf e:=by cases e;simp only[an.mk.sizeOf_spec];omega
  obtain⟨d,rfl⟩:∃k,d=k+2:=⟨d-2,by omega⟩;have ih:∀x∈e.ax,∀k,k=d\/k=d+1->my N k x=some (kn (du x)):=λx hx k hk=>Iy N n x (by have:=gY hx;omega) (hv.arg hx) k (by have:=gY hx;omega);have sh:=gF (Mk (hv e (yF e)));rw[my,Yk];clear hn hd hv hp;cases sh with
  |leaf h=>rcases h with rfl|rfl|rfl<;>rfl
  |one h=>
   rename_i a
   have i1:=ih a (by simp) _ (.inr rfl);rcases h with rfl|rfl|rfl
   ·show Option.bind (my N (d+1) a) _=some (kn (du a));rw[i1];rfl
   ·rfl
   ·rfl
  |two h=>
   rename_i a b
   have i1:=ih a (by simp) _ (.inl rfl);have i2:=ih b (by simp) _ (.inl rfl);have J:Option.bind (tL N (d+1) a b) (λv8=>some v8)=some (kn (bif (du a).dQ then du a else du b)):=by
    rw[tL,i1,arx,i2,arx];generalize du a=A;obtain⟨At,Ak⟩:=A;cases Ak<;>rfl
   rcases h with rfl|rfl|rfl|rfl|rfl|rfl|rfl|rfl|rfl|rfl|rfl
   ·exact J
   ·exact J
   ·exact J
   ·exact J
   ·exact J
   ·exact J
   all_goals rfl
  |three h=>
   rename_i c a b
   have i1:=ih a (by simp) _ (.inr rfl);have i2:=ih b (by simp) _ (.inr rfl);subst h;show Option.bind (my N (d+1) a) (λv10=>Option.bind (my N (d+1) b) _)=some (kn (bif true&&((du a).dQ&&((du b).dQ&&fx (du a).yT (du b).yT))then du a else mc));rw[i1,arx,i2];generalize du a=A;generalize du b=B;obtain⟨At,Ak⟩:=A;obtain⟨Bt,Bk⟩:=B;unfold kn;dsimp only;simp only[arx,Zn];cases Ak<;>cases Bk<;>cases fx At Bt<;>rfl
theorem JK{N:Nat}{e:an}(h:En N e):qV N e=some (du e):=X3 N _ e (asl _) h.v N (by have:=h.sz;omega)
theorem YE{N:Nat}{e:an}(h:En N e):z8 N e=some (kn (du e)):=Iy N _ e (asl _) h.v N (by have:=h.sz;omega)
theorem apY{N:Nat}{a b:an}(h:En N a)(h2:En N b):Fc N a b=some (kn (xJ a b)):=by
 obtain⟨M,hM⟩:∃M,N=M+1:=⟨N-1,by have:=h.sz;omega⟩;unfold Fc;have e1:=Iy N _ a (asl _) h.v M (by have:=h.sz;omega);have e2:=Iy N _ b (asl _) h2.v M (by have:=h2.sz;omega);have:tL N (M+1) a b=some (kn (xJ a b)):=by
  rw[tL,e1,arx,e2,arx];unfold xJ;generalize du a=A;obtain⟨At,Ak⟩:=A;cases Ak<;>rfl
 rw[<-hM]at this;exact this
theorem afP{N:Nat}{a b:an}(h:En N a)(h2:En N b):((qV N a).bind λv7=>(some b).bind λv8=>(qV N v8).bind λv9=>(zG N v7 v9).bind λv10=>some v10)=some (xJ a b):=by
 rw[JK h,arx,arx,JK h2,arx];unfold zG xJ;cases (du a).dQ<;>rfl
theorem W7(i:Nat):decide ((i:Int)>0)= !(i==0):=by
 by_cases h:i=0
 ·subst h;rfl
 ·rw[asf (by omega),beq_false_of_ne h];rfl
theorem ahA{N:Nat}{e:an}(h:En N e)(k:Kn)(i:Nat):TG N e k (i:Int)=some (sf e k i):=by
 have A:∀x∈e.ax,En N x:=λx hx=>h.arg hx;have sh:=gF h.node;clear h;unfold sf;cases sh with
 |leaf h=>rcases h with rfl|rfl|rfl<;>rfl
 |one h=>
  rename_i a
  have i1:=JK (A a (by simp));rcases h with rfl|rfl|rfl
  ·rfl
  ·show Option.bind (qV N a) _=some (du a);rw[i1];rfl
  ·rfl
 |two h=>
  rename_i a b
  have i1:=afP (A a (by simp)) (A b (by simp));rcases h with rfl|rfl|rfl|rfl|rfl|rfl|rfl|rfl|rfl|rfl|rfl
  ·rfl
  ·rfl
  ·rfl
  ·rfl
  ·rfl
  ·rfl
  ·exact i1
  ·exact i1
  ·exact i1
  ·rfl
  ·rfl
 |three h=>
  subst h;show(bif decide ((i:Int)>0)then some k else some ET)=some (bif (false||(false||(true&& !(i==0))))then k else mc);rw[W7];cases i==0<;>rfl
theorem alB{N:Nat}{e:an}(h:En N e)(k:Kn)(i:Nat):Tw N e (i:Int) (kn k)=some (kn (sf e k i)):=by
 have A:∀x∈e.ax,En N x:=λx hx=>h.arg hx;have sh:=gF h.node;clear h;unfold sf;cases sh with
 |leaf h=>rcases h with rfl|rfl|rfl<;>rfl
 |one h=>
  rename_i a
  have i1:=YE (A a (by simp));rcases h with rfl|rfl|rfl
  ·rfl
  ·show Option.bind (z8 N a) _=some (kn (du a));rw[i1];rfl
  ·rfl
 |two h=>
  rename_i a b
  have i1:Option.bind (Fc N a b) (λv8=>some v8)=some (kn (xJ a b)):=by rw[apY (A a (by simp)) (A b (by simp))];rfl
  rcases h with rfl|rfl|rfl|rfl|rfl|rfl|rfl|rfl|rfl|rfl|rfl
  ·rfl
  ·rfl
  ·rfl
  ·rfl
  ·rfl
  ·rfl
  ·exact i1
  ·exact i1
  ·exact i1
  ·rfl
  ·rfl
 |three h=>
  subst h;show Option.bind (some (decide ((i:Int)>0))) (λv4=>bif v4 then some (kn k)else some La)=some (kn (bif (false||(false||(true&& !(i==0))))then k else mc));rw[W7];cases i==0<;>rfl
def cH(e:an):aH×Bool:=match kS e with|some l=>(l,true)|none=>(dq,false)
theorem M3(N:Nat)(e:an):sw N e=some (cH e):=by
 unfold sw cH kS Qr;rw[dU,arx];cases e.ar==2 with
 |true=>rfl
 |false=>
  simp only[cond_false];cases (e.ar==1&&e.ay.aO==3)<;>rfl
theorem PW(N:Nat)(e:an):nc N e=some (iY e):=by
 unfold nc iY;rw[dU];rfl
theorem Iw(N:Nat)(e:an):∃l,sT N e=some (l,(cH e).2)/\((cH e).2=true->l=(cH e).1):=by
 unfold sT;rw[PW,arx];unfold cH kS;have hw:iY e=(e.ar==1&&e.ay.aO==3):=rfl;cases h2:e.ar==2 with
 |true=>
  have:(e.ar==1)=false:=by
   have:e.ar=2:=by simpa using h2
   rw[this];rfl
  rw[hw,this];exact⟨e.aM,rfl,λ_=>rfl⟩
 |false=>
  rw[hw];cases (e.ar==1&&e.ay.aO==3)with
  |true=>exact⟨_,rfl,λ_=>rfl⟩
  |false=>exact⟨e.aM,rfl,λh=>by cases h⟩
theorem VL(e:an):(cH e).1.xL.length<=wT e:=by
 unfold cH;cases h:kS e with
 |some l=>exact PJ h
 |none=>exact Nat.zero_le _
theorem GO(e:an):wT e<=W wT e:=by rw[de];exact asd _ _
def jg(f g:aH):aH×Bool:=match nx f g with| .ok d=>(d,true)| .error _=>(dq,false)
theorem Of(e:Er):(e.code==0)=false:=by cases e<;>rfl
theorem YA(N:Nat)(hN:1000000<N){f g:aH}(h:f.xL.length+g.xL.length<=800000):BY N f g=some (jg f g):=by
 unfold BY jg nx;rw[Tb N (by omega) g (-1) (show g.xL.length<=1000000000 by omega),arx];cases hs:kJ g (-1)with
 |error e=>show(bif e.code !=0 then _ else _)=_;rw[Er.ne e];rfl
 |ok q=>
  have hl:=Bl hs;show(bif (0:Int) !=0 then _ else Option.bind (yn N f q) _)=_;rw[abw N (by omega) f q (by omega) (by omega)]
  change _=some (match lM f q with| .ok d=>(d,true)| .error _=>(dq,false))
  cases lM f q with
  |error e=>show some (dq,e.code==0)=_;rw[Of]
  |ok d=>rfl
theorem aar(N:Nat)(hN:1000000<N){f g:aH}(h:f.xL.length+g.xL.length<=800000):yy N f g=some (jg f g):=by
 unfold yy jg nx;rw[PK N (by omega) g (-1) (show g.xL.length<=1000000000 by omega),arx];cases hs:kJ g (-1)with
 |error e=>show(bif e.code !=0 then _ else _)=_;rw[Er.ne e];rfl
 |ok q=>
  have hl:=Bl hs;show(bif (0:Int) !=0 then _ else Option.bind (wq N f q) _)=_;rw[abV N hN f q (by omega)]
  change _=some (match lM f q with| .ok d=>(d,true)| .error _=>(dq,false))
  cases lM f q with
  |error e=>show some (dq,e.code==0)=_;rw[Of]
  |ok d=>rfl
theorem NP(a b c:Bool):(bif a then(bif b then some c else some false)else some false)=some (a&&(b&&c)):=by cases a<;>cases b<;>rfl
theorem UX(a b:an):Uc a b=bif (cH a).2&&(cH b).2 then(bif (jg (cH a).1 (cH b).1).2&&(jg (cH a).1 (cH b).1).1.xL.length==0 then some (jg (cH a).1 (cH b).1).1.xK else none)else none:=by
 unfold Uc cH;cases kS a with
 |none=>rfl
 |some f=>
  cases kS b with
  |none=>rfl
  |some g=>
   show(match nx f g with| .ok d=>bif d.xL.length==0 then some d.xK else none| .error _=>none)=bif (jg f g).2&&(jg f g).1.xL.length==0 then some (jg f g).1.xK else none;unfold jg;cases nx f g with
   |error e=>rfl
   |ok d=>cases h:d.xL.length==0<;>simp [h]
theorem ab6(N:Nat)(op s:Int):zO N op s=some (vH op s):=by
 unfold zO vH;cases op==13<;>cases op==14<;>rfl
theorem YT(N:Nat){op:Int}(s:Int)(h:op=13\/op=14\/op=15):EK N op s=some (vH op s):=by
 unfold EK vH;rcases h with rfl|rfl|rfl
 ·rfl
 ·cases h:decide (s<=0)<;>simp [h]
 ·cases h:s==0<;>simp [h]
theorem amq(k:Int)(f:Int->asp (Bool×Bool)):(bif decide (k<0)then f (-1)else bif decide (k>0)then f 1 else f 0)=f (nM k 0):=by
 unfold nM;cases decide (k<0)with
 |true=>rfl
 |false=>cases decide (k>0)<;>rfl
structure sy(N:Nat)(a b:an):Prop where
 l:En N a
 r:En N b
 t:W wT a+W wT b<=800000
theorem En.two{N:Nat}{op:Int}{n v t l i a b}(h:En N ⟨op,n,v,t,l,i,[a,b]⟩):sy N a b:=
 ⟨h.arg (by simp),h.arg (by simp),by have:=h.t;rw[de]at this;have e:WL wT [a,b]=W wT a+W wT b:=gv wT a b;change _+WL wT [a,b]<=_ at this;omega⟩
theorem sy.len{N:Nat}{a b:an}(h:sy N a b):(cH a).1.xL.length+(cH b).1.xL.length<=800000:=by
 have:=VL a;have:=VL b;have:=GO a;have:=GO b;have:=h.t;omega
theorem En.sF{N:Nat}{e:an}(h:En N e):1000000<N:=Nat.lt_trans (by decide) h.hN
theorem En.eq{N:Nat}{e:an}(h:En N e):3*SizeOf.sizeOf e+3<=N:=by have:=h.sz;omega
theorem T1{N:Nat}{op:Int}{n v t l i a b}(h:sy N a b)(hv:cZ a.ay=true\/a.ar≠1):xg N ⟨op,n,v,t,l,i,[a,b]⟩=some (oS op a b):=by
 have J:FI N a b ⟨op,n,v,t,l,i,[a,b]⟩=some (bif kF a b then(!(op==13),true)else(false,false)):=by
  unfold FI;rw[I0 b h.l.eq,arx];cases kF a b<;>rfl
 unfold xg oS;show Option.bind (bif (a.ar==1)then(bif (b.ar==1)then some (fx a.ay b.ay)else some false)else some false) _=_;rw[NP,arx,UX];cases hc:(a.ar==1&&(b.ar==1&&fx a.ay b.ay))with
 |true=>
  have ha:a.ar=1:=by simp only[arA,beq_iff_eq]at hc;exact hc.1
  have ht:cZ a.ay=true:=by
   rcases hv with hv|hv
   ·exact hv
   ·exact absurd ha hv
  simp only[cond_true];rw[abx N h.l.A2 _ _ _ ht,arx,ab6];rfl
 |false=>
  simp only[cond_false];rw[M3,arx,M3,arx,dU,arx];cases (cH a).2&&(cH b).2 with
  |false=>exact J
  |true=>
   simp only[cond_true];rw[YA N h.l.sF h.len,arx,oO,dU,arx];cases (jg (cH a).1 (cH b).1).2&&(jg (cH a).1 (cH b).1).1.xL.length==0 with
   |false=>exact J
   |true=>
    simp only[cond_true,ab6,arx];exact amq _ λs=>some (vH op s,true)
theorem UC{N:Nat}{op:Int}{n v t l i a b}(h:sy N a b)(ho:op=13\/op=14\/op=15):xM N ⟨op,n,v,t,l,i,[a,b]⟩=some (oS op a b):=by
 have J:Hl N a b ⟨op,n,v,t,l,i,[a,b]⟩=some (bif kF a b then(!(op==13),true)else(false,false)):=by
  unfold Hl;rw[My b h.l.eq,arx];cases kF a b<;>rfl
 have J3:∀s,EW N ⟨op,n,v,t,l,i,[a,b]⟩ s=some (vH op s,true):=λs=>by
  unfold EW;rw[YT N s ho];rfl
 unfold xM oS;show Option.bind (bif (a.ar==1)then(bif (b.ar==1)then some (fx a.ay b.ay)else some false)else some false) _=_;rw[NP,arx,UX];cases hc:(a.ar==1&&(b.ar==1&&fx a.ay b.ay))with
 |true=>
  simp only[cond_true];rw[QI N h.l.A2,arx,YT N _ ho];rfl
 |false=>
  simp only[cond_false];obtain⟨l1,e1,f1⟩:=Iw N a;obtain⟨l2,e2,f2⟩:=Iw N b;rw[e1,arx,e2,arx,dU,arx];dsimp only;cases hb:(cH a).2&&(cH b).2 with
  |false=>exact J
  |true=>
   rw[arA]at hb;rw[f1 hb.1,f2 hb.2];simp only[cond_true];rw[aar N h.l.sF h.len,arx,oO,dU,arx];cases (jg (cH a).1 (cH b).1).2&&(jg (cH a).1 (cH b).1).1.xL.length==0 with
   |false=>exact J
   |true=>
    simp only[cond_true];unfold IS;simp only[J3];generalize (jg (cH a).1 (cH b).1).1.xK.toInt=k;unfold nM;by_cases h1:k<0
    ·rw[asf h1,asg (show ¬k>0 by omega)];rfl
    ·rw[asg h1];cases decide (k>0)<;>rfl
theorem ap3{e:an}(h:xG e):cZ e.ay=true\/e.ar≠1:=by
 have ht:=h.typed;unfold lQ at ht;by_cases h1:e.ar=1
 ·rw[h1]at ht;simp at ht;exact .inl ht.1
 ·exact .inr h1
theorem alU{op:Int}{l:asn an}:∀{k i:Nat}{x:an},vU op k l=true->l[i]?=some x->fc x=mw op (k+i):=by
 induction l with
 |nil=>intro k i x _ h;cases h
 |cons a l ih=>
  intro k i x h hx;rw[vU,arA,beq_iff_eq]at h;cases i with
  |zero=>cases hx;exact h.1
  |succ i=>
   rw[ar9]at hx;have:=ih h.2 hx
   rwa [show k+1+i=k+(i+1) by omega]at this
theorem xG.arg{e x:an}{i:Nat}(h:xG e)(hx:e.ax[i]?=some x):fc x=mw e.ar i:=by
 have ht:=h.typed;unfold lQ at ht;rw[arA]at ht;have:=alU ht.2 hx
 rwa [arS]at this
theorem aaM{e:an}(h:fc e=true):13<=e.ar:=by
 unfold fc at h;simp only[arA,decide_eq_true_eq]at h;exact h.1
theorem Jo(x:Bool)(q r:Bool×Bool):(Option.bind (bif q.2 then(bif (q.1==x)then some true else(bif r.2 then some (r.1==x)else some false))else(bif r.2 then some (r.1==x)else some false)) λv12=>
 bif v12 then some (x,true)else Option.bind (bif x then(bif q.2 then some (false,r.2)else some (false,false))else(bif q.2 then some (r.2,r.2)else some (false,false))) λaF=>some (aF.1,aF.2))
 =some (bif (q.2&&q.1==x)||(r.2&&r.1==x)then(x,true)else(!x&&(q.2&&r.2),q.2&&r.2)):=by
 obtain⟨q1,q2⟩:=q;obtain⟨r1,r2⟩:=r;cases x<;>cases q1<;>cases q2<;>cases r1<;>cases r2<;>rfl
theorem acw(q:Bool×Bool):(Option.bind (bif q.2 then some (!q.1)else some false) λv6=>some (v6,q.2))=some (q.2&& !q.1,q.2):=by
 obtain⟨q1,q2⟩:=q;cases q1<;>cases q2<;>rfl
theorem Wn(N:Nat):∀(n:Nat)(e:an),SizeOf.sizeOf e<n->En N e->fc e=true->∀d,SizeOf.sizeOf e<d->ly N d e=some (fy e)
 |0,_,h,_,_,_,_=>absurd h (ar0 _)
 |n+1,e,hn,hE,hc,d,hd=>by
  obtain⟨d,rfl⟩:∃k,d=k+1:=⟨d-1,by omega⟩;have ih:∀x∈e.ax,fc x=true->ly N d x=some (fy x):=λx hx oy=>Wn N n x (by have:=gY hx;omega) (hE.arg hx) oy d (by have:=gY hx;omega);have hA:∀(i:Nat)(x:an),e.ax[i]?=some x->fc x=mw e.ar i:=λi x hx=>hE.node.arg hx;have hT:∀x∈e.ax,cZ x.ay=true\/x.ar≠1:=λx hx=>ap3 (hE.arg hx).node;have sh:=gF hE.node;have ho:=aaM hc;rw[ly,adn];clear hn hd;cases sh with
  |leaf h=>exfalso;dsimp only at ho;omega
  |one h=>
   rename_i a
   have gu:=ho;dsimp only at gu;rcases h with rfl|rfl|rfl
   ·exact absurd gu (by decide)
   ·exact absurd gu (by decide)
   ·have i1:=ih a (by simp) ((hA 0 a rfl).trans rfl);show((ly N d a).bind λv5=>Option.bind (bif v5.2 then some (!v5.1)else some false) λv6=>some (v6,v5.2))=some ((fy a).2&& !(fy a).1,(fy a).2);rw[i1,arx];exact acw _
  |two h=>
   rename_i a b
   have gu:=ho;dsimp only at gu;have t1:=hT a (by simp);rcases h with rfl|rfl|rfl|rfl|rfl|rfl|rfl|rfl|rfl|rfl|rfl
   ·exact absurd gu (by decide)
   ·exact absurd gu (by decide)
   ·exact absurd gu (by decide)
   ·exact absurd gu (by decide)
   ·exact absurd gu (by decide)
   ·exact absurd gu (by decide)
   ·show Option.bind (xg N _) _=some (oS 13 a b);rw[T1 hE.two t1];rfl
   ·show Option.bind (xg N _) _=some (oS 14 a b);rw[T1 hE.two t1];rfl
   ·show Option.bind (xg N _) _=some (oS 15 a b);rw[T1 hE.two t1];rfl
   ·have i1:=ih a (by simp) ((hA 0 a rfl).trans rfl);have i2:=ih b (by simp) ((hA 1 b rfl).trans rfl);show Option.bind (ly N d a) (λv9=>Option.bind (ly N d b) _)=_;rw[i1,arx,i2,arx];exact Jo false _ _
   ·have i1:=ih a (by simp) ((hA 0 a rfl).trans rfl);have i2:=ih b (by simp) ((hA 1 b rfl).trans rfl);show Option.bind (ly N d a) (λv9=>Option.bind (ly N d b) _)=_;rw[i1,arx,i2,arx];exact Jo true _ _
  |three h=>exfalso;dsimp only at ho;omega
theorem WW(N:Nat):∀(n:Nat)(e:an),SizeOf.sizeOf e<n->En N e->fc e=true->∀d,SizeOf.sizeOf e<d->mL N d e=some (fy e)
 |0,_,h,_,_,_,_=>absurd h (ar0 _)
 |n+1,e,hn,hE,hc,d,hd=>by
  obtain⟨d,rfl⟩:∃k,d=k+1:=⟨d-1,by omega⟩;have ih:∀x∈e.ax,fc x=true->mL N d x=some (fy x):=λx hx oy=>WW N n x (by have:=gY hx;omega) (hE.arg hx) oy d (by have:=gY hx;omega);have hA:∀(i:Nat)(x:an),e.ax[i]?=some x->fc x=mw e.ar i:=λi x hx=>hE.node.arg hx;have sh:=gF hE.node;have ho:=aaM hc;rw[mL,adn];clear hn hd;cases sh with
  |leaf h=>exfalso;dsimp only at ho;omega
  |one h=>
   rename_i a
   have gu:=ho;dsimp only at gu;rcases h with rfl|rfl|rfl
   ·exact absurd gu (by decide)
   ·exact absurd gu (by decide)
   ·have i1:=ih a (by simp) ((hA 0 a rfl).trans rfl);show((mL N d a).bind λv5=>Option.bind (bif v5.2 then some (!v5.1)else some false) λv6=>some (v6,v5.2))=some ((fy a).2&& !(fy a).1,(fy a).2);rw[i1,arx];exact acw _
  |two h=>
   rename_i a b
   have gu:=ho;dsimp only at gu;rcases h with rfl|rfl|rfl|rfl|rfl|rfl|rfl|rfl|rfl|rfl|rfl
   ·exact absurd gu (by decide)
   ·exact absurd gu (by decide)
   ·exact absurd gu (by decide)
   ·exact absurd gu (by decide)
   ·exact absurd gu (by decide)
   ·exact absurd gu (by decide)
   ·show Option.bind (xM N _) _=some (oS 13 a b);rw[UC hE.two (by omega)];rfl
   ·show Option.bind (xM N _) _=some (oS 14 a b);rw[UC hE.two (by omega)];rfl
   ·show Option.bind (xM N _) _=some (oS 15 a b);rw[UC hE.two (by omega)];rfl
   ·have i1:=ih a (by simp) ((hA 0 a rfl).trans rfl);have i2:=ih b (by simp) ((hA 1 b rfl).trans rfl);show Option.bind (mL N d a) (λv9=>Option.bind (mL N d b) _)=_;rw[i1,arx,i2,arx];exact Jo false _ _
   ·have i1:=ih a (by simp) ((hA 0 a rfl).trans rfl);have i2:=ih b (by simp) ((hA 1 b rfl).trans rfl);show Option.bind (mL N d a) (λv9=>Option.bind (mL N d b) _)=_;rw[i1,arx,i2,arx];exact Jo true _ _
  |three h=>exfalso;dsimp only at ho;omega
theorem Hm{N:Nat}{e:an}(h:En N e)(hc:fc e=true):yU N e=some (fy e):=Wn N _ e (asl _) h hc N (by have:=h.sz;omega)
theorem E7{N:Nat}{e:an}(h:En N e)(hc:fc e=true):xO N e=some (fy e):=WW N _ e (asl _) h hc N (by have:=h.sz;omega)
def cq(r:asp (an×Bool))(o:asp an):Prop:=∃x,r=some (x,o.isSome)/\∀y,o=some y->x=y
theorem cq.no{r:asp (an×Bool)}{x:an}(h:r=some (x,false)):cq r none:=⟨x,h,λ_ h=>by cases h⟩
theorem cq.yes{r:asp (an×Bool)}{x:an}(h:r=some (x,true)):cq r (some x):=⟨x,h,λ_ h=>by cases h;rfl⟩
theorem cq.ite{r:asp (an×Bool)}{x:an}{b:Bool}(h:r=some (x,b)):cq r (bif b then some x else none):=by
 cases b
 ·exact .no h
 ·exact .yes h
theorem cq.eta{r:asp (an×Bool)}{o:asp an}(h:cq r o):cq (Option.bind r λv=>some (v.1,v.2)) o:=by
 obtain⟨x,rfl,h2⟩:=h;exact⟨x,rfl,h2⟩
theorem cq.lin{l:aH}{o:X aH}(r:asp (an×Bool))(h:r=some (n5 (sY dq o).1,(sY dq o).2==0)):cq r (ki o):=by
 cases o with
 |ok l=>exact .yes h
 |error e=>exact .no (h.trans (by show some (_,e.code==0)=_;rw[Of]))
theorem cq.jg{f g:aH}{r:asp (an×Bool)}(h:r=some (n5 (jg f g).1,(jg f g).2)):cq r (ki (nx f g)):=by
 unfold Go.Proofs.YtdchibpnjpnkoaaGreatDoor.jg at h;cases hm:nx f g with
 |ok l=>rw[hm]at h;exact .yes h
 |error e=>rw[hm]at h;exact .no h
theorem cq.BT{o:X aH}{r:asp (an×Bool)}(h:r=some (n5 (sY dq o).1,(sY dq o).2==0)):cq r (ki o):=cq.lin (l:=dq) r h
theorem cq.val{t:aE}{o:aG×Int}{r:asp (an×Bool)}(h:r=some (iu t o.1,o.2==0)):cq r (q8 t o):=cq.ite h
abbrev nd(e:an)(k:Kn):fm:=⟨e,k⟩
theorem aqw(t:aE):fx t t=true:=afz.2 rfl
theorem OJ(a b c:Bool):(bif a then some true else(bif b then some true else some c))=some (a||(b||c)):=by cases a<;>cases b<;>rfl
theorem yZ(N:Nat)(hN:9223372036854775808<N)(op:Int)(a b:an):cq (Option.bind (bif (a.ar !=1)then some true else(bif (b.ar !=1)then some true else some (!fx a.ay b.ay))) λv6=>bif v6 then some (fA,false)else (F9 N op a.ay a.bD b.bD).bind λv7=>(sr N a.ay v7.1).bind λv8=>some (v8,(v7.2==0)))
 (bif a.ar==1&&(b.ar==1&&fx a.ay b.ay)then q8 a.ay (s9 op a.ay a.bD b.bD)else none):=by
 rw[OJ,arx,ai7 N hN,arx];unfold sr;rw[arx,gV,gV];cases a.ar==1 with
 |false=>exact .no rfl
 |true=>
  cases b.ar==1 with
  |false=>exact .no rfl
  |true=>
   cases fx a.ay b.ay with
   |false=>exact .no rfl
   |true=>exact .val rfl
theorem Zw:aI ((1:Nat)-(1:Int))=0:=by decide
theorem V2:aI ((2:Nat)-(1:Int))=1:=by decide
theorem amG{N:Nat}{e:an}(h:En N e)(k:Kn):cq (Gn N (nd e k)) (vl e):=by
 have hN:=h.hN;have sh:=gF h.node;clear h;unfold Gn vl;cases sh with
 |leaf h=>rcases h with rfl|rfl|rfl<;>exact .no rfl
 |one h=>
  rename_i a
  rcases h with rfl|rfl|rfl
  ·have c:=yZ N hN 8 a a;have e1:aI ((([a]:asn an).length:Int)-1)=0:=Zw;dsimp only at e1 ⊢;rw[e1];have c2:(a.ar==1&&(a.ar==1&&fx a.ay a.ay))=(true&&a.ar==1):=by rw[aqw];cases a.ar==1<;>rfl
   rw[c2]at c;exact c
  ·exact .no rfl
  ·exact .no rfl
 |two h=>
  rename_i a b
  have e1:aI ((([a,b]:asn an).length:Int)-1)=1:=V2;dsimp only at e1 ⊢;rw[e1];rcases h with rfl|rfl|rfl|rfl|rfl|rfl|rfl|rfl|rfl|rfl|rfl
  ·exact yZ N hN 4 a b
  ·exact yZ N hN 5 a b
  ·exact yZ N hN 6 a b
  ·exact yZ N hN 7 a b
  ·exact yZ N hN 9 a b
  ·exact yZ N hN 10 a b
  all_goals exact .no rfl
 |three h=>subst h;exact .no rfl
theorem AR(N:Nat)(hN:9223372036854775808<N)(op:Int)(a b q:an):cq (Option.bind (bif (a.ar !=1)then some true else((some b).bind λv9=>(bif (v9.ar !=1)then some true else some (!fx a.ay v9.ay)))) λv6=>bif v6 then some (q,false)else (xB N op a.ay a.bD b.bD).bind λv7=>(rE N a.ay v7.1).bind λv8=>some (v8,(v7.2==0)))
 (bif a.ar==1&&(b.ar==1&&fx a.ay b.ay)then q8 a.ay (s9 op a.ay a.bD b.bD)else none):=by
 rw[arx,OJ,arx,aaB N hN,arx];unfold rE;rw[arx,gV,gV];cases a.ar==1 with
 |false=>exact .no rfl
 |true=>
  cases b.ar==1 with
  |false=>exact .no rfl
  |true=>
   cases fx a.ay b.ay with
   |false=>exact .no rfl
   |true=>exact .val rfl
theorem akX{N:Nat}{e:an}(h:En N e):cq (Jm N e) (vl e):=by
 have hN:=h.hN;have sh:=gF h.node;clear h;unfold Jm vl;cases sh with
 |leaf h=>rcases h with rfl|rfl|rfl<;>exact .no rfl
 |one h=>
  rename_i a
  rcases h with rfl|rfl|rfl
  ·show cq (Option.bind (some (a.ar==1)) _) (bif true&&a.ar==1 then _ else none);rw[arx];cases a.ar==1 with
   |false=>exact .no rfl
   |true=>
    show cq (Option.bind (xB N 8 a.ay a.bD a.bD) _) (q8 a.ay (s9 8 a.ay a.bD a.bD));rw[aaB N hN];exact .val rfl
  ·exact .no rfl
  ·exact .no rfl
 |two h=>
  rename_i a b
  rcases h with rfl|rfl|rfl|rfl|rfl|rfl|rfl|rfl|rfl|rfl|rfl
  ·exact AR N hN 4 a b _
  ·exact AR N hN 5 a b _
  ·exact AR N hN 6 a b _
  ·exact AR N hN 7 a b _
  ·exact AR N hN 9 a b _
  ·exact AR N hN 10 a b _
  all_goals exact .no rfl
 |three h=>subst h;exact .no rfl
theorem aiE{N:Nat}{e:an}(h:En N e)(k:Kn):cq (LG N (nd e k)) (uV e):=by
 have hN:=h.hN;have A:∀x∈e.ax,En N x:=λx hx=>h.arg hx;have sh:=gF h.node;clear h;unfold LG uV;cases sh with
 |leaf h=>rcases h with rfl|rfl|rfl<;>exact .no rfl
 |one h=>
  rename_i nm v t l i a
  rcases h with rfl|rfl|rfl
  ·exact .no rfl
  ·show cq (bif a.ar==1 then Option.bind (EJ N a.ay t a.bD) _ else Option.bind (qV N a) _) (bif a.ar==1 then q8 t (yu a.ay t a.bD)else bif (du a).dQ&&fx (du a).yT t then some a else none);rw[aqr N hN,JK (A a (by simp)),arx,arx];cases a.ar==1 with
   |true=>exact .val rfl
   |false=>
    show cq (Option.bind (bif (du a).dQ then some (fx (du a).yT t)else some false) λv6=>some (a,v6)) _;rw[dU];exact .ite rfl
  ·exact .no rfl
 |two h=>rcases h with rfl|rfl|rfl|rfl|rfl|rfl|rfl|rfl|rfl|rfl|rfl<;>exact .no rfl
 |three h=>subst h;exact .no rfl
theorem arc{N:Nat}{e:an}(h:En N e):cq (J1 N e) (uV e):=by
 have hN:=h.hN;have A:∀x∈e.ax,En N x:=λx hx=>h.arg hx;have sh:=gF h.node;clear h;unfold J1 uV;cases sh with
 |leaf h=>rcases h with rfl|rfl|rfl<;>exact .no rfl
 |one h=>
  rename_i nm v t l i a
  rcases h with rfl|rfl|rfl
  ·exact .no rfl
  ·show cq (bif a.ar==1 then Option.bind (DR N a.ay t a.bD) _ else Option.bind (z8 N a) _) (bif a.ar==1 then q8 t (yu a.ay t a.bD)else bif (du a).dQ&&fx (du a).yT t then some a else none);rw[ap8 N hN,YE (A a (by simp)),arx,arx];cases a.ar==1 with
   |true=>exact .val rfl
   |false=>
    show cq (Option.bind (bif (du a).dQ then some (fx (du a).yT t)else some false) λv6=>some (a,v6)) _;rw[dU];exact .ite rfl
  ·exact .no rfl
 |two h=>rcases h with rfl|rfl|rfl|rfl|rfl|rfl|rfl|rfl|rfl|rfl|rfl<;>exact .no rfl
 |three h=>subst h;exact .no rfl
theorem ag1(e:an):(cH e).2=(e.ar==2||iY e):=by
 unfold cH kS iY;cases e.ar==2 with
 |true=>rfl
 |false=>cases (e.ar==1&&e.ay.aO==3)<;>rfl
theorem abX(op:Int)(a b:an):B8 op a b=bif (cH a).2&&((cH b).2&&(a.ar==2||b.ar==2))then ki (bif op==5 then nx (cH a).1 (cH b).1 else lM (cH a).1 (cH b).1)else none:=by
 unfold B8 cH;cases kS a with
 |none=>rfl
 |some f=>cases kS b<;>rfl
theorem abf{N:Nat}{op:Int}{n v t l i a b}(h:sy N a b)(ho:op=4\/op=5):cq (JG N ⟨op,n,v,t,l,i,[a,b]⟩) (B8 op a b):=by
 rw[abX];unfold JG;show cq ((sw N a).bind λv3=>Option.bind (sw N b) _) _;rw[M3,arx,M3,arx];have e1:(bif (cH a).2 then(bif (cH b).2 then(bif (a.ar !=2)then some (b.ar !=2)else some false)else some true)else some true)=some (!((cH a).2&&((cH b).2&&(a.ar==2||b.ar==2)))):=by
   rw[gV,gV];cases (cH a).2<;>cases (cH b).2<;>cases a.ar==2<;>cases b.ar==2<;>rfl
 rw[e1,arx];cases (cH a).2&&((cH b).2&&(a.ar==2||b.ar==2))with
 |false=>exact .no rfl
 |true=>
  simp only[Bool.not_true,cond_false,cond_true];have hl:=h.len;have hn:=h.l.sF;rcases ho with rfl|rfl
  ·show cq (Option.bind (yn N (cH a).1 (cH b).1) _) (ki (lM (cH a).1 (cH b).1));rw[abw N (by omega) _ _ (by omega) (by omega)];exact .BT rfl
  ·show cq (Option.bind (BY N (cH a).1 (cH b).1) _) (ki (nx (cH a).1 (cH b).1));rw[YA N hn hl];exact .jg rfl
theorem aqU{N:Nat}{a b:an}(h:sy N a b):cq (JQ N a b) (rB a b):=by
 have J:∀x y:an,W wT x<=800000->cq (Hz N x y) (bif x.ar==2&&iY y then ki (kJ x.aM y.bD.xN)else none):=λx y hx=>by
  unfold Hz iY;rw[OJ,arx,gV,gV,gV];cases x.ar==2 with
  |false=>exact .no rfl
  |true=>
   cases y.ar==1 with
   |false=>exact .no rfl
   |true=>
    cases y.ay.aO==3 with
    |false=>exact .no rfl
    |true=>
     show cq (Option.bind (uW N x.aM y.bD.xN) _) (ki (kJ x.aM y.bD.xN));rw[Tb N (by have:=h.l.sF;omega) _ _ (arQ (GO x) (arQ hx (by decide)))];exact .BT rfl
 have ht:=h.t;have j1:=J a b (by omega);have j2:=J b a (by omega);unfold JQ rB;cases h1:a.ar==1 with
 |true=>
  have ha:a.ar=1:=by simpa using h1
  have ha2:(a.ar==2)=false:=by rw[ha];rfl
  rw[ha2];simp only[cond_true,Bool.false_and,cond_false];rw[Bool.and_comm];exact j2
 |false=>
  have hw:iY a=false:=by unfold iY;rw[h1];rfl
  rw[hw];simp only[cond_false,Bool.false_and];exact j1
theorem am8{N:Nat}{e:an}(h:En N e)(k:Kn):cq (Kg N (nd e k)) (we e):=by
 have A:∀x∈e.ax,En N x:=λx hx=>h.arg hx;have sF:=h.sF;have B:∀a b,e.ax=[a,b]->sy N a b:=λa b Oj=>by
  obtain⟨op,n,v,t,l,i,al⟩:=e;cases Oj
  exact h.two
 have sh:=gF h.node;clear h;unfold Kg we;cases sh with
 |leaf h=>
  rcases h with rfl|rfl|rfl
  ·exact .no rfl
  ·rename_i n v t l i
   show cq (Option.bind (sr N zj ⟨l.xK,1⟩) λv2=>Option.bind (bif ((l.xL.length:Int)==0)then(bif decide (-2147483647<=l.xK.toInt)then some (decide (l.xK.toInt<=2147483647))else some false)else some false) λv3=>some (v2,v3)) (bif l.xL.length==0&&(decide (-2147483647<=l.xK.toInt)&&decide (l.xK.toInt<=2147483647))then some (iu zj ⟨l.xK,1⟩)else none);rw[NP,oO];exact .ite rfl
  ·exact .no rfl
 |one h=>
  rename_i n v t l i a
  rcases h with rfl|rfl|rfl
  ·show cq (bif a.ar==2 then Option.bind (uW N a.aM (-1)) _ else some (fA,false)) (bif true&&a.ar==2 then ki (kJ a.aM (-1))else none);rw[Tb N (by omega) _ _ (arQ (GO a) (arQ (A a (by simp)).t (by decide)))];cases a.ar==2 with
   |false=>exact .no rfl
   |true=>exact .BT rfl
  ·exact .no rfl
  ·exact .no rfl
 |two h=>
  rename_i n v t l i a b
  have E:=B a b rfl;rcases h with rfl|rfl|rfl|rfl|rfl|rfl|rfl|rfl|rfl|rfl|rfl
  ·exact(abf E (.inl rfl)).eta
  ·exact(abf E (.inr rfl)).eta
  ·exact(aqU E).eta
  all_goals exact .no rfl
 |three h=>subst h;exact .no rfl
theorem ahb(xa xb wa wb:Bool)(ha:wa=true->xa=false)(hb:wb=true->xb=false):(bif xa||wa then(bif xb||wb then(bif wa then some wb else some false)else some true)else some true)=some (!((xa||wa)&&((xb||wb)&&(xa||xb)))):=by
 revert ha hb;cases xa<;>cases xb<;>cases wa<;>cases wb<;>simp
theorem alJ{xa xb wa wb:Bool}(h:((xa||wa)&&((xb||wb)&&(xa||xb)))=false):(xa&&wb)=false/\(wa&&xb)=false:=by
 revert h;cases xa<;>cases xb<;>cases wa<;>cases wb<;>simp
theorem afB{N:Nat}{e:an}(h:En N e):cq (Jp N e) (we e):=by
 have A:∀x∈e.ax,En N x:=λx hx=>h.arg hx;have sF:=h.sF;have B:∀a b,e.ax=[a,b]->sy N a b:=λa b Oj=>by
  obtain⟨op,n,v,t,l,i,al⟩:=e;cases Oj
  exact h.two
 have sh:=gF h.node;clear h;unfold Jp we;cases sh with
 |leaf h=>
  rcases h with rfl|rfl|rfl
  ·exact .no rfl
  ·rename_i n v t l i
   show cq (Option.bind (rE N zj ⟨l.xK,1⟩) λv2=>Option.bind (bif ((l.xL.length:Int)==0)then(bif decide (l.xK.toInt<=2147483647)then some (decide (-2147483647<=l.xK.toInt))else some false)else some false) λv3=>some (v2,v3)) (bif l.xL.length==0&&(decide (-2147483647<=l.xK.toInt)&&decide (l.xK.toInt<=2147483647))then some (iu zj ⟨l.xK,1⟩)else none);rw[NP,oO,Bool.and_comm (decide (l.xK.toInt<=2147483647))];exact .ite rfl
  ·exact .no rfl
 |one h=>
  rename_i n v t l i a
  rcases h with rfl|rfl|rfl
  ·show cq (Option.bind (ue N a.aM (-1)) λv5=>Option.bind (bif a.ar==2 then some (v5.2==0)else some false) λv6=>some (n5 v5.1,v6)) (bif true&&a.ar==2 then ki (kJ a.aM (-1))else none);rw[PK N (by omega) _ _ (arQ (GO a) (arQ (A a (by simp)).t (by decide))),arx];cases a.ar==2 with
   |false=>exact .no rfl
   |true=>exact .BT rfl
  ·exact .no rfl
  ·exact .no rfl
 |two h=>
  rename_i n v t l i a b
  have E:=B a b rfl;have hl:=E.len;have core:∀op:Int,op=4\/op=5\/op=6->cq (
   (sT N a).bind λv10=>
   (sT N b).bind λv11=>
   Option.bind (bif v10.2 then(bif v11.2 then (nc N a).bind λv12=>(bif v12 then (nc N b).bind λaF=>some aF else some false)else some true)else some true) λaV=>
   bif aV then some ((⟨op,n,v,t,l,i,[a,b]⟩:an),false)
   else bif (op==4)then (wq N v10.1 v11.1).bind λbt=>some ((⟨(2:Int),(bs []),bW,cY,bt.1,[],[]⟩:an),(bt.2==0))
   else bif (op==5)then (yy N v10.1 v11.1).bind λbK=>some ((⟨(2:Int),(bs []),bW,cY,bK.1,[],[]⟩:an),bK.2)
   else (nc N a).bind λbC=>Option.bind (bif bC then some false else (nc N b).bind λaR=>some (!aR)) λbX=>
    bif bX then some ((⟨op,n,v,t,l,i,[a,b]⟩:an),false)
    else (nc N a).bind λv20=>bif v20 then yP N a v11.1.xK v11.1.xL else yP N b v10.1.xK v10.1.xL)
   (bif op==4||op==5 then B8 op a b else bif op==6 then rB a b else none):=λop ho=>by
   obtain⟨l1,e1,f1⟩:=Iw N a;obtain⟨l2,e2,f2⟩:=Iw N b;rw[e1,arx,e2,arx,PW,PW,abX];simp only[arx];have hf:∀x:an,(cH x).2=(x.ar==2||iY x):=ag1;have hx:∀x:an,iY x=true->(x.ar==2)=false:=λx hx=>by
    unfold iY at hx;rw[arA,beq_iff_eq]at hx;rw[hx.1];rfl
   have e3:(bif (cH a).2 then(bif (cH b).2 then(bif iY a then some (iY b)else some false)else some true)else some true)=some (!((cH a).2&&((cH b).2&&(a.ar==2||b.ar==2)))):=by
    rw[hf a,hf b];exact ahb _ _ _ _ (hx a) (hx b)
   rw[e3,arx];cases hc:(cH a).2&&((cH b).2&&(a.ar==2||b.ar==2))with
   |false=>
    rcases ho with rfl|rfl|rfl
    ·exact .no rfl
    ·exact .no rfl
    ·refine(?_:cq _ (rB a b));have:rB a b=none:=by
      unfold rB;rw[hf a,hf b]at hc;obtain⟨z1,z2⟩:=alJ hc;rw[z1,z2];rfl
     rw[this];exact .no rfl
   |true=>
    rw[arA,arA]at hc;obtain⟨c1,c2,c3⟩:=hc;have g1:=f1 c1;have g2:=f2 c2;subst g1;subst g2;simp only[Bool.not_true,cond_false];rcases ho with rfl|rfl|rfl
    ·show cq (Option.bind (wq N (cH a).1 (cH b).1) _) (ki (lM (cH a).1 (cH b).1));rw[abV N (by omega) _ _ (by omega)];exact .BT rfl
    ·show cq (Option.bind (yy N (cH a).1 (cH b).1) _) (ki (nx (cH a).1 (cH b).1));rw[aar N sF hl];exact .jg rfl
    ·have sc:∀x y:an,(x.ar==2)=true->(cH x).1.xL.length<=800000->cq (yP N y (cH x).1.xK (cH x).1.xL) (ki (kJ x.aM y.bD.xN)):=λx y oy hlen=>by
      have hfx:(cH x).1=x.aM:=by unfold cH kS;rw[oy];rfl
      rw[hfx]at hlen ⊢;unfold yP;have hsc:=PK N (by omega) x.aM y.bD.xN (arQ hlen (by omega));have agF:ue N (⟨x.aM.xK,x.aM.xL⟩:aH) y.bD.xN=some (sY dq (kJ x.aM y.bD.xN)):=hsc;rw[agF];exact .BT rfl
     refine(?_:cq (Option.bind (bif iY a then some false else some (!iY b)) _) (rB a b));unfold rB;have ha:=hx a;have hb:=hx b;rw[hf a]at c1;rw[hf b]at c2;cases wa:iY a with
     |true=>
      rw[ha wa]at c3 ⊢;simp only[Bool.false_or]at c3;rw[c3];exact sc b a c3 (by omega)
     |false=>
      rw[wa]at c1;simp only[Bool.or_false]at c1;rw[c1];cases wb:iY b with
      |true=>exact sc a b c1 (by omega)
      |false=>exact .no rfl
  rcases h with rfl|rfl|rfl|rfl|rfl|rfl|rfl|rfl|rfl|rfl|rfl
  ·exact core 4 (by omega)
  ·exact core 5 (by omega)
  ·exact core 6 (by omega)
  all_goals exact .no rfl
 |three h=>subst h;exact .no rfl
theorem U7{r:asp (Bool×Bool)}{p:Bool×Bool}{a b:an}(h:r=some p):cq (Option.bind r λv3=>bif v3.1 then (some a).bind λv4=>some (v4,v3.2)else (some b).bind λv5=>some (v5,v3.2)) (bif true&&p.2 then some (bif p.1 then a else b)else none):=by
 subst h;obtain⟨p1,p2⟩:=p;cases p1
 ·exact .ite rfl
 ·exact .ite rfl
theorem ajw{N:Nat}{e:an}(h:En N e)(k:Kn):cq (JB N (nd e k)) (wG e):=by
 have A:∀x∈e.ax,En N x:=λx hx=>h.arg hx;have hA:∀(i:Nat)(x:an),e.ax[i]?=some x->fc x=mw e.ar i:=λi x hx=>h.node.arg hx;have sh:=gF h.node;clear h;unfold JB wG;cases sh with
 |leaf h=>rcases h with rfl|rfl|rfl<;>exact .no rfl
 |one h=>rcases h with rfl|rfl|rfl<;>exact .no rfl
 |two h=>rcases h with rfl|rfl|rfl|rfl|rfl|rfl|rfl|rfl|rfl|rfl|rfl<;>exact .no rfl
 |three h=>
  rename_i c a b
  subst h;exact U7 (Hm (A c (by simp)) ((hA 0 c rfl).trans rfl))
theorem amD{N:Nat}{e:an}(h:En N e):cq (LC N e) (wG e):=by
 have A:∀x∈e.ax,En N x:=λx hx=>h.arg hx;have hA:∀(i:Nat)(x:an),e.ax[i]?=some x->fc x=mw e.ar i:=λi x hx=>h.node.arg hx;have sh:=gF h.node;clear h;unfold LC wG;cases sh with
 |leaf h=>rcases h with rfl|rfl|rfl<;>exact .no rfl
 |one h=>rcases h with rfl|rfl|rfl<;>exact .no rfl
 |two h=>rcases h with rfl|rfl|rfl|rfl|rfl|rfl|rfl|rfl|rfl|rfl|rfl<;>exact .no rfl
 |three h=>
  rename_i c a b
  subst h;exact U7 (E7 (A c (by simp)) ((hA 0 c rfl).trans rfl))
theorem rM{r:asp Bool}{p:Bool}{a:an}(h:r=some p):cq (Option.bind r λv8=>some (a,v8)) (bif true&&p then some a else none):=by
 subst h;exact .ite rfl
theorem an2{N:Nat}{e:an}(h:En N e)(k:Kn):cq (Kw N (nd e k)) (vb e):=by
 have A:∀x∈e.ax,3*SizeOf.sizeOf x+3<=N:=λx hx=>(h.arg hx).eq;have sh:=gF h.node;clear h;unfold Kw vb;cases sh with
 |leaf h=>rcases h with rfl|rfl|rfl<;>exact .no rfl
 |one h=>rcases h with rfl|rfl|rfl<;>exact .no rfl
 |two h=>
  rename_i a b
  have s:=I0 b (A a (by simp));rcases h with rfl|rfl|rfl|rfl|rfl|rfl|rfl|rfl|rfl|rfl|rfl
  ·exact .no rfl
  ·exact .no rfl
  ·exact .no rfl
  ·exact .no rfl
  ·exact rM s
  ·exact rM s
  ·exact .no rfl
  ·exact .no rfl
  ·exact .no rfl
  ·exact rM s
  ·exact rM s
 |three h=>
  rename_i c a b
  subst h;exact rM (I0 b (A a (by simp)))
theorem amE{N:Nat}{e:an}(h:En N e):cq (Kv N e) (vb e):=by
 have A:∀x∈e.ax,3*SizeOf.sizeOf x+3<=N:=λx hx=>(h.arg hx).eq;have sh:=gF h.node;clear h;unfold Kv vb;cases sh with
 |leaf h=>rcases h with rfl|rfl|rfl<;>exact .no rfl
 |one h=>rcases h with rfl|rfl|rfl<;>exact .no rfl
 |two h=>
  rename_i a b
  have s:=My b (A a (by simp));rcases h with rfl|rfl|rfl|rfl|rfl|rfl|rfl|rfl|rfl|rfl|rfl
  ·exact .no rfl
  ·exact .no rfl
  ·exact .no rfl
  ·exact .no rfl
  ·exact rM s
  ·exact rM s
  ·exact .no rfl
  ·exact .no rfl
  ·exact .no rfl
  ·exact rM s
  ·exact rM s
 |three h=>
  rename_i c a b
  subst h;exact rM (My b (A a (by simp)))
theorem aa9(N:Nat)(e:an):k9 N e=some (gj e):=by
 unfold k9 gj;rw[Wb,arx];show Option.bind (bif e.ar==1 then some (rm e.bD (rU e.ay))else some false) _=_;rw[dU,arx]
theorem PU(N:Nat)(e:an):qL N e=some (gj e):=by
 unfold qL gj;rw[XN,arx];show Option.bind (bif e.ar==1 then some (rm e.bD (rU e.ay))else some false) _=_;rw[dU,arx]
theorem ajU{N:Nat}{e:an}(h:En N e)(k:Kn):cq (LB N (nd e k)) (um e):=by
 have sh:=gF h.node;clear h;unfold LB um;cases sh with
 |leaf h=>rcases h with rfl|rfl|rfl<;>exact .no rfl
 |one h=>rcases h with rfl|rfl|rfl<;>exact .no rfl
 |two h=>
  rename_i a b
  have za:=aa9 N a;have zb:=aa9 N b;rcases h with rfl|rfl|rfl|rfl|rfl|rfl|rfl|rfl|rfl|rfl|rfl
  ·show cq ((k9 N b).bind λv5=>bif v5 then some (a,true)else (k9 N a).bind λv6=>some (b,v6)) (bif gj b then some a else bif gj a then some b else none);rw[za,zb];cases gj b
   ·exact .ite rfl
   ·exact .yes rfl
  ·show cq ((k9 N b).bind λv5=>bif v5 then some (a,true)else Option.bind (tU N 8 [b]) λv8=>(k9 N a).bind λv6=>some (v8,v6)) (bif gj b then some a else bif gj a then some (cV 8 [b])else none);rw[za,zb];cases gj b
   ·exact .ite rfl
   ·exact .yes rfl
  ·show cq ((k9 N b).bind λv5=>bif v5 then some (b,true)else (k9 N a).bind λv6=>some (a,v6)) (bif gj b then some b else bif gj a then some a else none);rw[za,zb];cases gj b
   ·exact .ite rfl
   ·exact .yes rfl
  ·show cq ((k9 N a).bind λv6=>some (a,v6)) (bif gj a then some a else none);rw[za];exact .ite rfl
  all_goals exact .no rfl
 |three h=>subst h;exact .no rfl
theorem apk(N:Nat)(a e b:an)(v:Bool):BM N a e b v=some (bif v then(a,true)else bif e.ar==4&&gj a then(b,true)else bif e.ar==5&&gj a then(cV 8 [b],true)else bif e.ar==6&&gj b then(b,true)else(a,(e.ar==6&&gj a)||(!(e.ar==6)&&(e.ar==7&&gj a)))):=by
 unfold BM;rw[PU,PU,arx,arx];generalize gj a=za;generalize gj b=zb;generalize (e.ar==4)=x4;generalize (e.ar==5)=x5;generalize (e.ar==6)=x6;generalize (e.ar==7)=x7;cases v with
 |true=>rfl
 |false=>cases x4<;>cases x5<;>cases x6<;>cases x7<;>cases za<;>cases zb<;>rfl
theorem ahY{N:Nat}{e:an}(h:En N e):cq (Kx N e) (um e):=by
 have sh:=gF h.node;clear h;unfold Kx um;cases sh with
 |leaf h=>rcases h with rfl|rfl|rfl<;>exact .no rfl
 |one h=>rcases h with rfl|rfl|rfl<;>exact .no rfl
 |two h=>
  rename_i n v t l i a b
  simp only[List.getElem?_cons_zero,ar9,arx,PU,apk];generalize hzb:gj b=zb;generalize hza:gj a=za;rcases h with rfl|rfl|rfl|rfl|rfl|rfl|rfl|rfl|rfl|rfl|rfl
  ·cases zb
   ·cases za
    ·exact .no rfl
    ·exact .yes rfl
   ·exact .yes rfl
  ·cases zb
   ·cases za
    ·exact .no rfl
    ·exact .yes rfl
   ·exact .yes rfl
  ·cases zb
   ·cases za
    ·exact .no rfl
    ·exact .yes rfl
   ·exact .yes rfl
  ·cases za
   ·cases zb<;>exact .no rfl
   ·cases zb<;>exact .yes rfl
  all_goals exact .no rfl
 |three h=>subst h;exact .no rfl
theorem acv(N:Nat)(hN:2147483648<N)(e:an):uO N e=some (lr e):=by
 unfold uO lr;rw[ab8 N hN,arx,gV];cases e.ar==1 with
 |false=>rfl
 |true=>
  show Option.bind (bif (jR e.ay).2==0 then some (rm e.bD (jR e.ay).1)else some false) _=_;rw[dU,arx];rfl
theorem ZF(N:Nat)(hN:2147483648<N)(e:an):uP N e=some (lr e):=by
 unfold uP lr;rw[Z5 N hN,arx,gV];cases e.ar==1 with
 |false=>rfl
 |true=>
  show Option.bind (bif (jR e.ay).2==0 then some (rm e.bD (jR e.ay).1)else some false) _=_;rw[dU,arx];rfl
theorem anJ{N:Nat}{e:an}(h:En N e)(k:Kn):cq (Na N (nd e k)) (vD e):=by
 have hN:=h.A2;have sh:=gF h.node;clear h;unfold Na vD;cases sh with
 |leaf h=>rcases h with rfl|rfl|rfl<;>exact .no rfl
 |one h=>rcases h with rfl|rfl|rfl<;>exact .no rfl
 |two h=>
  rename_i a b
  have za:=acv N hN a;have zb:=acv N hN b;rcases h with rfl|rfl|rfl|rfl|rfl|rfl|rfl|rfl|rfl|rfl|rfl
  ·exact .no rfl
  ·exact .no rfl
  ·show cq ((uO N b).bind λv5=>bif v5 then some (a,true)else Option.bind ((uO N a).bind λv6=>some v6) λv7=>some (b,v7)) (bif lr b then some a else bif lr a then some b else none);rw[za,zb];cases lr b
   ·exact .ite rfl
   ·exact .yes rfl
  ·show cq ((uO N b).bind λv5=>bif v5 then some (a,true)else some (b,false)) (bif lr b then some a else none);rw[zb];cases lr b
   ·exact .no rfl
   ·exact .yes rfl
  all_goals exact .no rfl
 |three h=>subst h;exact .no rfl
theorem aeJ{N:Nat}{e:an}(h:En N e):cq (Km N e) (vD e):=by
 have hN:=h.A2;have sh:=gF h.node;clear h;unfold Km vD;cases sh with
 |leaf h=>rcases h with rfl|rfl|rfl<;>exact .no rfl
 |one h=>rcases h with rfl|rfl|rfl<;>exact .no rfl
 |two h=>
  rename_i a b
  have za:=ZF N hN a;have zb:=ZF N hN b;rcases h with rfl|rfl|rfl|rfl|rfl|rfl|rfl|rfl|rfl|rfl|rfl
  ·exact .no rfl
  ·exact .no rfl
  ·show cq ((uP N b).bind λv5=>bif v5 then some (a,true)else Option.bind ((uP N a).bind λv6=>some v6) λv7=>some (b,v7)) (bif lr b then some a else bif lr a then some b else none);rw[za,zb];cases lr b
   ·exact .ite rfl
   ·exact .yes rfl
  ·show cq ((uP N b).bind λv5=>bif v5 then some (a,true)else some (b,false)) (bif lr b then some a else none);rw[zb];cases lr b
   ·exact .no rfl
   ·exact .yes rfl
  all_goals exact .no rfl
 |three h=>subst h;exact .no rfl
theorem af1{N:Nat}{e:an}(h:En N e)(k:Kn):cq (H6 N (nd e k)) (vW e k):=by
 have hN:=h.A2;have A:∀x∈e.ax,3*SizeOf.sizeOf x+3<=N:=λx hx=>(h.arg hx).eq;have sh:=gF h.node;clear h;unfold H6 vW;cases sh with
 |leaf h=>rcases h with rfl|rfl|rfl<;>exact .no rfl
 |one h=>rcases h with rfl|rfl|rfl<;>exact .no rfl
 |two h=>
  rename_i a b
  have s:=I0 b (A a (by simp));rcases h with rfl|rfl|rfl|rfl|rfl|rfl|rfl|rfl|rfl|rfl|rfl
  ·exact .no rfl
  ·show cq (Option.bind (bif k.dQ then (qY N a b).bind λv7=>some (!v7)else some true) λv8=>bif v8 then some (fA,false)else (CS N k.yT).bind λv9=>some (iu k.yT v9,true)) (bif true&&(k.dQ&&kF a b)then some (iu k.yT (rU k.yT))else none);rw[s,Wb];cases k.dQ
   ·exact .no rfl
   ·cases kF a b
    ·exact .no rfl
    ·exact .yes rfl
  ·exact .no rfl
  ·show cq (Option.bind (bif k.dQ then (qY N a b).bind λv7=>some (!v7)else some true) λv8=>bif v8 then some (fA,false)else (Bv N k.yT).bind λv11=>Option.bind (bif (k.yT.aO !=2)then some (v11.2==0)else some false) λaF=>some (iu k.yT v11.1,aF)) (bif true&&(k.dQ&&kF a b)then(bif !(k.yT.aO==2)&&(jR k.yT).2==0 then some (iu k.yT (jR k.yT).1)else none)else none);rw[s,ab8 N hN];cases k.dQ
   ·exact .no rfl
   ·cases kF a b
    ·exact .no rfl
    ·show cq (Option.bind (bif !(k.yT.aO==2)then some ((jR k.yT).2==0)else some false) λaF=>some (iu k.yT (jR k.yT).1,aF)) _;rw[dU];exact .ite rfl
  all_goals exact .no rfl
 |three h=>subst h;exact .no rfl
theorem aod{N:Nat}{e:an}(h:En N e)(k:Kn):cq (Jh N e (kn k)) (vW e k):=by
 have hN:=h.A2;have A:∀x∈e.ax,3*SizeOf.sizeOf x+3<=N:=λx hx=>(h.arg hx).eq;have sh:=gF h.node;clear h;obtain⟨kt,kk⟩:=k;unfold Jh vW kn;cases kk with
 |false=>
  cases sh with
  |leaf h=>rcases h with rfl|rfl|rfl<;>exact .no rfl
  |one h=>rcases h with rfl|rfl|rfl<;>exact .no rfl
  |two h=>rcases h with rfl|rfl|rfl|rfl|rfl|rfl|rfl|rfl|rfl|rfl|rfl<;>exact .no rfl
  |three h=>subst h;exact .no rfl
 |true=>
  cases sh with
  |leaf h=>rcases h with rfl|rfl|rfl<;>exact .no rfl
  |one h=>rcases h with rfl|rfl|rfl<;>exact .no rfl
  |two h=>
   rename_i a b
   have s:=My b (A a (by simp));rcases h with rfl|rfl|rfl|rfl|rfl|rfl|rfl|rfl|rfl|rfl|rfl
   ·exact .no rfl
   ·show cq (Option.bind ((lJ N a b).bind λv7=>some (!v7)) λv8=>bif v8 then some (_,false)else (Ag N kt).bind λv9=>some (iu kt v9,true)) (bif true&&(true&&kF a b)then some (iu kt (rU kt))else none);rw[s,XN];cases kF a b
    ·exact .no rfl
    ·exact .yes rfl
   ·exact .no rfl
   ·show cq (Option.bind ((lJ N a b).bind λv7=>some (!v7)) λv8=>bif v8 then some (_,false)else (BW N kt).bind λv11=>Option.bind (bif (kt.aO !=2)then some (v11.2==0)else some false) λaF=>some (iu kt v11.1,aF)) (bif true&&(true&&kF a b)then(bif !(kt.aO==2)&&(jR kt).2==0 then some (iu kt (jR kt).1)else none)else none);rw[s,Z5 N hN];cases kF a b
    ·exact .no rfl
    ·show cq (Option.bind (bif !(kt.aO==2)then some ((jR kt).2==0)else some false) λaF=>some (iu kt (jR kt).1,aF)) _;rw[dU];exact .ite rfl
   all_goals exact .no rfl
  |three h=>subst h;exact .no rfl
theorem ZI{N:Nat}{a:an}(h:En N a):(a.ax.length:Int)=kK a.ar:=h.v.nV a (yF a)
theorem pf{N:Nat}{a:an}(h:En N a)(ho:(a.ar==8)=true\/(a.ar==18)=true):∃x,a.ax=[x]:=by
 refine Q6 (ZI h) ?_;rcases ho with ho|ho<;>(rw[beq_iff_eq]at ho;rw[ho];rfl)
theorem Nz{N:Nat}{a:an}(h:En N a)(ho:(a.ar==13)=true\/(a.ar==14)=true):∃x y,a.ax=[x,y]:=by
 have hr:=ZI h;have:kK a.ar=2:=by rcases ho with ho|ho<;>(rw[beq_iff_eq]at ho;rw[ho];rfl)
 rw[this]at hr;exact(GN (show a.ax.length=2 by omega)).2.2.1 rfl
theorem anW(k:Kn)(z:Bool):(bif k.dQ then(bif (k.yT.aO==2)then(bif (k.yT.bM !=2)then some true else some z)else some z)else some true)=some (!(k.dQ&&(!(k.yT.aO==2)||k.yT.bM==2))||z):=by
 rw[gV];cases k.dQ<;>cases k.yT.aO==2<;>cases k.yT.bM==2<;>cases z<;>rfl
theorem anN{N:Nat}{e:an}(h:En N e)(k:Kn):cq (M1 N (nd e k)) (tX e k):=by
 have A:∀x∈e.ax,En N x:=λx hx=>h.arg hx;have sh:=gF h.node;clear h;unfold M1 tX;rw[anW,arx];dsimp only;cases (k.dQ&&(!(k.yT.aO==2)||k.yT.bM==2))with
 |false=>exact .no rfl
 |true=>
  cases sh with
  |leaf h=>rcases h with rfl|rfl|rfl<;>exact .no rfl
  |one h=>
   rename_i a
   have e1:aI ((([a]:asn an).length:Int)-1)=0:=Zw;dsimp only at e1 ⊢;rw[e1];rcases h with rfl|rfl|rfl
   ·show cq (Option.bind (some (a.ar==8)) λv5=>bif v5 then Option.bind (a.ax[0]?) λv6=>some (v6,true)else _) (bif true&&a.ar==8 then a.ax[0]? else none);cases ho:a.ar==8 with
    |false=>exact .no rfl
    |true=>
     obtain⟨x,hx⟩:=pf (A a (by simp)) (.inl ho);rw[hx];exact .yes rfl
   ·exact .no rfl
   ·exact .no rfl
  |two h=>
   rename_i a b
   have e1:aI ((([a,b]:asn an).length:Int)-1)=1:=V2;dsimp only at e1 ⊢;rw[e1];rcases h with rfl|rfl|rfl|rfl|rfl|rfl|rfl|rfl|rfl|rfl|rfl
   ·show cq (Option.bind (some (b.ar==8)) λv7=>bif v7 then Option.bind (b.ax[0]?) λv8=>some (cV 5 [a,v8],true)else Option.bind (some (a.ar==8)) λv10=>bif v10 then Option.bind (a.ax[0]?) λv11=>some (cV 5 [b,v11],true)else some (fA,false))
     (bif b.ar==8 then(b.ax[0]?).map λx=>cV 5 [a,x]else bif a.ar==8 then(a.ax[0]?).map λx=>cV 5 [b,x]else none)
    cases ho:b.ar==8 with
    |true=>
     obtain⟨x,hx⟩:=pf (A b (by simp)) (.inl ho);rw[hx];exact .yes rfl
    |false=>
     cases vp:a.ar==8 with
     |true=>
      obtain⟨x,hx⟩:=pf (A a (by simp)) (.inl vp);rw[hx];exact .yes rfl
     |false=>exact .no rfl
   ·show cq (Option.bind (some (b.ar==8)) λaF=>bif aF then Option.bind (b.ax[0]?) λaV=>some (cV 4 [a,aV],true)else some (fA,false))
     (bif true&&b.ar==8 then(b.ax[0]?).map λx=>cV 4 [a,x]else none)
    cases ho:b.ar==8 with
    |true=>
     obtain⟨x,hx⟩:=pf (A b (by simp)) (.inl ho);rw[hx];exact .yes rfl
    |false=>exact .no rfl
   all_goals exact .no rfl
  |three h=>
   rename_i c a b
   subst h;have e1:aI ((([c,a,b]:asn an).length:Int)-1)=2:=by
    have:aI ((3:Nat)-(1:Int))=2:=by decide
    exact this
   dsimp only at e1 ⊢;rw[e1];exact .no rfl
theorem akG{N:Nat}{e:an}(h:En N e)(k:Kn):cq (LU N e (kn k)) (tX e k):=by
 have A:∀x∈e.ax,En N x:=λx hx=>h.arg hx;have sh:=gF h.node;clear h;unfold LU tX kn;have e0:(bif k.dQ then(bif (k.yT.aO==2)then some (k.yT.bM !=2)else some false)else some true)=some (!(k.dQ&&(!(k.yT.aO==2)||k.yT.bM==2))):=by
  rw[gV];cases k.dQ<;>cases k.yT.aO==2<;>cases k.yT.bM==2<;>rfl
 dsimp only;rw[e0,arx];cases (k.dQ&&(!(k.yT.aO==2)||k.yT.bM==2))with
 |false=>exact .no rfl
 |true=>
  cases sh with
  |leaf h=>rcases h with rfl|rfl|rfl<;>exact .no rfl
  |one h=>
   rename_i a
   rcases h with rfl|rfl|rfl
   ·show cq (Option.bind (some (a.ar==8)) λv5=>bif v5 then Option.bind (a.ax[0]?) λv6=>some (v6,true)else _) (bif true&&a.ar==8 then a.ax[0]? else none);cases ho:a.ar==8 with
    |false=>exact .no rfl
    |true=>
     obtain⟨x,hx⟩:=pf (A a (by simp)) (.inl ho);rw[hx];exact .yes rfl
   ·exact .no rfl
   ·exact .no rfl
  |two h=>
   rename_i n v t l i a b
   rcases h with rfl|rfl|rfl|rfl|rfl|rfl|rfl|rfl|rfl|rfl|rfl
   ·show cq (Option.bind (bif b.ar==8 then some true else some false) λv7=>bif v7 then Option.bind (b.ax[0]?) λv8=>some (cV 5 [a,v8],true)else Option.bind (bif a.ar==8 then some true else some false) λv10=>bif v10 then Option.bind (a.ax[0]?) λv11=>some (cV 5 [b,v11],true)else bif b.ar==8 then Option.bind (b.ax[0]?) λbC=>some (cV 4 [a,bC],true)else some (⟨4,n,v,t,l,i,[a,b]⟩,false))
     (bif b.ar==8 then(b.ax[0]?).map λx=>cV 5 [a,x]else bif a.ar==8 then(a.ax[0]?).map λx=>cV 5 [b,x]else none)
    cases ho:b.ar==8 with
    |true=>
     obtain⟨x,hx⟩:=pf (A b (by simp)) (.inl ho);rw[hx];exact .yes rfl
    |false=>
     cases vp:a.ar==8 with
     |true=>
      obtain⟨x,hx⟩:=pf (A a (by simp)) (.inl vp);rw[hx];exact .yes rfl
     |false=>exact .no rfl
   ·show cq (Option.bind (bif b.ar==8 then some false else some false) λv7=>bif v7 then _ else Option.bind (bif a.ar==8 then some false else some false) λv10=>bif v10 then _ else bif b.ar==8 then Option.bind (b.ax[0]?) λbC=>some (cV 4 [a,bC],true)else some (⟨5,n,v,t,l,i,[a,b]⟩,false))
     (bif true&&b.ar==8 then(b.ax[0]?).map λx=>cV 4 [a,x]else none)
    cases ho:b.ar==8 with
    |true=>
     obtain⟨x,hx⟩:=pf (A b (by simp)) (.inl ho);rw[hx];cases a.ar==8<;>exact .yes rfl
    |false=>cases a.ar==8<;>exact .no rfl
   all_goals exact .no rfl
  |three h=>subst h;exact .no rfl
theorem ahl{N:Nat}{e:an}(h:En N e)(k:Kn):cq (Lb N (nd e k)) (uU e):=by
 have A:∀x∈e.ax,En N x:=λx hx=>h.arg hx;have sh:=gF h.node;clear h;unfold Lb uU;cases sh with
 |leaf h=>rcases h with rfl|rfl|rfl<;>exact .no rfl
 |one h=>
  rename_i c
  rcases h with rfl|rfl|rfl
  ·exact .no rfl
  ·exact .no rfl
  ·show cq (bif c.ar==18 then Option.bind (c.ax[0]?) λv8=>some (v8,true)else bif c.ar==13 then Option.bind (c.ax[1]?) λv9=>Option.bind (c.ax[0]?) λv10=>some (cV 14 [v9,v10],true)else bif c.ar==14 then Option.bind (c.ax[1]?) λv12=>Option.bind (c.ax[0]?) λaF=>some (cV 13 [v12,aF],true)else some (fA,false))
    (bif c.ar==18 then c.ax[0]? else bif c.ar==13 then(match c.ax with|[x,y]=>some (cV 14 [y,x])|_=>none)else bif c.ar==14 then(match c.ax with|[x,y]=>some (cV 13 [y,x])|_=>none)else none)
   have C:=A c (by simp);cases ho:c.ar==18 with
   |true=>
    obtain⟨x,hx⟩:=pf C (.inr ho);rw[hx];exact .yes rfl
   |false=>
    cases vp:c.ar==13 with
    |true=>
     obtain⟨x,y,hx⟩:=Nz C (.inl vp);rw[hx];exact .yes rfl
    |false=>
     cases Qu:c.ar==14 with
     |true=>
      obtain⟨x,y,hx⟩:=Nz C (.inr Qu);rw[hx];exact .yes rfl
     |false=>exact .no rfl
 |two h=>rcases h with rfl|rfl|rfl|rfl|rfl|rfl|rfl|rfl|rfl|rfl|rfl<;>exact .no rfl
 |three h=>
  rename_i c a b
  subst h;show cq (bif !(c.ar==18)then some (fA,false)else Option.bind (c.ax[0]?) λv4=>some (cV 11 [v4,b,a],true)) (bif true&&c.ar==18 then(c.ax[0]?).map λx=>cV 11 [x,b,a]else none);cases ho:c.ar==18 with
  |true=>
   obtain⟨x,hx⟩:=pf (A c (by simp)) (.inr ho);rw[hx];exact .yes rfl
  |false=>exact .no rfl
theorem aq6{N:Nat}{e:an}(h:En N e):cq (Kk N e) (uU e):=by
 have A:∀x∈e.ax,En N x:=λx hx=>h.arg hx;have sh:=gF h.node;clear h;unfold Kk uU;cases sh with
 |leaf h=>rcases h with rfl|rfl|rfl<;>exact .no rfl
 |one h=>
  rename_i n v t l i c
  rcases h with rfl|rfl|rfl
  ·exact .no rfl
  ·exact .no rfl
  ·show cq (bif c.ar==18 then Option.bind (c.ax[0]?) λv8=>some (v8,true)else bif c.ar==13 then Option.bind (c.ax[1]?) λv9=>Option.bind (c.ax[0]?) λv10=>some (cV 14 [v9,v10],true)else bif c.ar==14 then Option.bind (c.ax[1]?) λv12=>Option.bind (c.ax[0]?) λaF=>some (cV 13 [v12,aF],true)else some (⟨18,n,v,t,l,i,[c]⟩,false))
    (bif c.ar==18 then c.ax[0]? else bif c.ar==13 then(match c.ax with|[x,y]=>some (cV 14 [y,x])|_=>none)else bif c.ar==14 then(match c.ax with|[x,y]=>some (cV 13 [y,x])|_=>none)else none)
   have C:=A c (by simp);cases ho:c.ar==18 with
   |true=>
    obtain⟨x,hx⟩:=pf C (.inr ho);rw[hx];exact .yes rfl
   |false=>
    cases vp:c.ar==13 with
    |true=>
     obtain⟨x,y,hx⟩:=Nz C (.inl vp);rw[hx];exact .yes rfl
    |false=>
     cases Qu:c.ar==14 with
     |true=>
      obtain⟨x,y,hx⟩:=Nz C (.inr Qu);rw[hx];exact .yes rfl
     |false=>exact .no rfl
 |two h=>rcases h with rfl|rfl|rfl|rfl|rfl|rfl|rfl|rfl|rfl|rfl|rfl<;>exact .no rfl
 |three h=>
  rename_i n v t l i c a b
  subst h;show cq (Option.bind (some (c.ar==18)) λv3=>bif v3 then Option.bind (c.ax[0]?) λv4=>some (cV 11 [v4,b,a],true)else some (⟨11,n,v,t,l,i,[c,a,b]⟩,false)) (bif true&&c.ar==18 then(c.ax[0]?).map λx=>cV 11 [x,b,a]else none);cases ho:c.ar==18 with
  |true=>
   obtain⟨x,hx⟩:=pf (A c (by simp)) (.inr ho);rw[hx];exact .yes rfl
  |false=>exact .no rfl
theorem Ll{f:an->asp (Bool×Bool)}{a b:an}{p q:Bool×Bool}(z:Bool)(ha:f a=some p)(hb:f b=some q):cq ((f a).bind λv4=>Option.bind (bif v4.2 then some (v4.1==z)else some false) λv5=>bif v5 then (some b).bind λv6=>some (v6,true)else (some b).bind λv7=>(f v7).bind λv8=>Option.bind (bif v8.2 then some (v8.1==z)else some false) λv9=>some (a,v9))
 (bif p.2&&p.1==z then some b else bif q.2&&q.1==z then some a else none):=by
 rw[ha,arx,dU,arx];cases (p.2&&p.1==z)with
 |true=>exact .yes rfl
 |false=>
  simp only[cond_false,arx];rw[hb,arx,dU];exact .ite rfl
theorem af4{N:Nat}{e:an}(h:En N e)(k:Kn):cq (NG N (nd e k)) (uF e):=by
 have A:∀x∈e.ax,En N x:=λx hx=>h.arg hx;have hA:∀(i:Nat)(x:an),e.ax[i]?=some x->fc x=mw e.ar i:=λi x hx=>h.node.arg hx;have sh:=gF h.node;clear h;unfold NG uF;cases sh with
 |leaf h=>rcases h with rfl|rfl|rfl<;>exact .no rfl
 |one h=>rcases h with rfl|rfl|rfl<;>exact .no rfl
 |two h=>
  rename_i a b
  rcases h with rfl|rfl|rfl|rfl|rfl|rfl|rfl|rfl|rfl|rfl|rfl
  case inr.inr.inr.inr.inr.inr.inr.inr.inr.inl=>exact Ll (f:=yU N) true (Hm (A a (by simp)) ((hA 0 a rfl).trans rfl)) (Hm (A b (by simp)) ((hA 1 b rfl).trans rfl))
  case inr.inr.inr.inr.inr.inr.inr.inr.inr.inr=>exact Ll (f:=yU N) false (Hm (A a (by simp)) ((hA 0 a rfl).trans rfl)) (Hm (A b (by simp)) ((hA 1 b rfl).trans rfl))
  all_goals exact .no rfl
 |three h=>subst h;exact .no rfl
theorem afu{N:Nat}{e:an}(h:En N e):cq (NV N e) (uF e):=by
 have A:∀x∈e.ax,En N x:=λx hx=>h.arg hx;have hA:∀(i:Nat)(x:an),e.ax[i]?=some x->fc x=mw e.ar i:=λi x hx=>h.node.arg hx;have sh:=gF h.node;clear h;unfold NV uF;cases sh with
 |leaf h=>rcases h with rfl|rfl|rfl<;>exact .no rfl
 |one h=>rcases h with rfl|rfl|rfl<;>exact .no rfl
 |two h=>
  rename_i a b
  rcases h with rfl|rfl|rfl|rfl|rfl|rfl|rfl|rfl|rfl|rfl|rfl
  case inr.inr.inr.inr.inr.inr.inr.inr.inr.inl=>exact Ll (f:=xO N) true (E7 (A a (by simp)) ((hA 0 a rfl).trans rfl)) (E7 (A b (by simp)) ((hA 1 b rfl).trans rfl))
  case inr.inr.inr.inr.inr.inr.inr.inr.inr.inr=>exact Ll (f:=xO N) false (E7 (A a (by simp)) ((hA 0 a rfl).trans rfl)) (E7 (A b (by simp)) ((hA 1 b rfl).trans rfl))
  all_goals exact .no rfl
 |three h=>subst h;exact .no rfl
abbrev Tp:=Bool×aso×an
def qg(b:Bool)(s:aso)(x:an):Tp:=(b,s,x)
def mh(v:Tp):an:=v.2.2
theorem AP(b:Bool)(s:aso)(x:an):mh (qg b s x)=x:=rfl
abbrev Tr:=aso->an->asp Tp
def ch:asn Tr->aso->an->asp (Bool×an×aso)
 |[],s,x=>some (false,x,s)
 |[f],s,x=>(f s x).bind λv=>some (v.1,mh v,v.2.1)
 |f::g::l,s,x=>(f s x).bind λv=>bif v.1 then some (true,mh v,v.2.1)else ch (g::l) v.2.1 (mh v)
def Kd(o:asp an)(s old:aso)(x:an):Tp:=match o with|some y=>qg true s y|none=>qg false old x
def Wh(f:Tr)(o:asp an)(s:aso):Prop:=∀old x,f old x=some (Kd o s old x)
theorem qF{r:asp (an×Bool)}{o:asp an}(s old:aso)(x:an)(h:cq r o):(Option.bind r λv=>bif v.2 then some (qg v.2 s v.1)else some (qg v.2 old x))=some (Kd o s old x):=by
 obtain⟨y,rfl,h2⟩:=h;cases o with
 |none=>rfl
 |some z=>obtain rfl:=h2 z rfl;rfl
def Hv(r:Rw)(old:aso)(x:an):Bool×an×aso:=match r with|some y=>(true,y.1,y.2)|none=>(false,x,old)
def HG(l:asn (Tr×asp an×aso)):Rw:=l.foldr (λt r=>kO t.2.1 t.2.2 r) none
theorem acm:∀(l:asn (Tr×asp an×aso))(old:aso)(x:an),(∀t∈l,Wh t.1 t.2.1 t.2.2)->
 ch (l.map (·.1)) old x=some (Hv (HG l) old x)
 |[],old,x,_=>rfl
 |[t],old,x,h=>by
  show Option.bind (t.1 old x) (λv=>some (v.1,mh v,v.2.1))=some (Hv (kO t.2.1 t.2.2 none) old x);rw[h t (by simp) old x];cases t.2.1 with
  |some y=>show some (true,mh (qg true t.2.2 y),t.2.2)=_;rw[AP];rfl
  |none=>show some (false,mh (qg false old x),old)=_;rw[AP];rfl
 |t::u::l,old,x,h=>by
  show Option.bind (t.1 old x) (λv=>bif v.1 then some (true,mh v,v.2.1)else ch ((u::l).map (·.1)) v.2.1 (mh v))=some (Hv (kO t.2.1 t.2.2 (HG (u::l))) old x);have ih:=acm (u::l) old x λq hq=>h q (arH _ hq);rw[h t (by simp) old x];cases t.2.1 with
  |some y=>show some (true,mh (qg true t.2.2 y),t.2.2)=_;rw[AP];rfl
  |none=>show ch ((u::l).map (·.1)) old (mh (qg false old x))=_;rw[AP];exact ih
noncomputable def D0(N:Nat)(e:an)(k:Kn):asn (Tr×asp an×aso):=
 [(λold _=>Am N (nd e k) (bs [102,111,108,100]) old 0 (bs []) bW cY 0,vl e,QX),
  (λold x=>Tg N (nd e k) (bs [99,97,115,116]) old x,uV e,Uw),
  (λold x=>OO N (nd e k) (bs [105,110,100,101,120]) old x,we e,SR),
  (λold x=>SA N (nd e k) (bs [105,102]) old x,wG e,Qk),
  (λold x=>O1 N (nd e k) (bs [115,97,109,101]) old x,vb e,Qm),
  (λold x=>Pb N (nd e k) (bs [122,101,114,111]) old x,um e,S2),
  (λold x=>Sp N (nd e k) (bs [111,110,101]) old x,vD e,Uo),
  (λold x=>R9 N (nd e k) (bs [99,97,110,99,101,108]) old x,vW e k,QB),
  (λold x=>Tf N (nd e k) (bs [110,101,103,97,116,101]) old x,tX e k,Oy),
  (λold x=>PQ N (nd e k) (bs [110,111,116]) old x,uU e,RU),
  (λold x=>Oz N (nd e k) (bs [108,111,103,105,99]) old x,uF e,Ur)]
theorem ahH(N:Nat)(e:an)(k:Kn):Eb N (nd e k)=Option.bind (ch ((D0 N e k).map (·.1)) (bs []) fA) λaF=>some (aF.2.1,aF.2.2,aF.1):=by
 unfold Eb D0;simp only[arX,List.map_nil,ch];rw[Option.bind_assoc];rfl
theorem akT{N:Nat}{e:an}(k:Kn){o:asp an}(s old:aso)(h:cq (Gn N (nd e k)) o):Am N (nd e k) s old 0 (bs []) bW cY 0=some (Kd o s old fA):=by
 obtain⟨y,e1,h2⟩:=h;unfold Am Gt;rw[e1];cases o with
 |none=>rfl
 |some z=>obtain rfl:=h2 z rfl;cases y;rfl
def r3(r:Rw)(e:an):an×aso×Bool:=match r with|some y=>(y.1,y.2,true)|none=>(e,bs [],false)
theorem akA(t u:Tr×asp an×aso)(l:asn (Tr×asp an×aso))(old:aso)(x:an)(h0:t.1 old x=some (Kd t.2.1 t.2.2 old x))(h:∀q∈u::l,Wh q.1 q.2.1 q.2.2):
 ch ((t::u::l).map (·.1)) old x=some (Hv (HG (t::u::l)) old x):=by
 show Option.bind (t.1 old x) (λv=>bif v.1 then some (true,mh v,v.2.1)else ch ((u::l).map (·.1)) v.2.1 (mh v))=some (Hv (kO t.2.1 t.2.2 (HG (u::l))) old x);have ih:=acm (u::l) old x h;rw[h0];cases t.2.1 with
 |some y=>show some (true,mh (qg true t.2.2 y),t.2.2)=_;rw[AP];rfl
 |none=>show ch ((u::l).map (·.1)) old (mh (qg false old x))=_;rw[AP];exact ih
theorem am4{N:Nat}{e:an}(h:En N e)(k:Kn):Eb N (nd e k)=some (r3 (oe e k) fA):=by
 rw[ahH];unfold D0;rw[akA]
 ·show some _=_;have:HG (D0 N e k)=oe e k:=rfl;unfold D0 at this;rw[this];cases oe e k<;>rfl
 ·exact akT k QX _ (amG h k)
 ·intro t ht;simp only[ar2,ase,or_false]at ht;rcases ht with rfl|rfl|rfl|rfl|rfl|rfl|rfl|rfl|rfl|rfl
  ·exact λold x=>qF Uw old x (aiE h k)
  ·exact λold x=>qF SR old x (am8 h k)
  ·exact λold x=>qF Qk old x (ajw h k)
  ·exact λold x=>qF Qm old x (an2 h k)
  ·exact λold x=>qF S2 old x (ajU h k)
  ·exact λold x=>qF Uo old x (anJ h k)
  ·exact λold x=>qF QB old x (af1 h k)
  ·exact λold x=>qF Oy old x (anN h k)
  ·exact λold x=>qF RU old x (ahl h k)
  ·exact λold x=>qF Ur old x (af4 h k)
theorem pC{r:asp (an×Bool)}{o:asp an}{s:aso}{R:asp (an×aso×Bool)}{S:Rw}{e:an}(h:cq r o)(hR:R=some (r3 S e)):(Option.bind r λv3=>bif v3.2 then some (v3.1,s,true)else R)=some (r3 (kO o s S) e):=by
 obtain⟨x,rfl,h2⟩:=h;subst hR;cases o with
 |none=>rfl
 |some y=>obtain rfl:=h2 y rfl;rfl
theorem ajm{N:Nat}{e:an}(h:En N e)(k:Kn):SX N e (kn k)=some (r3 (oe e k) e):=
 pC (akX h) (pC (arc h) (pC (afB h) (pC (amD h) (pC (amE h) (pC (ahY h) (pC (aeJ h) (pC (aod h k) (pC (akG h k) (pC (aq6 h) (pC (afu h) rfl))))))))))
theorem W5{e:an}(h:xG e):e.ax.length<=3:=by
 have sh:=gF h;clear h;cases sh<;>simp
theorem Y2{N:Nat}{e:an}(h:En N e)(k:Kn)(rec:an->Kn->asp (an×aso×Bool))(hr:∀x∈e.ax,∀q,rec x q=some (r3 (jV x q) x)):
 ∀(l:asn an)(i:Nat),e.ax.drop i=l->JD N e k rec l i=some (r3 (ld jV e k i l) e)
 |[],i,_=>rfl
 |x::l,i,hd=>by
  have hx:x∈e.ax:=arL (ba hd);have hl:=W5 h.node;rw[JD,ahA h,arx,hr x hx,arx,ld];cases hf:jV x (sf e k i)with
  |none=>exact Y2 h k rec hr l (i+1) (gk hd)
  |some y=>
   show(bif Nat.ble (e.ax.length*160) 140737488355328 then Option.bind (e.ax[i]?) λv10=>bif Nat.beq (e.ax.set i y.1).length e.ax.length then some ((⟨e.ar,e.aC,e.bD,e.ay,e.aM,e.xIdx,e.ax.set i y.1⟩:an),y.2,true)else none else none)=_;rw[fI (by omega),ba hd,List.length_set,mR];rfl
theorem Z2{N:Nat}{e:an}(h:En N e)(k:Kn)(rec:an->iN->asp (an×aso×Bool))(hr:∀x∈e.ax,∀q,rec x (kn q)=some (r3 (jV x q) x)):
 ∀(l:asn an)(i:Nat),e.ax.drop i=l->MB N e (kn k) rec l i=some (r3 (ld jV e k i l) e)
 |[],i,_=>rfl
 |x::l,i,hd=>by
  have hx:x∈e.ax:=arL (ba hd);have hl:=W5 h.node;rw[MB,alB h,arx,hr x hx,arx,ld];cases hf:jV x (sf e k i)with
  |none=>exact Z2 h k rec hr l (i+1) (gk hd)
  |some y=>
   show(bif Nat.ble (e.ax.length*160) 140737488355328 then Option.bind (e.ax[i]?) λv10=>bif Nat.beq (e.ax.set i y.1).length e.ax.length then some ((⟨e.ar,e.aC,e.bD,e.ay,e.aM,e.xIdx,e.ax.set i y.1⟩:an),y.2,true)else none else none)=_;rw[fI (by omega),ba hd,List.length_set,mR];rfl
theorem W4(N:Nat):∀(d:Nat)(e:an)(k:Kn),SizeOf.sizeOf e<d->En N e->yw N d e k=some (r3 (jV e k) e)
 |0,_,_,h,_=>absurd h (ar0 _)
 |d+1,e,k,hd,h=>by
  have hw:=am4 h k;rw[yw,hw,arx,acI];cases oe e k with
  |some y=>rfl
  |none=>exact Y2 h k _ (λx hx q=>W4 N d x q (by have:=gY hx;omega) (h.arg hx)) e.ax 0 rfl
theorem abb(N:Nat):∀(d:Nat)(e:an)(k:Kn),SizeOf.sizeOf e<d->En N e->uM N d e (kn k)=some (r3 (jV e k) e)
 |0,_,_,h,_=>absurd h (ar0 _)
 |d+1,e,k,hd,h=>by
  rw[uM,ajm h,arx,acI];cases oe e k with
  |some y=>rfl
  |none=>exact Z2 h k _ (λx hx q=>abb N d x q (by have:=gY hx;omega) (h.arg hx)) e.ax 0 rfl
structure nbN(e:an):Prop where
 idx:e.xIdx.length<=1000000
 each:∀x∈e.xIdx,Ux x
 args:e.ax.length<=1000000
structure Iv(e:an):Prop where
 nb:∀y∈cW e,nbN y
 lin:∀y∈cW e,y.aM.xL.length<=1000000
 t:ig e=0->W wT e<=600000
theorem Iv.bd{e:an}(h:Iv e):px e:=λy hy=>⟨h.lin y hy,(h.nb y hy).idx,(h.nb y hy).each,(h.nb y hy).args⟩
theorem acE{w:an->Nat}:∀{l:asn an}{y:an},y∈l->w y<=(l.map w).sum
 |x::l,y,h=>by
  rw[arX,List.sum_cons];rcases ar2.1 h with rfl|h
  ·omega
  ·have:=acE (w:=w) h;omega
theorem YN{w:an->Nat}{B:Nat}:∀{l:asn an},(∀y∈l,w y<=B)->(l.map w).sum<=l.length*B
 |[],_=>Nat.zero_le _
 |x::l,h=>by
  rw[arX,List.sum_cons,arB];have:=YN (w:=w) λy hy=>h y (arH x hy);have:=h x arE;rw[Nat.succ_mul];omega
theorem adP{w:an->Nat}{B:Nat}{e:an}(h:∀y∈cW e,w y<=B)(hv:ig e=0):W w e<=2000*B:=by
 have h1:=YN h;have h2:=(GG hv).2.2;have h3:(cW e).length*B<=2000*B:=Nat.mul_le_mul_right _ h2;exact arQ h1 h3
theorem Iv.step{t:aE}{e x:an}{s:aso}(h:Iv e)(hs:fR t e=some (x,s)):Iv x:=by
 have hv:=(vn hs).2.1;have ht:W wT x<=W wT e:=Ov afi aqd hs;have h6:=h.t hv;refine⟨Zy (λt v=>⟨Nat.zero_le _,λx hx=>(by cases hx),Nat.zero_le _⟩) (λl=>⟨Nat.zero_le _,λx hx=>(by cases hx),Nat.zero_le _⟩) (λop l _ hl=>⟨Nat.zero_le _,λx hx=>(by cases hx),arQ hl (by decide)⟩) (λe i x hb=>⟨hb.idx,hb.each,by show(e.ax.set i x).length<=_;rw[List.length_set];exact hb.args⟩) hs h.nb,λy hy=> ?_,λ_=>by omega⟩;have:wT y<=W wT x:=acE hy;exact arQ this (by omega)
theorem Iv.en{N:Nat}{e:an}(h:Iv e)(hv:ig e=0)(hN:9223372036854775808<N)(hs:8*SizeOf.sizeOf e+16<=N):En N e:=
 ⟨hN,hs,(GG hv).1,arQ (h.t hv) (by decide)⟩
theorem af6{N:Nat}{t:aE}{e:an}(h:Iv e)(hN:9223372036854775808<N)(hs:8*SizeOf.sizeOf e+16<=N)(hx:∀x s,fR t e=some (x,s)->SizeOf.sizeOf x<N):yr N t e=some (r3 (fR t e) e):=by
 have hb:=h.bd;unfold yr;rw[oV,aaS N (Nat.lt_trans (by decide) hN) e hb.ok,TU,NR N e (by omega) hb];have iB:fR t e=bif cZ t&&ig e==0 then jV e ⟨t,!fc e⟩else none:=rfl;cases ht:cZ t with
 |false=>rw[iB,ht];rfl
 |true=>
  cases hv:ig e==0 with
  |false=>
   rw[iB,ht,hv];simp only[arx,cond_true,bne_self_eq_false,cond_false,gV,hv];rfl
  |true=>
   have ph:ig e=0:=by simpa using hv
   have E:=h.en ph hN hs;simp only[arx,cond_true,bne_self_eq_false,cond_false,gV,hv,Bool.not_true];have hf:=W4 N N e ⟨t,!fc e⟩ (by omega) E;have JT:fR t e=jV e ⟨t,!fc e⟩:=by rw[iB,ht,hv];rfl
   unfold S4;rw[hf,arx,JT];cases hr:jV e ⟨t,!fc e⟩with
   |none=>
    show Option.bind (vY N e) _=_;rw[NR N e (by omega) hb];rfl
   |some y=>
    have ct:fR t e=some (y.1,y.2):=by rw[JT,hr]
    show Option.bind (vY N y.1) _=_;rw[NR N y.1 (hx y.1 y.2 ct) (h.step ct).bd];rfl
theorem afL{N:Nat}{t:aE}{e:an}(h:Iv e)(hN:9223372036854775808<N)(hs:8*SizeOf.sizeOf e+16<=N):yY N t e=some (r3 (fR t e) e):=by
 have hb:=h.bd;unfold yY Ty;rw[qJ,acA N (Nat.lt_trans (by decide) hN) e (by omega) hb.ok,J9];have iB:fR t e=bif cZ t&&ig e==0 then jV e ⟨t,!fc e⟩else none:=rfl;cases ht:cZ t with
 |false=>rw[iB,ht];rfl
 |true=>
  cases hv:ig e==0 with
  |false=>
   rw[iB,ht,hv];simp only[arx,cond_true,gV,hv]<;>rfl
  |true=>
   have ph:ig e=0:=by simpa using hv
   have E:=h.en ph hN hs;simp only[arx,cond_true,cond_false,gV,hv,Bool.not_true];have hf:=abb N N e ⟨t,!fc e⟩ (by omega) E;have hf':uM N N e ⟨t,!fc e⟩=some (r3 (jV e ⟨t,!fc e⟩) e):=hf;have JT:fR t e=jV e ⟨t,!fc e⟩:=by rw[iB,ht,hv];rfl
   unfold SH;rw[hf',arx,JT]
theorem agy(n:Nat):Gv (n+3000)=some true:=by kernel_rfl
theorem iZ.iv{e:an}(h:iZ 300 e):Iv e:=by
 refine⟨λy hy=> ?_,λy hy=>arQ (h y hy).lin (by decide),λhv=>adP (w:=wT) (B:=300) (λy hy=>(h y hy).lin) hv⟩;have H:=h y hy;exact⟨arQ H.idx (by decide),λx hx=>⟨arQ (H.each x hx).lin (by decide),arQ (H.each x hx).at_ (by decide),λl hl=>arQ ((H.each x hx).uv l hl) (by decide)⟩,arQ H.args (by decide)⟩
noncomputable def pa:Nat->aE->an->Nat->an×Nat
 |0,_,e,n=>(e,n)
 |f+1,t,e,n=>match fR t e with|some y=>pa f t y.1 (n+1)|none=>(e,n)
noncomputable def xC:Nat->aE->an->Nat
 |0,_,e=>SizeOf.sizeOf e
 |f+1,t,e=>SizeOf.sizeOf e+match fR t e with|some y=>xC f t y.1|none=>0
theorem ES(f:Nat)(t:aE)(e:an):SizeOf.sizeOf e<=xC f t e:=by
 cases f with
 |zero=>exact arJ _
 |succ f=>exact asd _ _
theorem UM{f:Nat}{t:aE}{e:an}{y:an×aso}(h:fR t e=some y):xC (f+1) t e=SizeOf.sizeOf e+xC f t y.1:=by rw[xC,h]
theorem SV{f:Nat}{t:aE}{e:an}{n:Nat}{y:an×aso}(h:fR t e=some y):pa (f+1) t e n=pa f t y.1 (n+1):=by rw[pa,h]
theorem Pl{f:Nat}{t:aE}{e:an}{n:Nat}(h:fR t e=none):pa (f+1) t e n=(e,n):=by rw[pa,h]
structure Rn(N f:Nat)(t:aE)(e:an)(n:Nat):Prop where
 m:W wM e<f
 hN:9223372036854775808<N
 sz:8*xC f t e+16<=N
 iv:Iv e
 n:ig e=0->n+W wM e<=100000
theorem Rn.next{N f:Nat}{t:aE}{e:an}{n:Nat}(h:Rn N (f+1) t e n){y:an×aso}(hs:fR t e=some y):Rn N f t y.1 (n+1):=by
 have ct:fR t e=some (y.1,y.2):=hs;have hm:=aim ct;have:=h.m;have h1:=h.sz;rw[UM hs]at h1;have h2:=h.n (vn ct).2.1;exact⟨by omega,h.hN,by omega,h.iv.step ct,λ_=>by omega⟩
theorem Rn.step{N f:Nat}{t:aE}{e:an}{n:Nat}(h:Rn N f t e n):yr N t e=some (r3 (fR t e) e)/\yY N t e=some (r3 (fR t e) e):=by
 obtain⟨f,rfl⟩:∃k,f=k+1:=⟨f-1,by have:=h.m;omega⟩;have h1:=h.sz;have h2:=ES (f+1) t e;refine⟨af6 h.iv h.hN (by omega) λx s hs=> ?_,afL h.iv h.hN (by omega)⟩;rw[UM hs]at h1;have h3:=ES f t x;dsimp only at h1;omega
theorem ad4(N:Nat)(t:aE):∀(f:Nat)(e:an)(n F:Nat),Rn N f t e n->f<=F->Cl N t F (n:Int) e=some ((pa f t e n).1,((pa f t e n).2:Int))
 |0,e,n,F,h,_=>absurd h.m (ar0 _)
 |f+1,e,n,F,h,hF=>by
  obtain⟨F,rfl⟩:∃k,F=k+1:=⟨F-1,by omega⟩;rw[Cl,h.step.1,arx];cases hs:fR t e with
  |none=>rw[Pl hs];rfl
  |some y=>
   have hn:=h.n (vn (x:=y.1) (s:=y.2) hs).2.1;rw[SV hs];show Cl N t F (aI ((n:Int)+1)) y.1=_;rw[uA (by omega)];exact ad4 N t f y.1 (n+1) F (h.next hs) (by omega)
theorem Va(N:Nat)(t:aE):∀(f:Nat)(e:an)(n F:Nat),Rn N f t e n->f<=F->A7 N t F (n:Int) (r3 (fR t e) e).2.2 e (r3 (fR t e) e).1=some ((pa f t e n).1,((pa f t e n).2:Int))
 |0,e,n,F,h,_=>absurd h.m (ar0 _)
 |f+1,e,n,F,h,hF=>by
  obtain⟨F,rfl⟩:∃k,F=k+1:=⟨F-1,by omega⟩;rw[A7];cases hs:fR t e with
  |none=>rw[Pl hs];rfl
  |some y=>
   have hn:=h.n (vn (x:=y.1) (s:=y.2) hs).2.1;have hy:=h.next hs;rw[SV hs];show Option.bind (yY N t y.1) _=_;rw[hy.step.2,arx];show A7 N t F (aI ((n:Int)+1)) (r3 (fR t y.1) y.1).2.2 y.1 (r3 (fR t y.1) y.1).1=_;rw[uA (by omega)];exact Va N t f y.1 (n+1) F hy (by omega)
noncomputable def nB(t:aE)(e:an):an×Nat:=pa (W wM e+1) t e 0
noncomputable def zh(t:aE)(e:an):Nat:=xC (W wM e+1) t e
theorem apD{N:Nat}{t:aE}{e:an}(h:Rn N (W wM e+1) t e 0)(hN:W wM e<N):E9 N t e=some ((nB t e).1,((nB t e).2:Int)):=ad4 N t _ e 0 N h (by omega)
theorem aki{N:Nat}{t:aE}{e:an}(h:Rn N (W wM e+1) t e 0)(hN:W wM e<N):DX N t e=some ((nB t e).1,((nB t e).2:Int)):=by
 unfold DX;rw[h.step.2,arx];exact Va N t _ e 0 N h (by omega)
structure aoD(N:Nat)(t:aE)(e x:an):Prop where
 none:fR t x=none
 step:yr N t x=some (r3 (fR t x) x)
 sz:8*SizeOf.sizeOf x+16<=N
 nn:W wN x<=W wN e
 cost:W wC x<=W wC e
 same:x=e\/ig e=0
 iv:Iv x
 agM:(∀y∈cW e,y.ar=1\/y.ar=2\/y.ar=3->y.ax=[])->∀y∈cW x,y.ar=1\/y.ar=2\/y.ar=3->y.ax=[]
theorem XT(N:Nat)(t:aE):∀(f:Nat)(e:an)(n:Nat),Rn N f t e n->aoD N t e (pa f t e n).1
 |0,e,n,h=>absurd h.m (ar0 _)
 |f+1,e,n,h=>by
  cases hs:fR t e with
  |none=>
   rw[Pl hs];exact⟨hs,h.step.1,by have:=h.sz;have:=ES (f+1) t e;show 8*SizeOf.sizeOf e+16<=N;omega,arJ _,arJ _, .inl rfl,h.iv,λh=>h⟩
  |some y=>
   have ct:fR t e=some (y.1,y.2):=hs;rw[SV hs];have r:=XT N t f y.1 (n+1) (h.next hs);refine⟨r.none,r.step,r.sz,arQ r.nn (Ov aiU ami ct),arQ r.cost (Ov aoQ ah3 ct), .inr (vn ct).2.1,r.iv,λhl=>r.agM ?_⟩;refine Zy (P:=λy=>y.ar=1\/y.ar=2\/y.ar=3->y.ax=[]) (λ_ _ _=>rfl) (λ_ _=>rfl) (λop l h4 _ h=> ?_) (λe i x hp h=> ?_) ct hl
   ·have h':op=1\/op=2\/op=3:=h;omega
   ·have h':e.ar=1\/e.ar=2\/e.ar=3:=h;show e.ax.set i x=[];rw[hp h'];rfl
theorem iZ.bd{e:an}(h:iZ 300 e):px e:=λy hy=>
 ⟨arQ (h y hy).lin (by decide),arQ (h y hy).idx (by decide),λx hx=>⟨arQ ((h y hy).each x hx).lin (by decide),arQ ((h y hy).each x hx).at_ (by decide),λl hl=>arQ (((h y hy).each x hx).uv l hl) (by decide)⟩,arQ (h y hy).args (by decide)⟩
theorem aq2{N:Nat}{p:bp}(h:Ly p)(hs:∀d∈p.aU,SizeOf.sizeOf d.cr<N):Bc N p:=
 ⟨⟨arQ h.s (by decide),arQ h.w (by decide),arQ h.q (by decide),arQ h.d (by decide),arQ h.o (by decide),
   ⟨λx hx=>arQ (h.P x hx).1 (by decide),λx hx y hy=>arQ ((h.P x hx).2 y hy) (by decide)⟩,
   ⟨λd hd=>by have h1:=(h.D d hd).Ot;have h2:=(h.D d hd).red;omega,λd hd y hy=>arQ ((h.D d hd).ahZ y hy) (by decide)⟩,
   λc hc=>arQ (h.W c hc) (by decide),λd hd=>⟨((h.D d hd).body.bd).ok,hs d hd⟩⟩,λd hd=>⟨(h.D d hd).body.bd,hs d hd⟩⟩
noncomputable def ql(d:bR):bR:=⟨d.aC,d.ay,d.bI,d.cl,d.dy,(nB d.ay d.cr).1⟩
noncomputable def Hw:Int->asn bR->Int
 |v,[]=>v
 |v,d::l=>Hw (aI (v+((nB d.ay d.cr).2:Int))) l
structure Rb(N:Nat)(d:bR):Prop where
 hN:9223372036854775808<N
 ln:iZ 300 d.cr
 m:W wM d.cr+2<=N
 sz:8*zh d.ay d.cr+16<=N
theorem Rb.rn{N:Nat}{d:bR}(h:Rb N d):Rn N (W wM d.cr+1) d.ay d.cr 0:=⟨asl _,h.hN,h.sz,h.ln.iv,λhv=>by
 have:=adP (w:=wM) (B:=3) (λy _=>by unfold wM;cases y.ar==2<;>simp) hv;omega⟩
theorem Rb.real{N:Nat}{d:bR}(h:Rb N d):E9 N d.ay d.cr=some ((nB d.ay d.cr).1,((nB d.ay d.cr).2:Int)):=apD h.rn (by have:=h.m;omega)
theorem Rb.ref{N:Nat}{d:bR}(h:Rb N d):DX N d.ay d.cr=some ((nB d.ay d.cr).1,((nB d.ay d.cr).2:Int)):=aki h.rn (by have:=h.m;omega)
theorem Rb.res{N:Nat}{d:bR}(h:Rb N d):8*SizeOf.sizeOf (ql d).cr+16<=N:=(XT N _ _ _ _ h.rn).sz
theorem YQ(N:Nat)(p:bp)(q:(asn aso)×(asn di)×(asn dh)×Nat×(asn aso)×(asn bR))(n:Nat)(hq:q.2.2.2.1=n)(hn:n<=1000000):∀(rest pre:asn bR)(F:Nat)(v:Int),(∀d∈rest,Rb N d)->pre.length+rest.length=n->rest.length<F->
 uG N q F v (pre.length:Int) (pre++rest)=some ((⟨q.1,q.2.1,q.2.2.1,pre++rest.map ql,q.2.2.2.2.1⟩:bp),Hw v rest)
 |[],pre,F,v,hr,hl,hF=>by
  obtain⟨F,rfl⟩:∃k,F=k+1:=⟨F-1,by omega⟩;rw[arK,Nat.add_zero]at hl;rw[uG,hq,hl,asg (show ¬(n:Int)<(n:Int) by omega),arT,hl,mR];simp only[cond_false,cond_true,List.map_nil,arT,Hw]
 |d::rest,pre,F,v,hr,hl,hF=>by
  obtain⟨F,rfl⟩:∃k,F=k+1:=⟨F-1,by rw[arB]at hF;omega⟩;rw[arB]at hl hF;have hd:=hr d arE;have eN:(pre++d::rest)[pre.length]?=some d:=JJ pre d rest;have Ab:(pre++d::rest).set pre.length (ql d)=pre++ql d::rest:=T2 pre d (ql d) rest;have hlen:(pre++d::rest).length=n:=by rw[arz,arB];omega
  rw[uG,hq,asf (show(pre.length:Int)<(n:Int) by omega),hlen,mR,asf (show(0:Int)<=(pre.length:Int) by omega),arZ,eN];simp only[cond_true,arx];rw[hd.real,arx];show uG N q F (aI (v+((nB d.ay d.cr).2:Int))) (aI ((pre.length:Int)+1)) ((pre++d::rest).set pre.length (ql d))=_;rw[Ab,uA (by omega)];have ih:=YQ N p q n hq hn rest (pre++[ql d]) F (aI (v+((nB d.ay d.cr).2:Int))) (λx hx=>hr x (arH _ hx)) (by rw[arz,List.length_singleton];omega) (by omega);rw[arz,List.length_singleton,arP,arP]at ih;exact ih
theorem UZ(N:Nat)(p:bp):∀(rest acc:asn bR)(k:Nat)(v:Int),(∀d∈rest,Rb N d)->acc.length+rest.length<=1000000->
 Eu N p rest k v acc=some ((⟨p.bO,p.dj,p.bA,acc++rest.map ql,p.dz⟩:bp),Hw v rest)
 |[],acc,k,v,_,_=>by rw[Eu,List.map_nil,arT];rfl
 |d::rest,acc,k,v,hr,hl=>by
  rw[arB]at hl;rw[Eu,(hr d arE).ref,arx,fI (by omega)];simp only[cond_true];have ih:=UZ N p rest (acc++[ql d]) (k+1) (aI (v+((nB d.ay d.cr).2:Int))) (λx hx=>hr x (arH _ hx)) (by rw[arz,List.length_singleton];omega);rw[arP]at ih;exact ih
theorem ajj(N:Nat)(p:bp)(hN:9223372036854775808<N)(hd:∀d∈p.aU,iZ qS d.cr/\W wM d.cr+2<=N/\8*zh d.ay d.cr+16<=N):Sx N p=some true:=by
 have ex:Gv N=some true:=by
  obtain⟨n,rfl⟩:∃n,N=n+3000:=⟨N-3000,by omega⟩;exact agy n
 have iw:∀d∈p.aU,SizeOf.sizeOf d.cr<N:=λd h=>by
  have h1:=(hd d h).2.2;have h2:=ES (W wM d.cr+1) d.ay d.cr;unfold zh at h1;omega
 obtain⟨b,l1,l2⟩:=aeX N 300 (by decide) (by omega) p λd h=>⟨(hd d h).1,iw d h⟩;unfold Sx;have l1:E3 N p 300=some b:=l1;rw[l1,arx,ex];cases b with
 |true=>rfl
 |false=>
  have hS:=l2 rfl;have B:=aq2 (N:=N) hS iw;have hR:∀d∈p.aU,Rb N d:=λd h=>⟨hN,(hS.D d h).body,(hd d h).2.1,(hd d h).2.2⟩;have hD:=hS.d;obtain⟨a,x,v1,v2,_⟩:=agm (Nat.lt_trans (by decide) hN) B.b;simp only[cond_false];unfold RY Sw;rw[akU B,v1,v2];simp only[arx];cases hx:x !=0 with
  |true=>
   rw[mR];simp only[cond_true,arx];have hp:(⟨p.bO,p.dj,p.bA,p.aU,p.dz⟩:bp)=p:=by cases p;rfl
   rw[hp,aby N p λd h=>by
     have h1:=(hd d h).2.2;have h2:=ES (W wM d.cr+1) d.ay d.cr;unfold zh at h1;omega]
   rfl
  |false=>
   rw[mR];simp only[cond_true,cond_false];have hr:=YQ N p (p.bO,p.dj,p.bA,p.aU.length,p.dz,p.aU) p.aU.length rfl (by omega) p.aU [] N 0 hR (by simp) (by omega);have hf:=UZ N p p.aU [] 0 0 hR (by simp only[arK];omega);rw[List.nil_append,List.nil_append]at hr;rw[List.nil_append]at hf;have nW:uG N (p.bO,p.dj,p.bA,p.aU.length,p.dz,p.aU) N 0 0 p.aU=some ((⟨p.bO,p.dj,p.bA,p.aU.map ql,p.dz⟩:bp),Hw 0 p.aU):=hr;rw[nW,hf,arx,arx];rw[aby N (⟨p.bO,p.dj,p.bA,p.aU.map ql,p.dz⟩:bp) λd h=>by
     obtain⟨d0,h0,rfl⟩:=List.mem_map.1 h;have:=(hR d0 h0).res;omega]
   simp only[arx,cond_true,ash]
def vA(k:IntKind)(n:Int):Prop:=k.min<=n/\n<=k.max
theorem II{n:Int}(h:vA .i64 n):∃m:Int64,n=m.toInt:=by
 refine⟨Int64.ofInt n,?_⟩;have h1:aI n=n:=by
  unfold aI;rw[IntKind.wrap_i64];have h2: -9223372036854775808<=n:=h.1;have h3:n<=9223372036854775807:=h.2;omega
 rw[Int64.toInt_ofInt,<-Cs];exact h1.symm
theorem Yg{p:asn D}:∀{l:asn (asn D)},p∈l->SizeOf.sizeOf p<=SizeOf.sizeOf l.flatten
 |[],h=>by cases h
 |q::l,h=>by
  have app:∀a b:asn D,SizeOf.sizeOf a<=SizeOf.sizeOf (a++b)/\SizeOf.sizeOf b<=SizeOf.sizeOf (a++b):=by
   intro a b
   induction a with
   |nil=>cases b<;>simp only[List.nil_append,List.nil.sizeOf_spec,List.cons.sizeOf_spec]<;>omega
   |cons x a ih=>simp only[List.cons_append,List.cons.sizeOf_spec];omega
  rw[List.flatten_cons];rcases ar2.1 h with rfl|h
  ·exact(app _ _).1
  ·exact arQ (Yg h) (app _ _).2
structure XL(x:aG):Prop where
 h0:True
 h1:True
theorem aqK{xs:asn D}(h:eo Tryz.prog 47 xs):∃x:aG,xs=L3 x/\XL x:=by
 obtain⟨parts,rfl,hl,hx⟩:=h.py Tryz.underlying47
 match parts,hl with
 |[a0,a1],_=>
 obtain⟨kd,rfl,jo⟩:=(hx 0 _ _ rfl rfl).qt Tryz.underlying2;obtain⟨QC,rfl⟩:=II jo;obtain⟨jZ,rfl,j5⟩:=(hx 1 _ _ rfl rfl).qt Tryz.underlying2;obtain⟨SF,rfl⟩:=II j5;exact⟨⟨QC,SF⟩,rfl,⟨trivial,trivial⟩⟩
structure Nv(x:aE):Prop where
 h0:vA .i64 x.aO
 h1:vA .i64 x.bo
 h2:vA .i64 x.bE
 h3:vA .i64 x.bN
 h4:vA .i64 x.bM
theorem PN{xs:asn D}(h:eo Tryz.prog 40 xs):∃x:aE,xs=Je x/\Nv x:=by
 obtain⟨parts,rfl,hl,hx⟩:=h.py Tryz.underlying40
 match parts,hl with
 |[a0,a1,a2,a3,a4],_=>
 obtain⟨kd,rfl,jo⟩:=(hx 0 _ _ rfl rfl).qt Tryz.underlying3;obtain⟨jZ,rfl,j5⟩:=(hx 1 _ _ rfl rfl).qt Tryz.underlying3;obtain⟨qu,rfl,pA⟩:=(hx 2 _ _ rfl rfl).qt Tryz.underlying3;obtain⟨zA,rfl,w5⟩:=(hx 3 _ _ rfl rfl).qt Tryz.underlying3;obtain⟨zp,rfl,xx⟩:=(hx 4 _ _ rfl rfl).qt Tryz.underlying3;exact⟨⟨kd,jZ,qu,zA,zp⟩,rfl,⟨jo,j5,pA,w5,xx⟩⟩
structure KI(x:bB):Prop where
 h0:x.aC.size<=maxLen
 h1:True
theorem amh{xs:asn D}(h:eo Tryz.prog 79 xs):∃x:bB,xs=zw x/\KI x:=by
 obtain⟨parts,rfl,hl,hx⟩:=h.py Tryz.underlying79
 match parts,hl with
 |[a0,a1],_=>
 obtain⟨kd,rfl,jo⟩:=(hx 0 _ _ rfl rfl).yN Tryz.underlying9;obtain⟨jZ,rfl,j5⟩:=(hx 1 _ _ rfl rfl).qt Tryz.underlying2;obtain⟨SF,rfl⟩:=II j5;exact⟨⟨kd,SF⟩,rfl,⟨jo,trivial⟩⟩
theorem ajH{xs:asn D}(h:eo Tryz.prog 34 xs):∃l:asn bB,xs=[.sl (cz l)]/\(l.length<=140737488355328/\∀a∈l,KI a):=by
 obtain⟨l,rfl,hl,hs⟩:=h.tD Tryz.underlying34;obtain⟨r,rfl,hr⟩:=qy (f:=zw) (Q:=λa=>KI a) l (λx hx=>amh (hs x hx));exact⟨r,by rw[tz],by simpa using hl,hr⟩
structure tT(x:aH):Prop where
 h0:True
 h1:x.xL.length<=140737488355328/\∀a∈x.xL,KI a
theorem FM{xs:asn D}(h:eo Tryz.prog 36 xs):∃x:aH,xs=kQ x/\tT x:=by
 obtain⟨parts,rfl,hl,hx⟩:=h.py Tryz.underlying36
 match parts,hl with
 |[a0,a1],_=>
 obtain⟨kd,rfl,jo⟩:=(hx 0 _ _ rfl rfl).qt Tryz.underlying2;obtain⟨QC,rfl⟩:=II jo;obtain⟨jZ,rfl,j5⟩:=ajH (hx 1 _ _ rfl rfl);exact⟨⟨QC,jZ⟩,rfl,⟨trivial,j5⟩⟩
theorem Zi{xs:asn D}(h:eo Tryz.prog 41 xs):∃l:asn aH,xs=[.sl (dk l)]/\(l.length<=140737488355328/\∀a∈l,tT a):=by
 obtain⟨l,rfl,hl,hs⟩:=h.tD Tryz.underlying41;obtain⟨r,rfl,hr⟩:=qy (f:=kQ) (Q:=λa=>tT a) l (λx hx=>FM (hs x hx));exact⟨r,by rw[tJ],by simpa using hl,hr⟩
structure MU(x:aZ):Prop where
 h0:tT x.aM
 h1:x.bS.size<=maxLen
 h2:x.bH.length<=140737488355328/\∀a∈x.bH,tT a
theorem aqI{xs:asn D}(h:eo Tryz.prog 59 xs):∃x:aZ,xs=fZ x/\MU x:=by
 obtain⟨parts,rfl,hl,hx⟩:=h.py Tryz.underlying59
 match parts,hl with
 |[a0,a1,a2],_=>
 obtain⟨kd,rfl,jo⟩:=FM (hx 0 _ _ rfl rfl);obtain⟨jZ,rfl,j5⟩:=(hx 1 _ _ rfl rfl).yN Tryz.underlying9;obtain⟨qu,rfl,pA⟩:=Zi (hx 2 _ _ rfl rfl);exact⟨⟨kd,jZ,qu⟩,rfl,⟨jo,j5,pA⟩⟩
theorem apv{xs:asn D}(h:eo Tryz.prog 48 xs):∃l:asn aZ,xs=[.sl (cU l)]/\(l.length<=140737488355328/\∀a∈l,MU a):=by
 obtain⟨l,rfl,hl,hs⟩:=h.tD Tryz.underlying48;obtain⟨r,rfl,hr⟩:=qy (f:=fZ) (Q:=λa=>MU a) l (λx hx=>aqI (hs x hx));exact⟨r,by rw[sb],by simpa using hl,hr⟩
inductive zH:an->Prop
 |mk (x:an) (h0:vA .i64 x.ar) (h1:x.aC.size<=maxLen) (h2:XL x.bD) (h3:Nv x.ay) (h4:tT x.aM) (h5:x.xIdx.length<=140737488355328/\∀a∈x.xIdx,MU a) (h6:x.ax.length<=140737488355328) (g6:∀a∈x.ax,zH a):zH x
theorem YG:∀(n:Nat)(xs:asn D),SizeOf.sizeOf xs<n->eo Tryz.prog 51 xs->∃x:an,xs=dd x/\zH x
 |0,_,h,_=>absurd h (ar0 _)
 |n+1,xs,hn,h=>by
  obtain⟨parts,rfl,hl,hx⟩:=h.py Tryz.underlying51
  match parts,hl with
  |[a0,a1,a2,a3,a4,a5,a6],_=>
  obtain⟨kd,rfl,jo⟩:=(hx 0 _ _ rfl rfl).qt Tryz.underlying3;obtain⟨jZ,rfl,j5⟩:=(hx 1 _ _ rfl rfl).yN Tryz.underlying9;obtain⟨qu,rfl,pA⟩:=aqK (hx 2 _ _ rfl rfl);obtain⟨zA,rfl,w5⟩:=PN (hx 3 _ _ rfl rfl);obtain⟨zp,rfl,xx⟩:=FM (hx 4 _ _ rfl rfl);obtain⟨QK,rfl,Tu⟩:=apv (hx 5 _ _ rfl rfl);obtain⟨l_,rfl,aoO,hs_⟩:=(hx 6 _ _ rfl rfl).tD Tryz.underlying49;obtain⟨r_,rfl,hr_⟩:=qy (f:=dd) (Q:=zH) l_ (λx hx=>YG n x (by have h1:=List.sizeOf_lt_of_mem hx;have h2:SizeOf.sizeOf [D.sl l_]<n+1:=Nat.lt_of_le_of_lt (Yg (by simp)) hn;simp only[List.cons.sizeOf_spec,D.sl.sizeOf_spec,List.nil.sizeOf_spec]at h2;omega) (hs_ x hx));refine⟨⟨kd,jZ,qu,zA,zp,QK,r_⟩,?_, .mk _ jo j5 pA w5 xx Tu (by simpa using aoO) hr_⟩;show _=dd _;unfold dd;rw[gh];rfl
theorem ain{xs:asn D}(h:eo Tryz.prog 51 xs):∃x:an,xs=dd x/\zH x:=YG _ xs (asl _) h
theorem Xg{xs:asn D}(h:eo Tryz.prog 22 xs):∃l:asn aso,xs=[.sl (cb l)]/\(l.length<=140737488355328/\∀a∈l,a.size<=maxLen):=by
 obtain⟨l,rfl,hl,hs⟩:=h.tD Tryz.underlying22;obtain⟨r,rfl,hr⟩:=qy (f:=dp) (Q:=λa=>a.size<=maxLen) l (λx hx=>by
  obtain⟨n_x,rfl,w_x⟩:=(hs x hx).yN Tryz.underlying9;exact⟨n_x,rfl,w_x⟩)
 exact⟨r,by rw[oU],by simpa using hl,hr⟩
structure Li(x:di):Prop where
 h0:tT x.aM
 h1:True
theorem amL{xs:asn D}(h:eo Tryz.prog 38 xs):∃x:di,xs=G4 x/\Li x:=by
 obtain⟨parts,rfl,hl,hx⟩:=h.py Tryz.underlying38
 match parts,hl with
 |[a0,a1],_=>
 obtain⟨kd,rfl,jo⟩:=FM (hx 0 _ _ rfl rfl);obtain⟨jZ,rfl⟩:=(hx 1 _ _ rfl rfl).an9 Tryz.underlying4;exact⟨⟨kd,jZ⟩,rfl,⟨jo,trivial⟩⟩
theorem akv{xs:asn D}(h:eo Tryz.prog 23 xs):∃l:asn di,xs=[.sl (fa l)]/\(l.length<=140737488355328/\∀a∈l,Li a):=by
 obtain⟨l,rfl,hl,hs⟩:=h.tD Tryz.underlying23;obtain⟨r,rfl,hr⟩:=qy (f:=G4) (Q:=λa=>Li a) l (λx hx=>amL (hs x hx));exact⟨r,by rw[yD],by simpa using hl,hr⟩
structure L4(x:dh):Prop where
 h0:x.aC.size<=maxLen
 h1:Nv x.ay
 h2:x.bI.length<=140737488355328/\∀a∈x.bI,tT a
theorem anK{xs:asn D}(h:eo Tryz.prog 43 xs):∃x:dh,xs=E2 x/\L4 x:=by
 obtain⟨parts,rfl,hl,hx⟩:=h.py Tryz.underlying43
 match parts,hl with
 |[a0,a1,a2],_=>
 obtain⟨kd,rfl,jo⟩:=(hx 0 _ _ rfl rfl).yN Tryz.underlying9;obtain⟨jZ,rfl,j5⟩:=PN (hx 1 _ _ rfl rfl);obtain⟨qu,rfl,pA⟩:=Zi (hx 2 _ _ rfl rfl);exact⟨⟨kd,jZ,qu⟩,rfl,⟨jo,j5,pA⟩⟩
theorem ae6{xs:asn D}(h:eo Tryz.prog 24 xs):∃l:asn dh,xs=[.sl (fY l)]/\(l.length<=140737488355328/\∀a∈l,L4 a):=by
 obtain⟨l,rfl,hl,hs⟩:=h.tD Tryz.underlying24;obtain⟨r,rfl,hr⟩:=qy (f:=E2) (Q:=λa=>L4 a) l (λx hx=>anK (hs x hx));exact⟨r,by rw[yq],by simpa using hl,hr⟩
structure Db(x:cT):Prop where
 h0:x.aC.size<=maxLen
 h1:tT x.eZ
theorem aja{xs:asn D}(h:eo Tryz.prog 56 xs):∃x:cT,xs=Fs x/\Db x:=by
 obtain⟨parts,rfl,hl,hx⟩:=h.py Tryz.underlying56
 match parts,hl with
 |[a0,a1],_=>
 obtain⟨kd,rfl,jo⟩:=(hx 0 _ _ rfl rfl).yN Tryz.underlying9;obtain⟨jZ,rfl,j5⟩:=FM (hx 1 _ _ rfl rfl);exact⟨⟨kd,jZ⟩,rfl,⟨jo,j5⟩⟩
theorem adh{xs:asn D}(h:eo Tryz.prog 45 xs):∃l:asn cT,xs=[.sl (eV l)]/\(l.length<=140737488355328/\∀a∈l,Db a):=by
 obtain⟨l,rfl,hl,hs⟩:=h.tD Tryz.underlying45;obtain⟨r,rfl,hr⟩:=qy (f:=Fs) (Q:=λa=>Db a) l (λx hx=>aja (hs x hx));exact⟨r,by rw[y6],by simpa using hl,hr⟩
structure KZ(x:bR):Prop where
 h0:x.aC.size<=maxLen
 h1:Nv x.ay
 h2:x.bI.length<=140737488355328/\∀a∈x.bI,Db a
 h3:x.cl.length<=140737488355328/\∀a∈x.cl,Db a
 h4:vA .i64 x.dy
 h5:zH x.cr
theorem ajo{xs:asn D}(h:eo Tryz.prog 53 xs):∃x:bR,xs=gq x/\KZ x:=by
 obtain⟨parts,rfl,hl,hx⟩:=h.py Tryz.underlying53
 match parts,hl with
 |[a0,a1,a2,a3,a4,a5],_=>
 obtain⟨kd,rfl,jo⟩:=(hx 0 _ _ rfl rfl).yN Tryz.underlying9;obtain⟨jZ,rfl,j5⟩:=PN (hx 1 _ _ rfl rfl);obtain⟨qu,rfl,pA⟩:=adh (hx 2 _ _ rfl rfl);obtain⟨zA,rfl,w5⟩:=adh (hx 3 _ _ rfl rfl);obtain⟨zp,rfl,xx⟩:=(hx 4 _ _ rfl rfl).qt Tryz.underlying3;obtain⟨QK,rfl,Tu⟩:=ain (hx 5 _ _ rfl rfl);exact⟨⟨kd,jZ,qu,zA,zp,QK⟩,rfl,⟨jo,j5,pA,w5,xx,Tu⟩⟩
theorem ag4{xs:asn D}(h:eo Tryz.prog 25 xs):∃l:asn bR,xs=[.sl (fO l)]/\(l.length<=140737488355328/\∀a∈l,KZ a):=by
 obtain⟨l,rfl,hl,hs⟩:=h.tD Tryz.underlying25;obtain⟨r,rfl,hr⟩:=qy (f:=gq) (Q:=λa=>KZ a) l (λx hx=>ajo (hs x hx));exact⟨r,by rw[o0],by simpa using hl,hr⟩
structure XE(x:bp):Prop where
 h0:x.bO.length<=140737488355328/\∀a∈x.bO,a.size<=maxLen
 h1:x.dj.length<=140737488355328/\∀a∈x.dj,Li a
 h2:x.bA.length<=140737488355328/\∀a∈x.bA,L4 a
 h3:x.aU.length<=140737488355328/\∀a∈x.aU,KZ a
 h4:x.dz.length<=140737488355328/\∀a∈x.dz,a.size<=maxLen
theorem aiw{xs:asn D}(h:eo Tryz.prog 27 xs):∃x:bp,xs=anS x/\XE x:=by
 obtain⟨parts,rfl,hl,hx⟩:=h.py Tryz.underlying27
 match parts,hl with
 |[a0,a1,a2,a3,a4],_=>
 obtain⟨kd,rfl,jo⟩:=Xg (hx 0 _ _ rfl rfl);obtain⟨jZ,rfl,j5⟩:=akv (hx 1 _ _ rfl rfl);obtain⟨qu,rfl,pA⟩:=ae6 (hx 2 _ _ rfl rfl);obtain⟨zA,rfl,w5⟩:=ag4 (hx 3 _ _ rfl rfl);obtain⟨zp,rfl,xx⟩:=Xg (hx 4 _ _ rfl rfl);exact⟨⟨kd,jZ,qu,zA,zp⟩,rfl,⟨jo,j5,pA,w5,xx⟩⟩
def agY:asn TypeId:=[2,3,4,9,22,23,24,25,27,34,36,38,40,41,43,45,47,48,49,51,53,56,59,79]
theorem akb:Q0 Tryz.prog agY=true:=by kernel_rfl
theorem agv{e:an}(h:zH e):iZ qS e:=by
 induction h with
 |mk x h0 h1 h2 h3 h4 h5 h6 g6 ih=>
  intro y hy;rcases ar2.1 hy with rfl|hy
  ·exact⟨h4.h1.1,h5.1,λz hz=>⟨(h5.2 z hz).h0.h1.1,(h5.2 z hz).h2.1,λl hl=>((h5.2 z hz).h2.2 l hl).h1.1⟩,h6⟩
  ·obtain⟨a,ha,hy⟩:=CP hy;exact ih a ha y hy
noncomputable def Ha(d:bR):Nat:=8*zh d.ay d.cr+W wM d.cr
theorem SN:∀{l:asn bR}{d:bR},d∈l->Ha d<=(l.map Ha).sum
 |x::l,d,h=>by
  rw[arX,List.sum_cons];rcases ar2.1 h with rfl|h
  ·omega
  ·have:=SN h;omega
theorem aiF(p:bp)(h:XE p):gD Tryz.prog 3 [dH p] (·= .d (.v (.bool true))):=by
 refine aq4 true (ajj (9223372036854775900+(p.aU.map Ha).sum) p (by omega) λd hd=>⟨agv (h.h3.2 d hd).h5,?_,?_⟩)
 ·have h1:8*zh d.ay d.cr+W wM d.cr<=(p.aU.map Ha).sum:=SN hd;omega
 ·have h1:8*zh d.ay d.cr+W wM d.cr<=(p.aU.map Ha).sum:=SN hd;omega
end Go.Proofs.YtdchibpnjpnkoaaGreatDoor
