/-
  Part 12 of the proof: CnH, CnI, CpE, Wts, CnJ, CnQ1, CnQ2, CnQ3, CnKf, CnQ4, CnQ5, CnP1, CnP2, CnP3, CnP4, CnP5, CnP6, CnP7, CnQ6, CnR1, OpenT, CnKeyAbs.
-/
import Derived.Test.YtmkmibahjanejaaGreatDoorPp11
namespace Go.Proofs.YtmkmibahjanejaaGreatDoor
open Go.RowKit
set_option linter.unusedVariables false
set_option linter.unusedSimpArgs false
def wT:Nat->aqy
 |0=>bs [48]|1=>bs [49]|2=>bs [50]|3=>bs [51]|4=>bs [52]|5=>bs [53]|6=>bs [54]|7=>bs [55]|8=>bs [56]|9=>bs [57]|10=>bs [49,48]|11=>bs [49,49]|_=>bs []
def gO(b:aqy)(k:Nat):aqy:=b++wT k
theorem PG{k:Nat}(h:k<12):k=0\/k=1\/k=2\/k=3\/k=4\/k=5\/k=6\/k=7\/k=8\/k=9\/k=10\/k=11:=by omega
theorem aey(N:Nat){k:Nat}(h:k<12):wZ N (k:Int)=some (wT k):=by
 rcases PG h with rfl|rfl|rfl|rfl|rfl|rfl|rfl|rfl|rfl|rfl|rfl|rfl<;>kernel_rfl
theorem aeo(n:Nat){k:Nat}(h:k<12):nU (n+10) (Int64.ofInt (k:Int))=some (wT k):=by
 rcases PG h with rfl|rfl|rfl|rfl|rfl|rfl|rfl|rfl|rfl|rfl|rfl|rfl<;>kernel_rfl
theorem aaE{k:Nat}(h:k<12):(wT k).size<=2:=by
 rcases PG h with rfl|rfl|rfl|rfl|rfl|rfl|rfl|rfl|rfl|rfl|rfl|rfl<;>decide
theorem JV(N:Nat){b:aqy}(hb:b.size<=100){k:Nat}(h:k<12):wX N b (k:Int)=some (gO b k):=by
 have:=aaE h;unfold wX;rw[aey N h,apI,ft (by omega)];rfl
theorem agW{N:Nat}(hN:10<N){b:aqy}(hb:b.size<=100){k:Nat}(h:k<12):L6 N b (k:Int)=some (gO b k):=by
 have:=aaE h;obtain⟨n,rfl⟩:∃n,N=n+10:=⟨N-10,by omega⟩;unfold L6;rw[E8 (by omega),BEq.rfl,cond_true,aeo n h,apI,ft (by omega)];rfl
def iH(b:aqy):Nat->Nat->aqx aqy
 |_,0=>[]
 |k,n+1=>gO b k::iH b (k+1) n
theorem uf(b:aqy):∀n k:Nat,(iH b k n).length=n
 |0,_=>rfl
 |n+1,k=>by rw[iH,apM,uf b n]
def eO(b:aqy)(k:Nat)(l:aqx aqy):aqx (aqy×aqy):=l.zip (iH b k l.length)
theorem Mi(b:aqy)(k:Nat)(x:aqy)(l:aqx aqy):eO b k (x::l)=(x,gO b k)::eO b (k+1) l:=rfl
theorem Av(b:aqy)(k:Nat)(l:aqx aqy):(eO b k l).map (·.1)=l:=by
 unfold eO;rw[List.map_fst_zip];rw[uf];exact apU _
theorem AU(b:aqy)(k:Nat)(l:aqx aqy):(eO b k l).map (·.2)=iH b k l.length:=by
 unfold eO;rw[List.map_snd_zip];rw[uf];exact apU _
theorem ahr(b:aqy)(k:Nat)(l:aqx aqy):(eO b k l).length=l.length:=by
 rw[<-apO (·.1),Av]
theorem Wm{N:Nat}(hN:10<N)(v:dO){b:aqy}(hb:b.size<=100):∀(l:aqx aqy)(k:Nat)(a c:aqx aqy),k+l.length<=12->(a.length+l.length+v.bR.length)*16<=140737488355328->(c.length+l.length+v.yF.length)*16<=140737488355328->
 F0 N v b l k a c=some ⟨a++(l++v.bR),c++(iH b k l.length++v.yF)⟩
 |[],k,a,c,_,h1,h2=>by
  rw[apV]at h1 h2;rw[F0,ft (by omega),ft (by omega)];rfl
 |x::l,k,a,c,hk,h1,h2=>by
  rw[apM]at hk h1 h2;have ih:=Wm hN v hb l (k+1) (a++[x]) (c++[gO b k]) (by omega) (by rw[apK,List.length_singleton];omega) (by rw[apK,List.length_singleton];omega);rw[ap0,ap0]at ih;rw[F0,ft (by omega),agW hN hb (by omega),apI,ft (by omega)];exact ih
theorem Lp{N:Nat}(hN:10<N)(F T:aqx aqy){b:aqy}(hb:b.size<=100)(l:aqx aqy)(hl:l.length<=12)(h1:F.length<=100)(h2:T.length<=100):vT N ⟨F,T⟩ l b=some ⟨l++F,iH b 0 l.length++T⟩:=by
 unfold vT;rw[Wm hN ⟨F,T⟩ hb l 0 [] [] (by omega) (by simp only[apV];omega) (by simp only[apV];omega)];rfl
theorem Xg(b:aqy)(l F T:aqx aqy):(l++F).zip (iH b 0 l.length++T)=eO b 0 l++F.zip T:=List.zip_append (uf b l.length 0).symm
theorem Va(N:Nat)(p:aK)(v7:aqx (aqy×aqy)):∀(l:aqx bf)(k:Nat)(a:aqx (aqy×aqy)),k+l.length<=12->a.length+l.length<=1000->
 Dc N p v7 l k a=sG N ((eO (bs [100]) k (l.map (·.ao))).reverse++a) p v7 p.aA 0 []
 |[],k,a,_,_=>by rw[Dc];rfl
 |x::l,k,a,hk,h=>by
  rw[apM]at hk h;rw[Dc,JV N (by decide) (by omega),apI,show Nat.blt a.length 9223372036854775807=true from ft (by omega)];have ih:=Va N p v7 l (k+1) ((x.ao,gO (bs [100]) k)::a) (by omega) (by rw[apM];omega);rw[ap8,Mi,List.reverse_cons,ap0];exact ih
theorem Y6(N:Nat)(p:aK)(v7:aqx (aqy×aqy))(hd:p.ay.length<=12):∀(l:aqx cv)(k:Nat)(a:aqx (aqy×aqy)),k+l.length<=12->a.length+l.length<=500->
 Ev N p v7 l k a=sG N ((eO (bs [100]) 0 (p.ay.map (·.ao))).reverse++((eO (bs [112]) k (l.map (·.ao))).reverse++a)) p v7 p.aA 0 []
 |[],k,a,_,h=>by rw[Ev,Va N p v7 p.ay 0 a (by omega) (by rw[apV]at h;omega)];rfl
 |x::l,k,a,hk,h=>by
  rw[apM]at hk h;rw[Ev,JV N (by decide) (by omega),apI,show Nat.blt a.length 9223372036854775807=true from ft (by omega)];have ih:=Y6 N p v7 hd l (k+1) ((x.ao,gO (bs [112]) k)::a) (by omega) (by rw[apM];omega);rw[ap8,Mi,List.reverse_cons,ap0];exact ih
theorem UH(N:Nat)(p:aK)(hq:p.aG.length<=12)(hd:p.ay.length<=12):∀(l:aqx aqy)(k:Nat)(a:aqx (aqy×aqy)),k+l.length<=12->a.length+l.length<=500->
 AH N p l k a=sG N ((eO (bs [100]) 0 (p.ay.map (·.ao))).reverse++(eO (bs [112]) 0 (p.aG.map (·.ao))).reverse) p ((eO (bs [115]) k l).reverse++a) p.aA 0 []
 |[],k,a,_,h=>by rw[AH,Y6 N p a hd p.aG 0 [] (by omega) (by rw[apV];omega),ap4];rfl
 |x::l,k,a,hk,h=>by
  rw[apM]at hk h;rw[AH,JV N (by decide) (by omega),apI,show Nat.blt a.length 9223372036854775807=true from ft (by omega)];have ih:=UH N p hq hd l (k+1) ((x,gO (bs [115]) k)::a) (by omega) (by rw[apM];omega);rw[Mi,List.reverse_cons,ap0];exact ih
theorem abj(N:Nat)(d:bf)(t:aqx (aqy×aqy)):∀(l:aqx aqy)(k:Nat)(a:aqx (aqy×aqy)),k+l.length<=12->a.length+l.length<=500->
 wB N d t l k a=wB N d t [] 0 ((eO (bs [105]) k l).reverse++a)
 |[],k,a,_,_=>by rw[wB];rfl
 |x::l,k,a,hk,h=>by
  rw[apM]at hk h;rw[wB.eq_2,JV N (by decide) (by omega),apI,show Nat.blt a.length 9223372036854775807=true from ft (by omega)];have ih:=abj N d t l (k+1) ((x,gO (bs [105]) k)::a) (by omega) (by rw[apM];omega);rw[Mi,List.reverse_cons,ap0];exact ih
abbrev Nm:=aqx (aqy×aqy)
def mS(a:aqy)(p:aK):Nm:=eO a 0 p.aA
def mT(b c:aqy)(p:aK):Nm:=eO b 0 (p.aG.map (·.ao))++eO c 0 (p.ay.map (·.ao))
def mV(a d:aqy)(p:aK)(f:bf):Nm:=eO d 0 (dV f)++mS a p
def pK(f:aqy->aqy)(a:cd):cd:=⟨f a.ao,gv f a.cw⟩
def kf(f g:aqy->aqy)(d:bf):bf:=⟨g d.ao,d.aO,d.aP.map (pK f),d.aY.map (pK f),d.cC,dP f g d.cg⟩
def kN(f g:aqy->aqy)(v:bf->aqy->aqy)(p:aK):aK:=
 ⟨p.aA.map f,p.cr.map λc=>⟨gv f c.aS,c.jB⟩,p.aG.map λx=>⟨g x.ao,x.aO,x.aP.map (gv f)⟩,p.ay.map λd=>kf (v d) g d,p.b9.map g⟩
def lL(a b c d:aqy)(p:aK):aK:=kN (bx (mS a p)) (bx (mT b c p)) (λf=>bx (mV a d p f)) p
structure Ao(N:Nat)(V T:Nm)(f:bf):Prop where
 nV:∀x∈f.aP,iS V x.cw
 red:∀x∈f.aY,iS V x.cw
 len:f.aP.length<=6/\f.aY.length<=6
 body:sX V T f.cg
 size:SizeOf.sizeOf f.cg<N
structure AG(N:Nat)(S T:Nm)(V:bf->Nm)(p:aK):Prop where
 s:p.aA.length<=12
 w:p.cr.length<=12
 q:p.aG.length<=12
 d:p.ay.length<=12
 o:p.b9.length<=12
 W:∀c∈p.cr,iS S c.aS
 P:∀x∈p.aG,(∀l∈x.aP,iS S l)/\x.aP.length<=12
 D:∀f∈p.ay,Ao N (V f) T f
theorem yj{m m':Nm}(h:bx m=bx m'){l:aR}(k:iS m l):iS m' l:=by
 unfold iS vb at k ⊢;rw[<-h];exact k
theorem ak3{m m':Nm}(h:bx m=bx m'){i:bH}(k:EH m i):EH m' i:=⟨yj h k.1,λx hx=>yj h (k.2.1 x hx),k.2.2⟩
theorem anM{m m' t t':Nm}(h:bx m=bx m')(h':bx t=bx t'){e:au}(k:sX m t e):sX m' t' e:=λy hy=>
 ⟨yj h (k y hy).fi,λi hi=>ak3 h ((k y hy).idx i hi),(k y hy).li,(k y hy).la,by rw[<-h'];exact(k y hy).nm⟩
theorem agP{N:Nat}{m m' t t':Nm}(h:bx m=bx m')(h':bx t=bx t'){f:bf}(k:Ao N m t f):Ao N m' t' f:=
 ⟨λx hx=>yj h (k.nV x hx),λx hx=>yj h (k.red x hx),k.len,anM h h' k.body,k.size⟩
theorem aot{N:Nat}{S S' T T':Nm}{V V':bf->Nm}{p:aK}(h:bx S=bx S')(h':bx T=bx T')(hv:∀f∈p.ay,bx (V f)=bx (V' f))(k:AG N S T V p):AG N S' T' V' p:=
 ⟨k.s,k.w,k.q,k.d,k.o,λc hc=>yj h (k.W c hc),λx hx=>⟨λl hl=>yj h ((k.P x hx).1 l hl),(k.P x hx).2⟩,λf hf=>agP (hv f hf) h' (k.D f hf)⟩
theorem IY:∀(m:Nm)(s d:aqy),s∈m.map (·.1)->eZ m s d=bx m s
 |(k,v)::l,s,d,h=>by
  rw[eZ,bx];rw[ap8,aqd]at h;cases e:bL k==bL s with
  |true=>rfl
  |false=>
   refine IY l s d (h.resolve_left λh=> ?_);rw[h,BEq.rfl]at e;cases e
theorem aj3(N:Nat)(f:bf)(S T:Nm)(hE:bx T (bs [])=bs [])(hS:S.length<=100)(h:Ao N ((eO (bs [105]) 0 (dV f)).reverse++S) T f):Ld N f S T=some (kf (bx ((eO (bs [105]) 0 (dV f)).reverse++S)) (bx T) f):=by
 have hl:=h.len;have hv:(dV f).length=f.aP.length+f.aY.length:=by unfold dV;rw[apO,apK]
 unfold Ld;rw[Ve N f (by omega),apI];show wB N f T (dV f) 0 S=_;rw[abj N f T (dV f) 0 S (by omega) (by omega)];generalize hV:(eO (bs [105]) 0 (dV f)).reverse++S=V at h;rw[wB,zo,apI,Y5 N V T f.aP h.nV (by omega),apI,Y5 N V T f.aY h.red (by omega),apI];unfold S4;rw[Yk N V T hE N f.cg h.size h.body];rfl
section
variable {N:Nat} {p:aK} {S T:Nm}
theorem ac1(q:aK)(l:aqx aqy):∀(k:Nat)(a:aqx aqy),(∀s∈l,s∈T.map (·.1))->a.length+l.length<=1000->
 BP N q.aA q.cr q.aG q.ay T l k a=some (⟨q.aA,q.cr,q.aG,q.ay,a++l.map (bx T)⟩,0):=by
 induction l with
 |nil=>intro k a _ _;rw[BP,List.map_nil,ap4]
 |cons x l ih=>
  intro k a h hb;rw[apM]at hb;have h2:=ih (k+1) (a++[bx T x]) (λy hy=>h y (apS _ hy)) (by rw[apK,apM,apV];omega);rw[ap0]at h2;rw[BP,IY T x _ (h x apP),ft (by omega)];exact h2
theorem aka(q:aK)(hE:bx T (bs [])=bs [])(hS:S.length<=100)(l:aqx bf):∀(k:Nat)(a:aqx bf),(∀f∈l,Ao N ((eO (bs [105]) 0 (dV f)).reverse++S) T f)->a.length+l.length<=1000->
 Ba N q.aA q.cr q.aG T p S l k a=BP N q.aA q.cr q.aG (a++l.map λf=>kf (bx ((eO (bs [105]) 0 (dV f)).reverse++S)) (bx T) f) T p.b9 0 []:=by
 induction l with
 |nil=>intro k a _ _;rw[Ba,List.map_nil,ap4]
 |cons x l ih=>
  intro k a h hb;rw[apM]at hb;have h2:=ih (k+1) (a++[kf (bx ((eO (bs [105]) 0 (dV x)).reverse++S)) (bx T) x]) (λy hy=>h y (apS _ hy)) (by rw[apK,apM,apV];omega);rw[ap0]at h2;rw[Ba,aj3 N x S T hE hS (h x apP),apI,ft (by omega)];exact h2
theorem aon(q:aK)(l:aqx cv):∀(k:Nat)(a:aqx cv),(∀x∈l,x.ao∈T.map (·.1))->(∀x∈l,(∀y∈x.aP,iS S y)/\x.aP.length<=12)->a.length+l.length<=1000->
 zi N q.aA q.cr T p S l k a=Ba N q.aA q.cr (a++l.map λx=>(⟨bx T x.ao,x.aO,x.aP.map (gv (bx S))⟩:cv)) T p S p.ay 0 []:=by
 induction l with
 |nil=>intro k a _ _ _;rw[zi,List.map_nil,ap4]
 |cons x l ih=>
  intro k a h h' hb;rw[apM]at hb;have hx:=h' x apP;have h2:=ih (k+1) (a++[⟨bx T x.ao,x.aO,x.aP.map (gv (bx S))⟩]) (λy hy=>h y (apS _ hy)) (λy hy=>h' y (apS _ hy)) (by rw[apK,apM,apV];omega);rw[ap0]at h2;rw[zi,YQ N S T x.aP hx.1 (by omega),apI,IY T x.ao _ (h x apP),ft (by omega)];exact h2
theorem afH(q:aK)(l:aqx c8):∀(k:Nat)(a:aqx c8),(∀c∈l,iS S c.aS)->a.length+l.length<=1000->
 zD N q.aA T p S l k a=zi N q.aA (a++l.map λc=>(⟨gv (bx S) c.aS,c.jB⟩:c8)) T p S p.aG 0 []:=by
 induction l with
 |nil=>intro k a _ _;rw[zD,List.map_nil,ap4]
 |cons x l ih=>
  intro k a h hb;rw[apM]at hb;have hx:=h x apP;have h2:=ih (k+1) (a++[⟨gv (bx S) x.aS,x.jB⟩]) (λy hy=>h y (apS _ hy)) (by rw[apK,apM,apV];omega);rw[ap0]at h2;rw[zD,BU N S T x.aS hx.1 hx.2,apI,ft (by omega)];exact h2
theorem amE(l:aqx aqy):∀(k:Nat)(a:aqx aqy),(∀s∈l,s∈S.map (·.1))->a.length+l.length<=1000->
 sG N T p S l k a=zD N (a++l.map (bx S)) T p S p.cr 0 []:=by
 induction l with
 |nil=>intro k a _ _;rw[sG,List.map_nil,ap4]
 |cons x l ih=>
  intro k a h hb;rw[apM]at hb;have h2:=ih (k+1) (a++[bx S x]) (λy hy=>h y (apS _ hy)) (by rw[apK,apM,apV];omega);rw[ap0]at h2;rw[sG,IY S x _ (h x apP),ft (by omega)];exact h2
theorem an4(hE:bx T (bs [])=bs [])(hS:S.length<=100)(h:AG N S T (λf=>(eO (bs [105]) 0 (dV f)).reverse++S) p)(h1:∀s∈p.aA,s∈S.map (·.1))(h2:∀x∈p.aG,x.ao∈T.map (·.1))(h3:∀s∈p.b9,s∈T.map (·.1)):
 sG N T p S p.aA 0 []=some (kN (bx S) (bx T) (λf=>bx ((eO (bs [105]) 0 (dV f)).reverse++S)) p,0):=by
 have l1:=h.s;have l2:=h.w;have l3:=h.q;have l4:=h.d;have l5:=h.o;have k4:=amE (N:=N) (T:=T) (p:=p) p.aA 0 [] h1 (by rw[apV];omega)
 let q:aK:=kN (bx S) (bx T) (λf=>bx ((eO (bs [105]) 0 (dV f)).reverse++S)) p
 have k5:=afH (N:=N) (T:=T) (p:=p) q p.cr 0 [] h.W (by rw[apV];omega);have k6:=aon (N:=N) (T:=T) (p:=p) q p.aG 0 [] h2 h.P (by rw[apV];omega);have k7:=aka (N:=N) (T:=T) (p:=p) q hE hS p.ay 0 [] h.D (by rw[apV];omega);have k8:=ac1 (N:=N) (T:=T) q p.b9 0 [] h3 (by rw[apV];omega);exact k4.trans (k5.trans (k6.trans (k7.trans k8)))
end
section
variable {N:Nat} {p:aK} {F G A B:aqx aqy} {sc:o7}
theorem akw(q:aK)(hB:B.length=A.length)(l:aqx aqy):∀(k:Nat)(a:aqx aqy),a.length+l.length<=1000->
 zL N q.aA q.cr q.aG q.ay ⟨A,B⟩ l k a=some ⟨q.aA,q.cr,q.aG,q.ay,a++l.map (bx (A.zip B))⟩:=by
 induction l with
 |nil=>intro k a _;rw[zL,List.map_nil,ap4]
 |cons x l ih=>
  intro k a hb;rw[apM]at hb;have h2:=ih (k+1) (a++[bx (A.zip B) x]) (by rw[apK,apM,apV];omega);rw[ap0]at h2;rw[zL,vN N x A B hB,apI,ft (by omega)];exact h2
theorem ah5(q:aK)(hN:10<N)(hi:sc.nY.size<=100)(hG:G.length=F.length)(hF:F.length<=100)(hB:B.length=A.length)(l:aqx bf):∀(k:Nat)(a:aqx bf),(∀f∈l,Ao N (eO sc.nY 0 (dV f)++F.zip G) (A.zip B) f)->a.length+l.length<=1000->
 BB N q.aA q.cr q.aG ⟨A,B⟩ p ⟨F,G⟩ sc l k a=zL N q.aA q.cr q.aG (a++l.map λf=>kf (bx (eO sc.nY 0 (dV f)++F.zip G)) (bx (A.zip B)) f) ⟨A,B⟩ p.b9 0 []:=by
 induction l with
 |nil=>intro k a _ _;rw[BB,List.map_nil,ap4]
 |cons x l ih=>
  intro k a h hb;rw[apM]at hb;have hx:=h x apP;have hl:=hx.len;have hv:(dV x).length=x.aP.length+x.aY.length:=by unfold dV;rw[apO,apK]
  have h2:=ih (k+1) (a++[kf (bx (eO sc.nY 0 (dV x)++F.zip G)) (bx (A.zip B)) x]) (λy hy=>h y (apS _ hy)) (by rw[apK,apM,apV];omega);rw[ap0]at h2;have hT:(iH sc.nY 0 (dV x).length++G).length=(dV x++F).length:=by rw[apK,apK,uf,hG]
  have hz:=Xg sc.nY (dV x) F G;rw[<-hz]at hx;rw[BB,MM N x (by omega),apI];show(Option.bind (vT N ⟨F,G⟩ (dV x) sc.nY) _)=_;rw[Lp hN F G hi (dV x) (by omega) hF (by omega),apI,vN N x.ao A B hB,apI,XD N _ _ hT x.aP hx.nV (by omega),apI,XD N _ _ hT x.aY hx.red (by omega),apI];unfold Pp;rw[Zx N _ _ A B hT hB N x.cg hx.size hx.body,apI,ft (by omega),hz];exact h2
theorem aj9(q:aK)(hG:G.length=F.length)(hB:B.length=A.length)(l:aqx cv):∀(k:Nat)(a:aqx cv),(∀x∈l,(∀y∈x.aP,iS (F.zip G) y)/\x.aP.length<=12)->a.length+l.length<=1000->
 z8 N q.aA q.cr ⟨A,B⟩ p ⟨F,G⟩ sc l k a=BB N q.aA q.cr (a++l.map λx=>(⟨bx (A.zip B) x.ao,x.aO,x.aP.map (gv (bx (F.zip G)))⟩:cv)) ⟨A,B⟩ p ⟨F,G⟩ sc p.ay 0 []:=by
 induction l with
 |nil=>intro k a _ _;rw[z8,List.map_nil,ap4]
 |cons x l ih=>
  intro k a h' hb;rw[apM]at hb;have hx:=h' x apP;have h2:=ih (k+1) (a++[⟨bx (A.zip B) x.ao,x.aO,x.aP.map (gv (bx (F.zip G)))⟩]) (λy hy=>h' y (apS _ hy)) (by rw[apK,apM,apV];omega);rw[ap0]at h2;rw[z8,vN N x.ao A B hB,apI,aal N F G hG x.aP hx.1 (by omega),apI,ft (by omega)];exact h2
theorem ajI(q:aK)(hG:G.length=F.length)(l:aqx c8):∀(k:Nat)(a:aqx c8),(∀c∈l,iS (F.zip G) c.aS)->a.length+l.length<=1000->
 AR N q.aA ⟨A,B⟩ p ⟨F,G⟩ sc l k a=z8 N q.aA (a++l.map λc=>(⟨gv (bx (F.zip G)) c.aS,c.jB⟩:c8)) ⟨A,B⟩ p ⟨F,G⟩ sc p.aG 0 []:=by
 induction l with
 |nil=>intro k a _ _;rw[AR,List.map_nil,ap4]
 |cons x l ih=>
  intro k a h hb;rw[apM]at hb;have hx:=h x apP;have h2:=ih (k+1) (a++[⟨gv (bx (F.zip G)) x.aS,x.jB⟩]) (λy hy=>h y (apS _ hy)) (by rw[apK,apM,apV];omega);rw[ap0]at h2;rw[AR,Fb N F G hG x.aS hx.1 hx.2,apI,ft (by omega)];exact h2
theorem afe(hG:G.length=F.length)(l:aqx aqy):∀(k:Nat)(a:aqx aqy),a.length+l.length<=1000->
 F1 N ⟨A,B⟩ p ⟨F,G⟩ sc l k a=AR N (a++l.map (bx (F.zip G))) ⟨A,B⟩ p ⟨F,G⟩ sc p.cr 0 []:=by
 induction l with
 |nil=>intro k a _;rw[F1,List.map_nil,ap4]
 |cons x l ih=>
  intro k a hb;rw[apM]at hb;have h2:=ih (k+1) (a++[bx (F.zip G) x]) (by rw[apK,apM,apV];omega);rw[ap0]at h2;rw[F1,vN N x F G hG,apI,ft (by omega)];exact h2
theorem aiH(v8:aqx aqy)(v3:dO)(l:aqx bf):∀(k:Nat)(a:aqx aqy),a.length+l.length<=1000->
 tE N sc v8 p v3 l k a=tE N sc v8 p v3 [] 0 (a++l.map (·.ao)):=by
 induction l with
 |nil=>intro k a _;rw[tE,tE,List.map_nil,ap4]
 |cons x l ih=>
  intro k a hb;rw[apM]at hb;have h2:=ih (k+1) (a++[x.ao]) (by rw[apK,apM,apV];omega);rw[ap0]at h2;rw[tE.eq_2,ft (by omega)];exact h2
theorem amA(v3:dO)(l:aqx cv):∀(k:Nat)(a:aqx aqy),a.length+l.length<=1000->
 GR N sc p v3 l k a=tE N sc (a++l.map (·.ao)) p v3 p.ay 0 []:=by
 induction l with
 |nil=>intro k a _;rw[GR,List.map_nil,ap4]
 |cons x l ih=>
  intro k a hb;rw[apM]at hb;have h2:=ih (k+1) (a++[x.ao]) (by rw[apK,apM,apV];omega);rw[ap0]at h2;rw[GR,ft (by omega)];exact h2
theorem amy(hN:10<N)(ha:sc.aA.size<=100)(hb:sc.aG.size<=100)(hc:sc.ay.size<=100)(hd:sc.nY.size<=100)(h:AG N (mS sc.aA p) (mT sc.aG sc.ay p) (mV sc.aA sc.nY p) p):
 Ef N p sc=some (lL sc.aA sc.aG sc.ay sc.nY p):=by
 have l1:=h.s;have l2:=h.w;have l3:=h.q;have l4:=h.d;have l5:=h.o;have hz:(⟨[],[]⟩:dO)=OB:=rfl;have m1:(p.ay.map (·.ao)).length=p.ay.length:=apO ..;have m2:(p.aG.map (·.ao)).length=p.aG.length:=apO ..;unfold Ef;rw[<-hz,Lp hN [] [] ha p.aA l1 (Nat.zero_le _) (Nat.zero_le _),apI,amA _ p.aG 0 [] (by rw[apV];omega),aiH _ _ p.ay 0 [] (by rw[apV];omega),List.nil_append,List.nil_append,ap4,ap4];rw[tE,<-hz,Lp hN [] [] hc _ (by omega) (Nat.zero_le _) (Nat.zero_le _),apI,ap4,ap4,Lp hN _ _ hb _ (by omega) (by omega) (by rw[uf];omega),apI];have hG:(iH sc.aA 0 p.aA.length).length=p.aA.length:=uf ..;have hB:(iH sc.aG 0 (p.aG.map (·.ao)).length++iH sc.ay 0 (p.ay.map (·.ao)).length).length=(p.aG.map (·.ao)++p.ay.map (·.ao)).length:=by rw[apK,apK,uf,uf]
 have hT:mT sc.aG sc.ay p=(p.aG.map (·.ao)++p.ay.map (·.ao)).zip (iH sc.aG 0 (p.aG.map (·.ao)).length++iH sc.ay 0 (p.ay.map (·.ao)).length):=(Xg _ _ _ _).symm;rw[hT]at h
 let q:aK:=lL sc.aA sc.aG sc.ay sc.nY p
 have k3:=afe (N:=N) (p:=p) (sc:=sc) (A:=p.aG.map (·.ao)++p.ay.map (·.ao)) (B:=iH sc.aG 0 (p.aG.map (·.ao)).length++iH sc.ay 0 (p.ay.map (·.ao)).length) hG p.aA 0 [] (by rw[apV];omega);have k4:=ajI (N:=N) (p:=p) (sc:=sc) (A:=p.aG.map (·.ao)++p.ay.map (·.ao)) (B:=iH sc.aG 0 (p.aG.map (·.ao)).length++iH sc.ay 0 (p.ay.map (·.ao)).length) q hG p.cr 0 [] h.W (by rw[apV];omega);have k5:=aj9 (N:=N) (p:=p) (sc:=sc) q hG hB p.aG 0 [] h.P (by rw[apV];omega);have k6:=ah5 (p:=p) (sc:=sc) q hN hd hG (by omega) hB p.ay 0 [] h.D (by rw[apV];omega);have k7:=akw (N:=N) q hB p.b9 0 [] (by rw[apV];omega);rw[<-hT]at k5 k6 k7;exact k3.trans (k4.trans (k5.trans (k6.trans k7)))
end
set_option maxRecDepth 100000
structure bdX(x:bH):Prop where
 fi:lQ 1000000 x.aS
 at_:x.bO.length<=1000000
 q7:∀l∈x.bO,lQ 1000000 l
structure bdN(e:au):Prop where
 fi:lQ 1000000 e.aS
 idx:e.xIdx.length<=1000000
 each:∀x∈e.xIdx,bdX x
 args:e.bp.length<=1000000
def O9(e:au):Prop:=∀y∈cM e,bdN y
theorem O9.ok{e:au}(h:O9 e):pA e:=λy hy=>
 ⟨ap1 (h y hy).fi (by decide),λx hx=>⟨ap1 ((h y hy).each x hx).fi (by decide),λl hl=>ap1 (((h y hy).each x hx).q7 l hl) (by decide)⟩,ap1 (h y hy).args (by decide)⟩
structure AI(B:Nat)(x:bH):Prop where
 fi:x.aS.xL.length<=B
 at_:x.bO.length<=B
 q7:∀l∈x.bO,l.xL.length<=B
structure Da(B:Nat)(e:au):Prop where
 fi:e.aS.xL.length<=B
 idx:e.xIdx.length<=B
 each:∀x∈e.xIdx,AI B x
 args:e.bp.length<=B
def iz(B:Nat)(e:au):Prop:=∀y∈cM e,Da B y
theorem iz.arg{B:Nat}{e x:au}(h:iz B e)(hx:x∈e.bp):iz B x:=λy hy=>h y (Gn hx hy)
theorem AI.mono{A B:Nat}(h:A<=B){x:bH}(k:AI A x):AI B x:=⟨ap1 k.fi h,ap1 k.at_ h,λl hl=>ap1 (k.q7 l hl) h⟩
theorem Da.mono{A B:Nat}(h:A<=B){e:au}(k:Da A e):Da B e:=⟨ap1 k.fi h,ap1 k.idx h,λx hx=>(k.each x hx).mono h,ap1 k.args h⟩
abbrev rj:Nat:=140737488355328
theorem yX{a b:Nat}(h:a+b<=9223372036854775807):bl ((a:Int)+(b:Int))=((a+b:Nat):Int):=by
 rw[<-Int.natCast_add];exact E8 h
def Wt(m n:Nat)(Q:Prop)(r:aqz Int):Prop:=∃v:Nat,r=some (v:Int)/\n<=v/\v<=m+500000000000000/\(v<=m->Q)
theorem P5(N:Nat)(m:Nat)(hm:m<=100000)(rec:au->Int->aqz Int)(sD:au->Prop)(hr:∀(x:au)(q:Nat),q<=m->sD x->Wt q 1 (iz q x) (rec x (q:Int))):∀(l:aqx au)(k v:Nat),v<=m+500000000000000->(∀x∈l,sD x)->
 Wt m v (v+l.length<=m/\∀x∈l,iz m x) (xH N (m:Int) rec l k (v:Int))/\zR N (m:Int) rec l k (v:Int)=xH N (m:Int) rec l k (v:Int)
 |[],k,v,hv,_=>⟨⟨v,rfl,apU _,by omega,λh=>⟨h,λ_ h=>by cases h⟩⟩,rfl⟩
 |x::l,k,v,hv,hx=>by
  rw[xH,zR,wV];by_cases h:v<=m
  ·rw[aqq h,cond_true,cond_true,show bl ((m:Int)-(v:Int))=((m-v:Nat):Int) by rw[show(m:Int)-(v:Int)=((m-v:Nat):Int) by omega];exact E8 (by omega)];obtain⟨n,e1,e2,e3,e4⟩:=hr x (m-v) (Nat.sub_le _ _) (hx x apP);rw[e1,apI,apI];dsimp only;rw[yX (by omega)];by_cases hn:v+n<=m
   ·obtain⟨⟨u,f1,f2,f3,f4⟩,f5⟩:=P5 N m hm rec sD hr l (k+1) (v+n) (by omega) λy hy=>hx y (apS _ hy);refine⟨⟨u,f1,by omega,f3,λhu=> ?_⟩,f5⟩;obtain⟨g1,g2⟩:=f4 hu;refine⟨by simp only[apM];omega,λy hy=> ?_⟩;rcases aqd.1 hy with rfl|hy
    ·exact λz hz=>(e4 (by omega) z hz).mono (by omega)
    ·exact g2 y hy
   ·have stop:∀(l:aqx au)(k:Nat),xH N (m:Int) rec l k ((v+n:Nat):Int)=some ((v+n:Nat):Int)/\zR N (m:Int) rec l k ((v+n:Nat):Int)=some ((v+n:Nat):Int):=by
     intro l k;cases l with
     |nil=>exact⟨rfl,rfl⟩
     |cons y l=>rw[xH,zR,wV,aqr hn];exact⟨rfl,rfl⟩
    rw[(stop l (k+1)).1,(stop l (k+1)).2];exact⟨⟨v+n,rfl,by omega,by omega,λh=>absurd h hn⟩,rfl⟩
  ·rw[aqr h];exact⟨⟨v,rfl,apU _,by omega,λh'=>absurd h' h⟩,rfl⟩
theorem acD(N:Nat)(m:Nat)(hm:m<=100000)(c:Int->aqz Int)(lo:Nat)(Q:Prop)(hc:∀v:Nat,v<=m+500000000000000->lo<=v->Wt m v Q (c (v:Int))):∀(l:aqx aR)(k v:Nat),v<=m+500000000000000->lo<=v->(∀x∈l,x.xL.length<=rj)->
 Wt m v (Q/\∀x∈l,x.xL.length<=m) (I2 N c (m:Int) l k (v:Int))
 |[],k,v,hv,kp,_=>by
  obtain⟨u,h1,h2,h3,h4⟩:=hc v hv kp;exact⟨u,h1,h2,h3,λh=>⟨h4 h,λ_ h=>by cases h⟩⟩
 |x::l,k,v,hv,kp,hx=>by
  rw[I2,wV];by_cases h:v<=m
  ·have xE:x.xL.length<=140737488355328:=hx x apP;rw[aqq h,cond_true];dsimp only;rw[yX (by omega)];obtain⟨u,f1,f2,f3,f4⟩:=acD N m hm c lo Q hc l (k+1) (v+x.xL.length) (by omega) (by omega) λy hy=>hx y (apS _ hy);refine⟨u,f1,by omega,f3,λhu=>⟨(f4 hu).1,λy hy=> ?_⟩⟩;rcases aqd.1 hy with rfl|hy
   ·omega
   ·exact(f4 hu).2 y hy
  ·rw[aqr h,cond_false];obtain⟨u,h1,h2,h3,h4⟩:=hc v hv kp;exact⟨u,h1,h2,h3,λhu=>absurd (ap1 h2 hu) h⟩
theorem Xx(N:Nat)(m:Nat)(hm:m<=100000)(rec:au->Int->aqz Int)(sD:au->Prop)(hr:∀(x:au)(q:Nat),q<=m->sD x->Wt q 1 (iz q x) (rec x (q:Int)))(e:au)(ha:∀x∈e.bp,sD x):∀(l:aqx bH)(k v:Nat),v<=m+500000000000000->(∀x∈l,AI rj x)->
 Wt m v ((e.bp.length<=m/\∀x∈e.bp,iz m x)/\∀x∈l,AI m x) (zh N (m:Int) rec e l k (v:Int))
 |[],k,v,hv,_=>by
  rw[zh];obtain⟨u,h1,h2,h3,h4⟩:=(P5 N m hm rec sD hr e.bp 0 v hv ha).1;exact⟨u,h1,h2,h3,λh=>⟨⟨by have:=(h4 h).1;omega,(h4 h).2⟩,λ_ h=>by cases h⟩⟩
 |x::l,k,v,hv,hx=>by
  rw[zh,wV];by_cases h:v<=m
  ·have xE:=hx x apP;have h1:x.aS.xL.length<=140737488355328:=xE.fi;have h2:x.bO.length<=140737488355328:=xE.at_;rw[aqq h,cond_true,yX (by omega),yX (by omega)];obtain⟨u,f1,f2,f3,f4⟩:=acD N m hm (λbq=>zh N (m:Int) rec e l (k+1) bq) 0 _ (λv hv _=>Xx N m hm rec sD hr e ha l (k+1) v hv λy hy=>hx y (apS _ hy)) x.bO 0 (v+x.aS.xL.length+x.bO.length) (by omega) (Nat.zero_le _) xE.q7;refine⟨u,f1,by omega,f3,λhu=> ?_⟩;obtain⟨⟨g1,g2⟩,g3⟩:=f4 hu;refine⟨g1,λy hy=> ?_⟩;rcases aqd.1 hy with rfl|hy
   ·exact⟨by omega,by omega,g3⟩
   ·exact g2 y hy
  ·rw[aqr h,cond_false];obtain⟨⟨u,h1,h2,h3,h4⟩,h5⟩:=P5 N m hm rec sD hr e.bp 0 v hv ha;rw[h5];exact⟨u,h1,h2,h3,λhu=>absurd (ap1 h2 hu) h⟩
theorem T8(N:Nat):∀(d:Nat)(e:au)(m:Nat),m<=100000->SizeOf.sizeOf e<d->iz rj e->Wt m 1 (iz m e) (vp N d e (m:Int))
 |0,_,_,_,h,_=>absurd h (aqb _)
 |d+1,e,m,hm,h,hl=>by
  have he:=hl e apP;have h1:e.aS.xL.length<=140737488355328:=he.fi;have h2:e.xIdx.length<=140737488355328:=he.idx;rw[vp,show(1:Int)=((1:Nat):Int)from rfl,yX (by omega),yX (by omega)];obtain⟨u,f1,f2,f3,f4⟩:=Xx N m hm (vp N d) (λx=>SizeOf.sizeOf x<d/\iz rj x) (λx q hq hx=>T8 N d x q (by omega) hx.1 hx.2) e (λx hx=>⟨by have:=tK hx;omega,hl.arg hx⟩) e.xIdx 0 (1+e.aS.xL.length+e.xIdx.length) (by omega) he.each;refine⟨u,f1,by omega,f3,λhu=> ?_⟩;obtain⟨⟨g1,g2⟩,g3⟩:=f4 hu;intro y hy;rcases aqd.1 hy with rfl|hy
  ·exact⟨by omega,by omega,g3,g1⟩
  ·obtain⟨x,hx,hy⟩:=MD hy;exact g2 x hx y hy
structure K8(d:bf):Prop where
 nV:d.aP.length<=12
 red:d.aY.length<=12
 Cr:∀a∈d.aP++d.aY,a.cw.xL.length<=20
 body:iz 300 d.cg
structure nL(p:aK):Prop where
 s:p.aA.length<=12
 w:p.cr.length<=12
 q:p.aG.length<=12
 d:p.ay.length<=12
 o:p.b9.length<=12
 W:∀c∈p.cr,c.aS.xL.length<=20
 P:∀x∈p.aG,x.aP.length<=12/\∀y∈x.aP,y.xL.length<=20
 D:∀d∈p.ay,K8 d
def Bt(Q:Prop)(r:aqz Bool):Prop:=∃b,r=some b/\(b=false->Q)
theorem Bt.mono{Q R:Prop}{r:aqz Bool}(h:Bt Q r)(f:Q->R):Bt R r:=let ⟨b,h1,h2⟩:=h;⟨b,h1,λe=>f (h2 e)⟩
theorem P7(n:Nat):decide ((n:Int)>20)= !decide (n<=20):=kG n 20
theorem vg(n:Nat):decide ((n:Int)>12)= !decide (n<=12):=kG n 12
theorem Wg(N:Nat):∀(l:aqx aR)(k:Nat),Bt (∀y∈l,y.xL.length<=20) (LC N l k)
 |[],_=>⟨_,rfl,λ_ _ h=>by cases h⟩
 |x::l,k=>by
  rw[LC,P7];by_cases h:x.xL.length<=20
  ·rw[aqq h];refine(Wg N l (k+1)).mono λg y hy=> ?_;rcases aqd.1 hy with rfl|hy
   ·exact h
   ·exact g y hy
  ·rw[aqr h];exact⟨true,rfl,λh=>by cases h⟩
theorem VW(N:Nat)(d:bf)(c:aqz Bool)(Q:Prop)(hc:Bt Q c)(h1:d.aP.length<=12)(h2:d.aY.length<=12):∀(n k:Nat),k<=d.aP.length+d.aY.length->d.aP.length+d.aY.length-k<n->
 Bt (Q/\∀a∈(d.aP++d.aY).drop k,a.cw.xL.length<=20) (E6 N d c n (k:Int))
 |0,k,_,h=>absurd h (aqb _)
 |n+1,k,hk,h=>by
  rw[E6,yX (by omega)];by_cases hl:k<d.aP.length+d.aY.length
  ·have qc:k<(d.aP++d.aY).length:=by rw[apK];exact hl
   rw[show decide ((k:Int)<((d.aP.length+d.aY.length:Nat):Int))=true from aqq (by omega),mz (by omega),mz (by omega),show decide ((0:Int)<=(k:Int))=true from aqq (by omega),cond_true,cond_true,cond_true,cond_true,aqa,apN qc,apI,P7,List.drop_eq_getElem_cons qc,GG (by omega)];by_cases cH:((d.aP++d.aY)[k]).cw.xL.length<=20
   ·rw[aqq cH];refine(VW N d c Q hc h1 h2 n (k+1) (by omega) (by omega)).mono fun⟨g1,g2⟩=>⟨g1,λy hy=> ?_⟩;rcases aqd.1 hy with rfl|hy
    ·exact cH
    ·exact g2 y hy
   ·rw[aqr cH];exact⟨true,rfl,λh=>by cases h⟩
  ·rw[show decide ((k:Int)<((d.aP.length+d.aY.length:Nat):Int))=false from aqr (by omega),cond_false,List.drop_eq_nil_of_le (by rw[apK];omega)];exact hc.mono λg=>⟨g,λ_ h=>by cases h⟩
theorem Xw(N m:Nat)(hm:m<=300)(hN:1000<N):∀(l:aqx bf)(k:Nat),(∀d∈l,iz rj d.cg/\SizeOf.sizeOf d.cg<N)->Bt (∀d∈l,K8 d) (GN N (m:Int) l k)
 |[],_,_=>⟨_,rfl,λ_ _ h=>by cases h⟩
 |d::l,k,hd=>by
  obtain⟨d1,d2⟩:=hd d apP;have ih:=Xw N m hm hN l (k+1) λy hy=>hd y (apS _ hy);obtain⟨v,w1,w2,w3,w4⟩:=T8 N N d.cg m (by omega) d2 d1;rw[GN,vg,vg];unfold Sc;rw[w1,apI,show decide ((v:Int)>(m:Int))= !decide (v<=m)from kG v m];by_cases h1:d.aP.length<=12
  ·rw[aqq h1];by_cases h2:d.aY.length<=12
   ·rw[aqq h2];by_cases h3:v<=m
    ·rw[aqq h3];have:=VW N d _ _ ih h1 h2 N 0 (Nat.zero_le _) (by omega);rw[aqi]at this;refine Bt.mono this fun⟨g1,g2⟩ y hy=> ?_;rcases aqd.1 hy with rfl|hy
     ·exact⟨h1,h2,g2,λz hz=>(w4 h3 z hz).mono hm⟩
     ·exact g1 y hy
    ·rw[aqr h3];exact⟨true,rfl,λh=>by cases h⟩
   ·rw[aqr h2];exact⟨true,rfl,λh=>by cases h⟩
  ·rw[aqr h1];exact⟨true,rfl,λh=>by cases h⟩
theorem YC(N m:Nat)(hm:m<=300)(hN:1000<N)(p:aK)(hd:∀d∈p.ay,iz rj d.cg/\SizeOf.sizeOf d.cg<N):∀(l:aqx cv)(k:Nat),Bt ((∀d∈p.ay,K8 d)/\∀x∈l,x.aP.length<=12/\∀y∈x.aP,y.xL.length<=20) (Je N (m:Int) p l k)
 |[],_=>(Xw N m hm hN p.ay 0 hd).mono λg=>⟨g,λ_ h=>by cases h⟩
 |x::l,k=>by
  obtain⟨b,b1,b2⟩:=Wg N x.aP 0;rw[Je,vg];unfold M9;rw[b1,apI];by_cases h:x.aP.length<=12
  ·rw[aqq h];cases b with
   |true=>exact⟨true,rfl,λh=>by cases h⟩
   |false=>
    refine(YC N m hm hN p hd l (k+1)).mono fun⟨g1,g2⟩=>⟨g1,λy hy=> ?_⟩;rcases aqd.1 hy with rfl|hy
    ·exact⟨h,b2 rfl⟩
    ·exact g2 y hy
  ·rw[aqr h];exact⟨true,rfl,λh=>by cases h⟩
theorem abU(N m:Nat)(hm:m<=300)(hN:1000<N)(p:aK)(hd:∀d∈p.ay,iz rj d.cg/\SizeOf.sizeOf d.cg<N):∀(l:aqx c8)(k:Nat),Bt (((∀d∈p.ay,K8 d)/\∀x∈p.aG,x.aP.length<=12/\∀y∈x.aP,y.xL.length<=20)/\∀c∈l,c.aS.xL.length<=20) (JP N (m:Int) p l k)
 |[],_=>(YC N m hm hN p hd p.aG 0).mono λg=>⟨g,λ_ h=>by cases h⟩
 |c::l,k=>by
  rw[JP,P7];by_cases h:c.aS.xL.length<=20
  ·rw[aqq h];refine(abU N m hm hN p hd l (k+1)).mono fun⟨g1,g2⟩=>⟨g1,λy hy=> ?_⟩;rcases aqd.1 hy with rfl|hy
   ·exact h
   ·exact g2 y hy
  ·rw[aqr h];exact⟨true,rfl,λh=>by cases h⟩
theorem ahV(N m:Nat)(hm:m<=300)(hN:1000<N)(p:aK)(hd:∀d∈p.ay,iz rj d.cg/\SizeOf.sizeOf d.cg<N):Bt (nL p) (EB N p (m:Int)):=by
 unfold EB;rw[vg,vg,vg,vg,vg];by_cases h1:p.aA.length<=12
 ·by_cases h2:p.cr.length<=12
  ·by_cases h3:p.aG.length<=12
   ·by_cases h4:p.ay.length<=12
    ·by_cases h5:p.b9.length<=12
     ·rw[aqq h1,aqq h2,aqq h3,aqq h4,aqq h5];exact(abU N m hm hN p hd p.cr 0).mono fun⟨⟨g1,g2⟩,g3⟩=>⟨h1,h2,h3,h4,h5,g3,g2,g1⟩
     ·rw[aqq h1,aqq h2,aqq h3,aqq h4,aqr h5];exact⟨true,rfl,λh=>by cases h⟩
    ·rw[aqq h1,aqq h2,aqq h3,aqr h4];exact⟨true,rfl,λh=>by cases h⟩
   ·rw[aqq h1,aqq h2,aqr h3];exact⟨true,rfl,λh=>by cases h⟩
  ·rw[aqq h1,aqr h2];exact⟨true,rfl,λh=>by cases h⟩
 ·rw[aqr h1];exact⟨true,rfl,λh=>by cases h⟩
theorem zZ:∀(m:Nm)(s:aqy),s∈m.map (·.1)->∃p∈m,p.1=s/\bx m s=p.2
 |(k,v)::l,s,h=>by
  rw[ap8,aqd]at h;rw[bx];cases e:bL k==bL s with
  |true=>exact⟨(k,v),apP,iL (by simpa using e),rfl⟩
  |false=>
   obtain⟨p,h1,h2,h3⟩:=zZ l s (h.resolve_left λh=>by rw[h,BEq.rfl]at e;cases e);exact⟨p,apS _ h1,h2,h3⟩
theorem Zb:∀(m:Nm),(m.map (·.2)).Nodup->∀p∈m,∀q∈m,p.2=q.2->p=q
 |x::l,h,p,hp,q,hq,e=>by
  rw[ap8,List.nodup_cons]at h;obtain⟨h1,h2⟩:=h;rcases aqd.1 hp with e1|k1
  ·rcases aqd.1 hq with e2|k2
   ·rw[e1,e2]
   ·exact absurd (List.mem_map.2 ⟨q,k2,by rw[<-e,e1]⟩) h1
  ·rcases aqd.1 hq with e2|k2
   ·exact absurd (List.mem_map.2 ⟨p,k1,by rw[e,e2]⟩) h1
   ·exact Zb l h2 p k1 q k2 e
theorem M7{m:Nm}(hv:(m.map (·.2)).Nodup){x y:aqy}(hx:x∈m.map (·.1))(hy:y∈m.map (·.1))(h:bx m x=bx m y):x=y:=by
 obtain⟨p,p1,p2,p3⟩:=zZ m x hx;obtain⟨q,q1,q2,q3⟩:=zZ m y hy;rw[p3,q3]at h;rw[<-p2,<-q2,Zb m hv p p1 q q1 h]
def oM(V:aqx aqy)(f:aqy->aqy):Prop:=∀x∈V,∀y∈V,f x=f y->x=y
theorem oM.sub{V W:aqx aqy}{f:aqy->aqy}(h:oM V f)(hs:∀x∈W,x∈V):oM W f:=λx hx y hy=>h x (hs x hx) y (hs y hy)
theorem QH:∀(l:aqx bt)(p:aqz aqy),pw p l=true->(l.Pairwise λa b=>bL a.ao<bL b.ao)/\∀q,p=some q->∀x∈l,bL q<bL x.ao
 |[],_,_=>⟨.nil,λ_ _ _ h=>by cases h⟩
 |m::l,p,h=>by
  rw[BA,apL,apL,apL]at h;obtain⟨h1,h2⟩:=QH l (some m.ao) h.2.2.2;refine⟨List.pairwise_cons.2 ⟨h2 _ rfl,h1⟩,λq e x hx=> ?_⟩;subst e;have h3:bL q<bL m.ao:=by
    have:=h.2.2.1;dsimp only at this;rw[bytesLess_eq,decide_eq_true_iff]at this;exact this
  rcases aqd.1 hx with rfl|hx
  ·exact h3
  ·exact List.lt_trans h3 (h2 _ rfl x hx)
theorem HL{V:aqx aqy}{l:aR}(h:ic V l=true):∀x∈l.xL,x.ao∈V:=λx hx=>tC.1 (ap9.1 h x hx)
theorem zk{V:aqx aqy}{m:Nm}(hi:oM V (bx m)){l:aR}(h1:dF l=true)(h2:ic V l=true):vb m l:=by
 unfold vb;rw[List.pairwise_map];have hp:=(QH l.xL none h1).1;have hm:=HL h2;refine hp.imp_of_mem fun{a b} ha hb B4 e=> ?_;have e2:=hi _ (hm a ha) _ (hm b hb) (iL e);rw[e2]at B4;exact List.lt_irrefl _ B4
theorem ZJ{m:Nm}{l:aR}(h:kt l=true):vb m l:=by
 unfold kt at h;rw[apL,beq_iff_eq,beq_iff_eq]at h;unfold vb;rw[List.eq_nil_of_length_eq_zero h.2];exact .nil
theorem dU{n:Nat}(h:n<=300):(n+1)*24<=140737488355328:=by omega
theorem xe{S:aqx aqy}{l:aR}(h:fz S l=0):dF l=true/\ic S l=true:=by
 unfold fz at h;cases h1:dF l with
 |false=>rw[h1]at h;cases h
 |true=>
  rw[h1]at h;cases h2:ic S l with
  |false=>rw[h2]at h;cases h
  |true=>exact⟨rfl,rfl⟩
theorem GH{V:aqx aqy}{l:aR}(h:kA V l=0):ic V l=true:=by
 unfold kA at h;cases h2:ic V l with
 |false=>rw[h2]at h;cases h
 |true=>rfl
theorem CB{S:aqx aqy}:∀(l:aqx cd)(O:aqx aqy),lu S O l=0->(∀a∈l,cO a.ao=true/\a.ao ∉ S++O/\fz S a.cw=0)/\(l.map (·.ao)).Nodup
 |[],_,_=>⟨λs hs=>(by cases hs),List.nodup_nil⟩
 |a::l,O,h=>by
  rw[lu]at h;cases e:fE (S++O) a.ao !=0 with
  |true=>rw[e,cond_true]at h;rw[h]at e;cases e
  |false=>
   rw[e,cond_false]at h;cases e2:fz S a.cw !=0 with
   |true=>rw[e2,cond_true]at h;rw[h]at e2;cases e2
   |false=>
    rw[e2,cond_false]at h;obtain⟨h1,h2⟩:=tc (fO e);obtain⟨k1,k2⟩:=CB l (O++[a.ao]) h;refine⟨λx hx=> ?_,List.nodup_cons.2 ⟨λhs=> ?_,k2⟩⟩
    ·rcases aqd.1 hx with rfl|hx
     ·exact⟨h1,h2,fO e2⟩
     ·obtain⟨a1,a2,a3⟩:=k1 x hx;exact⟨a1,λhm=>a2 (by rcases aql.1 hm with hm|hm<;>simp [hm]),a3⟩
    ·obtain⟨y,hy,ey⟩:=List.mem_map.1 hs;exact(k1 y hy).2.1 (by rw[show y.ao=a.ao from ey];simp)
theorem qO(a b:aqy):bL (a++b)=bL a++bL b:=by unfold bL;rw[ByteArray.data_append,Array.toList_append]
theorem aj8:∀k:Fin 12,∀j:Fin 12,bL (wT k.val)=bL (wT j.val)->k=j:=by decide
theorem aeg{b:aqy}{k j:Nat}(hk:k<12)(hj:j<12)(h:gO b k=gO b j):k=j:=by
 have h1:bL b++bL (wT k)=bL b++bL (wT j):=by rw[<-qO,<-qO];exact congrArg bL h
 exact congrArg Fin.val (aj8 ⟨k,hk⟩ ⟨j,hj⟩ (List.append_cancel_left h1))
theorem DW{b s:aqy}:∀{n k:Nat},s∈iH b k n->∃j,k<=j/\j<k+n/\s=gO b j
 |n+1,k,h=>by
  rw[iH]at h;rcases aqd.1 h with rfl|h
  ·exact⟨k,apU _,by omega,rfl⟩
  ·obtain⟨j,h1,h2,h3⟩:=DW h;exact⟨j,by omega,by omega,h3⟩
theorem Me(b:aqy):∀n k:Nat,k+n<=12->(iH b k n).Nodup
 |0,_,_=>List.nodup_nil
 |n+1,k,h=>by
  rw[iH];refine List.nodup_cons.2 ⟨λhm=> ?_,Me b n (k+1) (by omega)⟩;obtain⟨j,h1,h2,h3⟩:=DW hm;have:=aeg (by omega) (by omega) h3;omega
def rS(a d:aqy):Prop:=∃x y,(bL a).head?=some x/\(bL d).head?=some y/\x≠y
theorem aaX{b:aqy}{x:UInt8}(h:(bL b).head?=some x)(k:Nat):(bL (gO b k)).head?=some x:=by
 unfold gO;rw[qO,List.head?_append,h];rfl
theorem T9{a d:aqy}(h:rS a d)(n m:Nat)(hn:n<=12)(hm:m<=12):(iH a 0 n++iH d 0 m).Nodup:=by
 obtain⟨x,y,h1,h2,h3⟩:=h;rw[List.nodup_append];refine⟨Me a n 0 (by omega),Me d m 0 (by omega),λs hs t ht e=> ?_⟩;obtain⟨i,_,_,rfl⟩:=DW hs;obtain⟨j,_,_,rfl⟩:=DW ht;have:=aaX h1 i;rw[e,aaX h2 j]at this;exact h3 (ap2 this).symm
theorem rS.symm{a d:aqy}(h:rS a d):rS d a:=let ⟨x,y,h1,h2,h3⟩:=h;⟨y,x,h2,h1,λe=>h3 e.symm⟩
section
variable {N:Nat} {p:aK} {a b c d:aqy}
theorem DT:(mS a p).map (·.1)=p.aA:=Av ..
theorem FB:(mT b c p).map (·.1)=p.aG.map (·.ao)++p.ay.map (·.ao):=by unfold mT;rw[List.map_append,Av,Av]
theorem KY{f:bf}:(mV a d p f).map (·.1)=dV f++p.aA:=by unfold mV;rw[List.map_append,Av,DT]
theorem OL(h:p.aA.length<=12):oM p.aA (bx (mS a p)):=λx hx y hy e=>M7 (m:=mS a p) (by unfold mS;rw[AU];exact Me a _ 0 (by omega)) (by rw[DT];exact hx) (by rw[DT];exact hy) e
theorem Vs{f:bf}(ha:rS a d)(h:p.aA.length<=12)(hv:(dV f).length<=12):oM (dV f++p.aA) (bx (mV a d p f)):=λx hx y hy e=>M7 (m:=mV a d p f) (by unfold mV mS;rw[List.map_append,AU,AU];exact T9 ha.symm _ _ hv h) (by rw[KY];exact hx) (by rw[KY];exact hy) e
theorem adk:cO (bs [])=false:=rfl
theorem VP.o9(V:VP p):∀s∈p.aG.map (·.ao)++p.ay.map (·.ao),cO s=true:=λs hs=>by
 rcases aql.1 hs with hs|hs
 ·obtain⟨x,hx,rfl⟩:=List.mem_map.1 hs;exact((Dp _ _ V.sx).1 x hx).1
 ·obtain⟨x,hx,rfl⟩:=List.mem_map.1 hs;exact((Sj _ _ V.defs).1 x hx).1
theorem VP.aof(V:VP p):(p.aG.map (·.ao)++p.ay.map (·.ao)).Nodup:=by
 obtain⟨_,h1⟩:=Dp _ _ V.sx;obtain⟨h2,h3⟩:=Sj _ _ V.defs;refine List.nodup_append.2 ⟨h1,h3,λs hs t ht e=> ?_⟩;obtain⟨x,hx,rfl⟩:=List.mem_map.1 ht;exact(h2 x hx).2 (List.mem_append_right _ (e▸hs))
theorem SL(V:VP p):bx (mT b c p) (bs [])=bs []:=KU _ _ (by
 rw[FB];intro h;have:=V.o9 _ h;rw[adk]at this;cases this)
theorem Wp{y:au}(h:iA y=true)(h2:y.aJ≠2):kt y.aS=true:=by
 unfold iA at h;simp only[apL,Bool.or_eq_true,beq_iff_eq]at h;exact h.2.2.2.2.1.resolve_left h2
theorem Iu{y:au}(h:iA y=true)(h2:y.aJ≠3):y.ao=bs []/\y.xIdx=[]:=by
 unfold iA at h;simp only[apL,Bool.or_eq_true,beq_iff_eq]at h;obtain⟨h3,h4⟩:=h.2.2.2.2.2.1.resolve_left h2;exact⟨iL h3,List.eq_nil_of_length_eq_zero h4⟩
theorem BM{y:au}(h:iA y=true):∀i∈y.xIdx,kh i=true:=by
 unfold iA at h;simp only[apL]at h;exact ap9.1 h.2.2.2.2.2.2
theorem Tb{y:au}(h:mC y=true):dF y.aS=true/\∀i∈y.xIdx,dF i.aS=true/\∀l∈i.bO,dF l=true:=by
 unfold mC nE at h;rw[apL,aqt,apL,List.all_flatMap]at h;refine⟨h.2.1,λi hi=> ?_⟩;have:=ap9.1 h.2.2 i hi;unfold uA at this;rw[aqt,apL]at this;exact⟨this.1,ap9.1 this.2⟩
theorem Kf{V:aqx aqy}{P:aqx cv}{D:aqx bf}{e:au}(h:lV V P D e=0):∀i∈e.xIdx,mE V P D i=0:=by
 unfold lV at h;cases h1:(dz P D e.ao).2.2 with
 |false=>rw[h1]at h;cases h
 |true=>
  rw[h1,cond_true]at h;cases h2:e.xIdx.length==(dz P D e.ao).2.1.length with
  |false=>rw[h2]at h;cases h
  |true=>rw[h2,cond_true]at h;exact vt h
theorem KM{V:aqx aqy}{P:aqx cv}{D:aqx bf}{i:bH}(h:mE V P D i=0)(hb:kh i=true):(ic V i.aS=true/\i.bO=[])\/(kt i.aS=true/\∀l∈i.bO,ic V l=true):=by
 unfold mE at h;unfold kh at hb;cases h1:bL i.bR==[]with
 |true=>
  rw[h1,cond_true]at h hb;exact .inl ⟨GH h,List.eq_nil_of_length_eq_zero (by simpa using hb)⟩
 |false=>
  rw[h1,cond_false]at h hb;refine .inr ⟨hb,?_⟩;cases h2:(dz P D i.bR).2.2 with
  |false=>rw[h2]at h;cases h
  |true=>
   rw[h2,cond_true]at h;cases h3:(dz P D i.bR).1.b7 !=3 with
   |true=>rw[h3]at h;cases h
   |false=>
    rw[h3,cond_false]at h;cases h4:i.bO.length==(dz P D i.bR).2.1.length with
    |false=>rw[h4]at h;cases h
    |true=>rw[h4,cond_true]at h;exact λl hl=>GH (vt h l hl)
theorem amb{k:Nat}{f:bf}{V T:Nm}(g:AO p k f)(hl:iz 300 f.cg)(hi:oM (dV f++p.aA) (bx V))(hE:bx T (bs [])=bs []):sX V T f.cg:=λy hy=>by
 obtain⟨e1,e2,e3,e4,e5⟩:=AW (Bc g.body y hy);obtain⟨f1,f2⟩:=Tb e5;have ln:=hl y hy;refine⟨⟨?_,dU ln.fi⟩,λi de=> ?_,?_,?_,λh3=> ?_⟩
 ·by_cases h2:y.aJ=2
  ·exact zk hi f1 (GH (g.q7 y hy h2))
  ·exact ZJ (Wp e1 h2)
 ·by_cases h3:y.aJ=3
  ·have lx:=ln.each i de;have PY:=lx.at_;obtain⟨g1,g2⟩:=f2 i de;refine⟨⟨?_,dU lx.fi⟩,λl hl=>⟨?_,dU (lx.q7 l hl)⟩,by omega⟩
   ·rcases KM (Kf (g.reads y hy h3) i de) (BM e1 i de)with⟨h4,h5⟩|⟨h4,h5⟩
    ·exact zk hi g1 h4
    ·exact ZJ h4
   ·rcases KM (Kf (g.reads y hy h3) i de) (BM e1 i de)with⟨h4,h5⟩|⟨h4,h5⟩
    ·rw[h5]at hl;cases hl
    ·exact zk hi (g2 l hl) (h5 l hl)
  ·rw[(Iu e1 h3).2]at de;cases de
 ·have:=ln.idx;omega
 ·have:=ln.args;omega
 ·rw[(Iu e1 h3).1];exact hE
theorem akr(V:VP p)(Sh:nL p)(G:∀i f,p.ay[i]?=some f->AO p i f)(hs:∀f∈p.ay,SizeOf.sizeOf f.cg<N)(ha:rS a d):AG N (mS a p) (mT b c p) (mV a d p) p:=by
 refine⟨Sh.s,Sh.w,Sh.q,Sh.d,Sh.o,λc hc=>⟨?_,dU (ap1 (Sh.W c hc) (by decide))⟩,λx hx=>⟨λl hl=>⟨?_,dU (ap1 ((Sh.P x hx).2 l hl) (by decide))⟩,(Sh.P x hx).1⟩,λf hf=> ?_⟩
 ·obtain⟨h1,h2⟩:=xe (V.wh c hc);exact zk (OL Sh.s) h1 h2
 ·obtain⟨h1,h2⟩:=xe (vt (((Dp _ _ V.sx).1 x hx).2.2) l hl);exact zk (OL Sh.s) h1 h2
 ·obtain⟨k,hk⟩:=List.mem_iff_getElem?.1 hf;have g:=G k f hk;have hl:=g.len;have hv:(dV f).length<=12:=by unfold dV;rw[apO,apK];omega
  have hi:=Vs (p:=p) (f:=f) ha Sh.s hv;obtain⟨x1,x2⟩:=CB _ _ g.pE;have hx:∀x∈f.aP++f.aY,iS (mV a d p f) x.cw:=λx hx=>by
   obtain⟨h1,h2⟩:=xe (x1 x hx).2.2;exact⟨zk (hi.sub λs hs=>List.mem_append_right _ hs) h1 h2,dU (ap1 ((Sh.D f hf).Cr x hx) (by decide))⟩
  exact⟨λx h=>hx x (List.mem_append_left _ h),λx h=>hx x (List.mem_append_right _ h),hl,amb g (Sh.D f hf).body hi (SL V),hs f hf⟩
end
structure DQ(N:Nat)(p:aK)(k:Nat)(T:List ByteArray)(d:bf):Prop where
 name:fE T d.ao=0
 type:eX d.aO=true
 l1:d.aP.length<=6
 l2:d.aY.length<=6
 pE:lu p.aA [] (d.aP++d.aY)=0
 fold:qu d=0
 tp:∃t:bA,nW N (⟨p.aA,[],p.aG,((p.ay.take k).drop 0),[]⟩:aK) (dV d) d.cg=some (t,0)/\((t.b7==d.aO.b7)&&((t.cp==d.aO.cp)&&((t.cq==d.aO.cq)&&((t.cU==d.aO.cU)&&((t.cS==d.aO.cS)&&true)))))=true
structure VQ(N:Nat)(p:aK):Prop where
 names:l7 [] p.aA=0
 wh:∀c∈p.cr,fz p.aA c.aS=0
 sx:ue p.aA [] p.aG
 defs:∀k d,p.ay[k]?=some d->DQ N p k (p.aA++p.aG.map (·.ao)++(p.ay.take k).map (·.ao)) d
 outs:∀k s,p.b9[k]?=some s->cB (p.aG.map (·.ao)++p.ay.map (·.ao)) s=true/\cB (p.b9.take k) s=false
theorem W8{c m:Nat}{α:Type}{x:aqz α}{z:α}(h:(bif Nat.ble c m then x else none)=some z):x=some z:=by
 cases e:Nat.ble c m with
 |false=>rw[e]at h;cases h
 |true=>rw[e]at h;exact h
theorem RT{b:Bool}{α:Type}{x:aqz α}{z:α}(h:(bif b then x else none)=some z):b=true/\x=some z:=by
 cases b with
 |false=>cases h
 |true=>exact⟨rfl,h⟩
theorem HV{a:Int}{x:aqz Int}(h:(bif a !=0 then some a else x)=some 0):a=0/\x=some 0:=by
 cases e:a !=0 with
 |true=>rw[e]at h;simp only[cond_true]at h;rw[ap2 h]at e;cases e
 |false=>rw[e]at h;exact⟨fO e,h⟩
section
variable {N:Nat} {p:aK}
theorem ajR(hN:16<N){k:Nat}{d:bf}{T:aqx aqy}(hd:p.ay[k]?=some d)(hs:p.aA.length<=1000)(hx:∀x∈d.aP++d.aY,jr x.cw)(h:rz N p (k:Int) T=some 0):DQ N p k T d:=by
 unfold rz at h;obtain⟨_,h⟩:=RT h;rw[aqa,hd,apI,yY N hN,apI]at h;obtain⟨n1,h⟩:=HV h;rw[sR,apI]at h;cases e1:eX d.aO with
 |false=>rw[e1]at h;cases h
 |true=>
  rw[e1,cond_true,tL,tL,jF,apI]at h;cases e2: !decide (d.aP.length<=6)|| !decide (d.aY.length<=6)with
  |true=>rw[e2]at h;cases h
  |false=>
   rw[e2,cond_false]at h;simp only[aqw,Bool.not_eq_false',decide_eq_true_eq]at e2;have h:=W8 (W8 h);rw[O7 N hN p.aA _ hx (by rw[apK];omega),apI]at h;obtain⟨n2,h⟩:=HV h;rw[Ru,apI]at h;obtain⟨n3,h⟩:=HV h;obtain⟨_,h⟩:=RT h;rw[MM N d (by omega),apI]at h;obtain⟨⟨t,x⟩,h1,h⟩:=dw h;obtain⟨n4,h⟩:=HV h;dsimp only at n4 h;subst n4;refine⟨n1,e1,e2.1,e2.2,n2,n3,t,h1,?_⟩;cases e3:((t.b7==d.aO.b7)&&((t.cp==d.aO.cp)&&((t.cq==d.aO.cq)&&((t.cU==d.aO.cU)&&((t.cS==d.aO.cS)&&true)))))with
   |true=>rfl
   |false=>rw[e3]at h;cases h
theorem anF(hN:16<N){k:Nat}{d:bf}{T:aqx aqy}(hd:p.ay[k]?=some d)(hs:p.aA.length<=1000)(hx:∀x∈d.aP++d.aY,jr x.cw)(h:DQ N p k T d):rz N p (k:Int) T=some 0:=by
 obtain⟨n1,e1,l1,l2,n2,n3,t,h1,h2⟩:=h;have hk:k<p.ay.length:=(apJ.1 hd).1;unfold rz;rw[aqa,hd,apI,yY N hN,apI,n1,sR,apI,e1,tL,tL,jF,apI,O7 N hN p.aA _ hx (by rw[apK];omega),apI,n2,Ru,apI,n3,MM N d (by omega),apI];have e:nW N (⟨p.aA,[],p.aG,((p.ay.take k).drop 0),[]⟩:aK) ((d.aP++d.aY).map (·.ao)) d.cg=some (t,0):=h1;rw[e,apI,aqq (show(0:Int)<=(k:Int) by omega),aqq l1,aqq l2,aqq (show k<=p.ay.length by omega),Nat.ble_eq_true_of_le (show(0+d.aP.length)*48<=140737488355328 by omega),Nat.ble_eq_true_of_le (show(d.aP.length+d.aY.length)*48<=140737488355328 by omega)];simp only[cond_true,cond_false,Bool.not_true,Bool.or_self,bne_self_eq_false,h2]
theorem ZK(hD:gr p.ay):∀(l:aqx aqy)(k:Nat)(at_:Int){a:Int},p.b9.drop k=l->mQ N p l k at_=some (a,0)->∀i s,k<=i->p.b9[i]?=some s->cB (p.aG.map (·.ao)++p.ay.map (·.ao)) s=true/\cB (p.b9.take i) s=false
 |[],k,at_,a,hk,h,i,s,hi,hs=>by
  have:=(apJ.1 hs).1;have:=List.drop_eq_nil_iff.1 hk;omega
 |s::l,k,at_,a,hk,h,i,y,hi,hy=>by
  rw[mQ,BH N p s hD,apI,FU]at h;cases e:cB (p.aG.map (·.ao)++p.ay.map (·.ao)) s with
  |false=>rw[e]at h;cases h
  |true=>
   rw[e]at h;simp only[cond_true]at h;obtain⟨_,h⟩:=rY h;rw[yT,apI]at h;cases e2:cB ((p.b9.take ((k:Int)).toNat).drop 0) s with
   |true=>rw[e2]at h;cases h
   |false=>
    rw[e2]at h;rcases Nat.lt_or_ge k i with aH|jU
    ·exact ZK hD l (k+1) (bl (at_+1)) (rR hk) h i y aH hy
    ·have:i=k:=by omega
     subst this;rw[aW hk]at hy;cases hy
     exact⟨e,e2⟩
theorem Yl(hD:gr p.ay)(h:∀i s,p.b9[i]?=some s->cB (p.aG.map (·.ao)++p.ay.map (·.ao)) s=true/\cB (p.b9.take i) s=false):∀(l:aqx aqy)(k:Nat)(at_:Int),p.b9.drop k=l->∃a,mQ N p l k at_=some (a,0)
 |[],k,at_,hk=>⟨_,by rw[mQ]⟩
 |s::l,k,at_,hk=>by
  obtain⟨a,ha⟩:=Yl hD h l (k+1) (bl (at_+1)) (rR hk);obtain⟨h1,h2⟩:=h k s (aW hk);have hl:=GL hk;refine⟨a,?_⟩;rw[mQ,BH N p s hD,apI,FU,h1,cond_true,yT,apI,aqa,aqi,h2,aqq (show k<=p.b9.length by omega)];exact ha
theorem XW(hN:16<N)(hD:gr p.ay)(hs:p.aA.length<=1000):∀(l:aqx bf)(k:Nat)(at_:Int){a:Int},p.ay.drop k=l->mj N p l k (p.aA++p.aG.map (·.ao)++(p.ay.take k).map (·.ao)) at_=some (a,0)->
 (∀i d,k<=i->p.ay[i]?=some d->DQ N p i (p.aA++p.aG.map (·.ao)++(p.ay.take i).map (·.ao)) d)/\∃at' a',mQ N p p.b9 0 at'=some (a',0)
 |[],k,at_,a,hk,h=>⟨λi d hi hd=>by
    have:=(apJ.1 hd).1;have:=List.drop_eq_nil_iff.1 hk;omega,at_,a,h⟩
 |d::l,k,at_,a,hk,h=>by
  rw[mj]at h;obtain⟨x,e,h⟩:=dw h;cases e2:x !=0 with
  |true=>rw[e2]at h;simp only[cond_true]at h;rw[(Prod.mk.inj (ap2 h)).2]at e2;cases e2
  |false=>
   rw[e2]at h;obtain⟨_,h⟩:=rY h;have hx:=fO e2;rw[hx]at e;have et:p.aA++p.aG.map (·.ao)++(p.ay.take k).map (·.ao)++[d.ao]=p.aA++p.aG.map (·.ao)++(p.ay.take (k+1)).map (·.ao):=by
     rw[MT hk,List.map_append,ap0 (p.aA++p.aG.map (·.ao))];rfl
   dsimp only at h;rw[et]at h;obtain⟨k1,k2⟩:=XW hN hD hs l (k+1) _ (rR hk) h;refine⟨λi d' hi gz=> ?_,k2⟩;rcases Nat.lt_or_ge k i with aH|jU
   ·exact k1 i d' aH gz
   ·have:i=k:=by omega
    subst this;rw[aW hk]at gz;cases gz
    exact ajR hN (aW hk) hs (λx hx=>(hD.lM d (rI (aW hk)) x hx).ok) e
theorem aaI(hN:16<N)(hD:gr p.ay)(hs:p.aA.length<=1000)(hq:p.aG.length<=1000)(hd:p.ay.length<=1000)(h:VQ N p):∀(l:aqx bf)(k:Nat)(at_:Int),p.ay.drop k=l->∃a,mj N p l k (p.aA++p.aG.map (·.ao)++(p.ay.take k).map (·.ao)) at_=some (a,0)
 |[],k,at_,hk=>by
  obtain⟨a,ha⟩:=Yl (N:=N) hD h.outs p.b9 0 at_ rfl;exact⟨a,by rw[mj];exact ha⟩
 |d::l,k,at_,hk=>by
  obtain⟨a,ha⟩:=aaI hN hD hs hq hd h l (k+1) (bl (at_+1)) (rR hk);have hl:=GL hk;have et:p.aA++p.aG.map (·.ao)++(p.ay.take k).map (·.ao)++[d.ao]=p.aA++p.aG.map (·.ao)++(p.ay.take (k+1)).map (·.ao):=by
   rw[MT hk,List.map_append,ap0 (p.aA++p.aG.map (·.ao))];rfl
  rw[<-et]at ha;refine⟨a,?_⟩;rw[mj,anF hN (aW hk) hs (λx hx=>(hD.lM d (rI (aW hk)) x hx).ok) (h.defs k d (aW hk)),apI,Nat.ble_eq_true_of_le (show((p.aA++p.aG.map (·.ao)++(p.ay.take k).map (·.ao)).length+1)*16<=140737488355328 by
    simp only[apK,apO,List.length_take];omega)]
  exact ha
theorem afh(hN:16<N):∀(l:aqx cv)(k:Nat)(at_:Int)(T:aqx aqy){a:Int},nO l->oC N p l k (p.aA++T) at_=some (a,0)->∃at' a',mj N p p.ay 0 (p.aA++(T++l.map (·.ao))) at'=some (a',0):=λl k at_ T a hl h=>(Ta hN l k at_ T hl h).2
theorem TX(hN:16<N)(hD:gr p.ay)(hs:p.aA.length<=1000)(hq:p.aG.length<=1000)(hd:p.ay.length<=1000)(h:VQ N p):∀(l:aqx cv)(k:Nat)(at_:Int)(T:aqx aqy),T++l.map (·.ao)=p.aG.map (·.ao)->nO l->ue p.aA T l->∃a,oC N p l k (p.aA++T) at_=some (a,0)
 |[],k,at_,T,ht,_,_=>by
  obtain⟨a,ha⟩:=aaI hN hD hs hq hd h p.ay 0 at_ rfl;refine⟨a,?_⟩;rw[List.map_nil,ap4]at ht;rw[List.take_zero,List.map_nil,ap4]at ha;rw[oC,ht];exact ha
 |x::l,k,at_,T,ht,hl,hp=>by
  obtain⟨a,ha⟩:=TX hN hD hs hq hd h l (k+1) (bl (at_+1)) (T++[x.ao]) (by rw[<-ht,ap0];rfl) ⟨λy hy=>hl.len y (apS _ hy),λy hy=>hl.lM y (apS _ hy)⟩ hp.2;have hT:T.length<=1000:=by
   have:=congrArg List.length ht;rw[apK,apO,apO]at this;omega
  refine⟨a,?_⟩;rw[oC,Pj N hN x p.aA T (λy hy=>(hl.lM x apP y hy).ok),apI,hp.1,Nat.ble_eq_true_of_le (show((p.aA++T).length+1)*16<=140737488355328 by rw[apK];omega)];show oC N p l (k+1) (p.aA++T++[x.ao]) (bl (at_+1))=_;rw[ap0];exact ha
theorem AT{α:Type}{f:α->Int}:∀{l:aqx α},(∀x∈l,f x=0)->fF f l=0
 |[],_=>rfl
 |x::l,h=>by
  rw[fF,h x apP];exact AT λy hy=>h y (apS _ hy)
theorem ahv(hN:16<N)(B:Bd N p){a:Int}(h:n9 N p=some (a,0)):VQ N p:=by
 have hs:=B.s;have V:=RH hN B h;unfold n9 By at h;rw[IG,apI]at h;cases e:rQ p with
 |false=>rw[e]at h;cases h
 |true=>
  rw[e]at h;simp only[Bool.not_true,cond_false]at h;rw[DS hN p.aA 0 rfl,apI,List.take_zero,V.names]at h;simp only[bne_self_eq_false,cond_false]at h;rw[C9 hN hs p.cr 0 B.W,AT V.wh]at h;simp only[bne_self_eq_false,cond_false]at h;obtain⟨Nd,a1,h1⟩:=afh hN p.aG 0 2 [] B.P (by rw[ap4];exact h);rw[List.nil_append]at h1;obtain⟨k2,ES,a2,h2⟩:=XW hN B.D hs p.ay 0 Nd rfl (by rw[List.take_zero,List.map_nil,ap4];exact h1);exact⟨V.names,V.wh,V.sx,λk d=>k2 k d (Nat.zero_le _),λk s=>ZK B.D p.b9 0 ES rfl h2 k s (Nat.zero_le _)⟩
theorem ao1(hN:16<N)(B:Bd N p)(hl:rQ p=true)(h:VQ N p):∃a,n9 N p=some (a,0):=by
 have hs:=B.s;obtain⟨a,ha⟩:=TX hN B.D hs B.q B.d h p.aG 0 2 [] rfl B.P h.sx;rw[ap4]at ha;refine⟨a,?_⟩;unfold n9 By;rw[IG,apI,hl];simp only[Bool.not_true,cond_false];rw[DS hN p.aA 0 rfl,apI,List.take_zero,h.names];simp only[bne_self_eq_false,cond_false];rw[C9 hN hs p.cr 0 B.W,AT h.wh];simp only[bne_self_eq_false,cond_false];exact ha
end
structure Gd(V:List ByteArray)(f:ByteArray->ByteArray):Prop where
 inj:oM V f
 nm:∀x∈V,cO (f x)=true
theorem Gd.sub{V W:aqx aqy}{f:aqy->aqy}(h:Gd V f)(hs:∀x∈W,x∈V):Gd W f:=⟨h.inj.sub hs,λx hx=>h.nm x (hs x hx)⟩
section
variable {V W S:aqx aqy} {f g:aqy->aqy} {l:aR}
theorem agD(hi:oM V f)(h1:dF l=true)(h2:ic V l=true):(l.xL.map (λx=>(⟨f x.ao,x.cN⟩:bt))).Pairwise λa b=>bL a.ao≠bL b.ao:=by
 rw[List.pairwise_map];have hp:=(QH l.xL none h1).1;have hm:=HL h2;refine hp.imp_of_mem fun{a b} ha hb B4 e=> ?_;have e2:=hi _ (hm a ha) _ (hm b hb) (iL e);rw[e2]at B4;exact List.lt_irrefl _ B4
theorem U4:∀(l:aqx bt)(q:aqz aqy),(∀x∈l,cO x.ao=true/\(x.cN.toInt==0)=false)->(l.Pairwise λa b=>bL a.ao<bL b.ao)->(∀q',q=some q'->∀x∈l,bL q'<bL x.ao)->pw q l=true
 |[],q,_,_,_=>by cases q<;>rfl
 |m::l,q,h1,h2,h3=>by
  obtain⟨a,b⟩:=h1 m apP;obtain⟨p1,p2⟩:=List.pairwise_cons.1 h2;rw[BA,a,b,U4 l (some m.ao) (λx hx=>h1 x (apS _ hx)) p2 (λq' e x hx=>by cases e;exact p1 x hx)];cases q with
  |none=>rfl
  |some q'=>
   dsimp only;rw[bytesLess_eq,aqq (h3 q' rfl m apP)];rfl
theorem Wz:∀(l:aqx bt)(q:aqz aqy),pw q l=true->∀m∈l,(m.cN.toInt==0)=false
 |m::l,q,h,y,hy=>by
  rw[BA]at h;simp only[apL]at h;rcases aqd.1 hy with rfl|hy
  ·have:=h.2.1;cases e:y.cN.toInt==0 with
   |false=>rfl
   |true=>rw[e]at this;cases this
  ·exact Wz l _ h.2.2.2 y hy
theorem Xn{y:bt}(h:y∈(gv f l).xL):∃x∈l.xL,y=⟨f x.ao,x.cN⟩:=by
 have:=(tk _).subset h;obtain⟨x,hx,e⟩:=List.mem_map.1 this;exact⟨x,hx,e.symm⟩
theorem xc:(gv f l).xL.length=l.xL.length:=by
 show(jg _).length=_;rw[(tk _).length_eq,apO]
theorem aa7:kt (gv f l)=kt l:=by
 unfold kt;rw[xc];rfl
theorem Jl(G:Gd V f)(h1:dF l=true)(h2:ic V l=true):dF (gv f l)=true:=by
 refine U4 _ none (λy hy=> ?_) (HA _ (agD G.inj h1 h2)) (λq' e=>by cases e);obtain⟨x,hx,rfl⟩:=Xn hy;exact⟨G.nm _ (HL h2 x hx),Wz _ _ h1 x hx⟩
theorem abx(hw:∀x∈V,f x∈W)(h2:ic V l=true):ic W (gv f l)=true:=by
 unfold ic;rw[ap9];intro y hy;obtain⟨x,hx,rfl⟩:=Xn hy;exact tC.2 (hw _ (HL h2 x hx))
theorem apa(h1:dF l=true)(h2:ic S l=true):fz S l=0:=by unfold fz;rw[h1,h2];rfl
theorem On(G:Gd S f)(hw:∀x∈S,f x∈W)(h:fz S l=0):fz W (gv f l)=0:=by
 obtain⟨h1,h2⟩:=xe h;exact apa (Jl G h1 h2) (abx hw h2)
theorem Gs{s:aqy}{k:aqx aqy}(hi:oM V f)(hl:∀x∈k,x∈V)(hs:s∈V)(h:s ∉ k):f s ∉ k.map f:=λhm=>by
 obtain⟨x,hx,e⟩:=List.mem_map.1 hm;exact h (hi x (hl x hx) s hs e▸hx)
theorem Ii{s:aqy}{T:aqx aqy}(h1:cO s=true)(h2:s ∉ T):fE T s=0:=by
 unfold fE;rw[h1,cond_true];cases e:cB T s with
 |false=>rfl
 |true=>exact absurd (tC.1 e) h2
theorem abo(G:Gd V f)(hS:∀x∈S,x∈V):∀(l:aqx cd)(O:aqx aqy),(∀x∈O,x∈V)->(∀x∈l,x.ao∈V)->lu S O l=0->lu (S.map f) (O.map f) (l.map (pK f))=0
 |[],_,_,_,_=>rfl
 |a::l,O,hO,hl,h=>by
  rw[lu]at h;cases e:fE (S++O) a.ao !=0 with
  |true=>rw[e,cond_true]at h;rw[h]at e;cases e
  |false=>
   rw[e,cond_false]at h;cases e2:fz S a.cw !=0 with
   |true=>rw[e2,cond_true]at h;rw[h]at e2;cases e2
   |false=>
    rw[e2,cond_false]at h;obtain⟨h1,h2⟩:=tc (fO e);have ha:=hl a apP;have n1:fE (S.map f++O.map f) (pK f a).ao=0:=by
      rw[<-List.map_append];exact Ii (G.nm _ ha) (Gs G.inj (λx hx=>by
        rcases aql.1 hx with hx|hx
        ·exact hS x hx
        ·exact hO x hx) ha h2)
    have n2:fz (S.map f) (pK f a).cw=0:=On (G.sub hS) (λx hx=>List.mem_map.2 ⟨x,hx,rfl⟩) (fO e2);have ih:=abo G hS l (O++[a.ao]) (λx hx=>by
     rcases aql.1 hx with hx|hx
     ·exact hO x hx
     ·rw[List.mem_singleton.1 hx];exact ha) (λx hx=>hl x (apS _ hx)) h
    rw[List.map_append]at ih;rw[ap8,lu,n1,n2];exact ih
theorem WG(G:Gd V f):∀(l S:aqx aqy),(∀x∈S,x∈V)->(∀x∈l,x∈V)->l7 S l=0->l7 (S.map f) (l.map f)=0
 |[],_,_,_,_=>rfl
 |s::l,S,hS,hl,h=>by
  rw[l7]at h;cases e:fE S s !=0 with
  |true=>rw[e]at h;simp only[cond_true]at h;rw[h]at e;cases e
  |false=>
   rw[e]at h;simp only[cond_false]at h;obtain⟨h1,h2⟩:=tc (fO e);have hs:=hl s apP;have ih:=WG G l (S++[s]) (λx hx=>by
     rcases aql.1 hx with hx|hx
     ·exact hS x hx
     ·rw[List.mem_singleton.1 hx];exact hs) (λx hx=>hl x (apS _ hx)) h
   rw[List.map_append]at ih;rw[ap8,l7,Ii (G.nm s hs) (Gs G.inj hS hs h2)];exact ih
def um(f g:aqy->aqy)(x:cv):cv:=⟨g x.ao,x.aO,x.aP.map (gv f)⟩
theorem U0(G:Gd S f)(H:Gd V g)(Dj:∀x∈S,∀y∈V,f x≠g y):∀(l:aqx cv)(T:aqx aqy),(∀x∈T,x∈V)->(∀x∈l,x.ao∈V)->ue S T l->ue (S.map f) (T.map g) (l.map (um f g))
 |[],_,_,_,_=>trivial
 |x::l,T,hT,hl,⟨h,hp⟩=>by
  have hx:=hl x apP;have ih:=U0 G H Dj l (T++[x.ao]) (λy hy=>by
   rcases aql.1 hy with hy|hy
   ·exact hT y hy
   ·rw[List.mem_singleton.1 hy];exact hx) (λy hy=>hl y (apS _ hy)) hp
  rw[List.map_append]at ih;refine⟨?_,ih⟩;unfold qq at h ⊢;cases e:fE (S++T) x.ao !=0 with
  |true=>rw[e]at h;simp only[cond_true]at h;rw[h]at e;cases e
  |false=>
   rw[e]at h;simp only[cond_false]at h;obtain⟨h1,h2⟩:=tc (fO e);have n1:fE (S.map f++T.map g) (um f g x).ao=0:=Ii (H.nm _ hx) λhm=>by
     rcases aql.1 hm with hm|hm
     ·obtain⟨y,hy,e⟩:=List.mem_map.1 hm;exact Dj y hy _ hx e
     ·exact Gs H.inj hT hx (λhh=>h2 (List.mem_append_right _ hh)) hm
   rw[n1];cases e1:eX x.aO with
   |false=>rw[e1]at h;cases h
   |true=>
    rw[e1]at h;simp only[cond_true]at h;cases e2:decide (x.aP.length<=6)with
    |false=>rw[e2]at h;cases h
    |true=>
     rw[e2]at h;have l6:decide ((um f g x).aP.length<=6)=true:=by
       show decide ((x.aP.map (gv f)).length<=6)=true;rw[apO];exact e2
     have C4:eX (um f g x).aO=true:=e1;rw[l6,C4];simp only[bne_self_eq_false,cond_false,cond_true];refine AT λy hy=> ?_;obtain⟨z,hz,rfl⟩:=List.mem_map.1 hy;exact On G (λx hx=>List.mem_map.2 ⟨x,hx,rfl⟩) (vt h z hz)
end
structure AS(V T:List ByteArray)(y:au):Prop where
 fi:ic V y.aS=true
 nm:(y.aJ=3/\y.ao∈T)\/(y.aJ≠3/\y.ao=bs []/\y.xIdx=[])
 ix:∀i∈y.xIdx,ic V i.aS=true/\(i.bR=bs []\/i.bR∈T)/\∀l∈i.bO,ic V l=true
theorem Yv{V:aqx aqy}{l:aR}(h:kt l=true):ic V l=true:=by
 unfold kt at h;rw[apL,beq_iff_eq,beq_iff_eq]at h;unfold ic;rw[List.eq_nil_of_length_eq_zero h.2];rfl
theorem JT{P:aqx cv}{D:aqx bf}{s:aqy}(h:(dz P D s).2.2=true):s∈P.map (·.ao)++D.map (·.ao):=by
 rw[FU]at h;exact tC.1 h
theorem ab4{V:aqx aqy}{P:aqx cv}{D:aqx bf}{y:au}(h:lV V P D y=0):(dz P D y.ao).2.2=true:=by
 unfold lV at h;cases h1:(dz P D y.ao).2.2 with
 |false=>rw[h1]at h;cases h
 |true=>rfl
theorem aag{V:aqx aqy}{P:aqx cv}{D:aqx bf}{i:bH}(h:mE V P D i=0):i.bR=bs []\/(dz P D i.bR).2.2=true:=by
 unfold mE at h;cases h1:bL i.bR==[]with
 |true=>exact .inl (iL (beq_iff_eq.1 h1))
 |false=>
  rw[h1,cond_false]at h;cases h2:(dz P D i.bR).2.2 with
  |false=>rw[h2]at h;cases h
  |true=>exact .inr rfl
theorem ajn{V:aqx aqy}{P:aqx cv}{D:aqx bf}{y:au}(hp:iA y=true)(h3:y.aJ=3->lV V P D y=0)(h2:y.aJ=2->kA V y.aS=0):AS V (P.map (·.ao)++D.map (·.ao)) y:=by
 refine⟨?_,?_,λi hi=> ?_⟩
 ·by_cases e:y.aJ=2
  ·exact GH (h2 e)
  ·exact Yv (Wp hp e)
 ·by_cases e:y.aJ=3
  ·exact .inl ⟨e,JT (ab4 (h3 e))⟩
  ·exact .inr ⟨e,Iu hp e⟩
 ·by_cases e:y.aJ=3
  ·have hr:=Kf (h3 e) i hi;refine⟨?_,(aag hr).imp_right JT,λl hl=> ?_⟩
   ·rcases KM hr (BM hp i hi)with⟨a,b⟩|⟨a,b⟩
    ·exact a
    ·exact Yv a
   ·rcases KM hr (BM hp i hi)with⟨a,b⟩|⟨a,b⟩
    ·rw[b]at hl;cases hl
    ·exact b l hl
  ·rw[(Iu hp e).2]at hi;cases hi
section
variable {V T:aqx aqy} {f g:aqy->aqy}
theorem Kw{s:aqy}(h:cO s=true):(bL s==[])=false:=by
 cases e:bL s==[]with
 |false=>rfl
 |true=>
  rw[show s=bs []from iL (beq_iff_eq.1 e)]at h;cases h
theorem aev(H:Gd T g)(hg:g (bs [])=bs []){i:bH}(hf:i.bR=bs []\/i.bR∈T)(hT:∀s∈T,cO s=true)(h:kh i=true):kh (qn f g i)=true:=by
 unfold kh at h ⊢;have e1:(qn f g i).bR=g i.bR:=rfl;have e2:(qn f g i).bO.length=i.bO.length:=apO _;have e3:kt (qn f g i).aS=kt i.aS:=aa7;rw[e1,e2,e3];rcases hf with e|e
 ·rw[e]at h ⊢;rw[hg];exact h
 ·rw[Kw (hT _ e)]at h;rw[Kw (H.nm _ e)];exact h
theorem am4(H:Gd T g)(hg:g (bs [])=bs [])(hT:∀s∈T,cO s=true){y:au}(k:AS V T y)(h:iA y=true):iA (dP f g y)=true:=by
 have hi:(y.xIdx.map (qn f g)).all kh=true:=by
  rw[ap9];intro i hi;obtain⟨z,hz,rfl⟩:=List.mem_map.1 hi;exact aev H hg (k.ix z hz).2.1 hT (BM h z hz)
 have hn:(y.aJ==3||((bL (g y.ao)==[])&&(y.xIdx.map (qn f g)).length==0))=true:=by
  rcases k.nm with⟨a,b⟩|⟨a,b,c⟩
  ·rw[a];rfl
  ·rw[b,c,hg];simp [qB]
 rw[mI];unfold iA at h ⊢;simp only[apL]at h ⊢;refine⟨h.1,h.2.1,h.2.2.1,h.2.2.2.1,?_,hn,hi⟩;rw[aa7];exact h.2.2.2.2.1
theorem aiC(H:Gd T g)(hg:g (bs [])=bs []){y:au}(k:AS V T y)(h:lN y=true):lN (dP f g y)=true:=by
 rw[mI];unfold lN at h ⊢;simp only[apL]at h ⊢;refine⟨?_,?_⟩
 ·rcases k.nm with⟨a,b⟩|⟨a,b,c⟩
  ·rw[H.nm _ b,Bool.or_true]
  ·rw[beq_eq_false_iff_ne.2 a];rfl
 ·rw[ap9];intro i hi;obtain⟨z,hz,rfl⟩:=List.mem_map.1 hi;show(bL (g z.bR)==[]||cO (g z.bR))=true;rcases (k.ix z hz).2.1 with e|e
  ·rw[e,hg];rfl
  ·rw[H.nm _ e,Bool.or_true]
theorem an0{y:au}(h:kH y=true):kH (dP f g y)=true:=by
 rw[mI];unfold kH at h ⊢;simp only[apL,apO]at h ⊢;refine⟨h.1,h.2.1,?_⟩;rw[List.all_map,ap9];intro i hi;have:=ap9.1 h.2.2 i hi;show decide ((i.bO.map (gv f)).length<=6)=true;rw[apO];exact this
theorem Rn(e:au):(dP f g e).aJ=e.aJ:=by rw[mI]
theorem UC(op:Int):∀(l:aqx au)(i:Nat),rb op i (l.map (dP f g))=rb op i l
 |[],_=>rfl
 |x::l,i=>by
  rw[ap8,rb,rb,UC op l (i+1)];unfold mW;rw[Rn]
theorem anD{y:au}(h:kI y=true):kI (dP f g y)=true:=by
 rw[mI];unfold kI at h ⊢;dsimp only;rw[UC];exact h
theorem ang(G:Gd V f){y:au}(k:AS V T y)(h:mC y=true):mC (dP f g y)=true:=by
 obtain⟨f1,f2⟩:=Tb h;rw[mI];unfold mC at h ⊢;rw[apL]at h ⊢;refine⟨h.1,?_⟩;unfold nE;rw[aqt,apL,List.all_flatMap];refine⟨Jl G f1 k.fi,?_⟩;rw[ap9];intro i hi;obtain⟨z,hz,rfl⟩:=List.mem_map.1 hi;unfold uA;rw[aqt,apL,ap9];refine⟨Jl G (f2 z hz).1 (k.ix z hz).1,λl hl=> ?_⟩;obtain⟨w,hw,rfl⟩:=List.mem_map.1 hl;exact Jl G ((f2 z hz).2 w hw) ((k.ix z hz).2.2 w hw)
theorem am8{y:au}(h1:iA y=true)(h2:lN y=true)(h3:kH y=true)(h4:kI y=true)(h5:mC y=true):lB y=0:=by
 unfold lB;rw[h1,h2,h3,h4,h5];rfl
theorem aeN(G:Gd V f)(H:Gd T g)(hg:g (bs [])=bs [])(hT:∀s∈T,cO s=true){y:au}(k:AS V T y)(h:lB y=0):lB (dP f g y)=0:=by
 obtain⟨a,b,c,d,e⟩:=AW h;exact am8 (am4 H hg hT k a) (aiC H hg k b) (an0 c) (anD d) (ang G k e)
theorem Ou:∀(n:Nat)(e:au),SizeOf.sizeOf e<=n->cM (dP f g e)=(cM e).map (dP f g)
 |0,e,h=>by cases e;rw[au.mk.sizeOf_spec]at h;omega
 |n+1,e,h=>by
  have gen:∀l:aqx au,(∀x∈l,SizeOf.sizeOf x<=n)->gW (l.map (dP f g))=(gW l).map (dP f g):=by
   intro l
   induction l with
   |nil=>intro _;rfl
   |cons x l ih=>
    intro hl;rw[ap8,nC,nC,List.map_append,Ou n x (hl x apP),ih λy hy=>hl y (apS _ hy)]
  unfold cM;rw[ap8];have e1:(dP f g e).bp=e.bp.map (dP f g):=by rw[mI]
  rw[e1,gen e.bp λx hx=>by have:=tK hx;omega]
theorem abp:∀(L:Nat)(e:au),gU L (dP f g e)=gU L e
 |0,_=>rfl
 |L+1,e=>by
  rw[gU,gU];have e1:(dP f g e).bp=e.bp.map (dP f g):=by rw[mI]
  rw[e1,List.foldl_map]
  congr 1
  funext m a
  rw[abp L a]
theorem TU:∀l:aqx au,(∀x∈l,lB x=0)->jS l=0
 |[],_=>rfl
 |x::l,h=>by
  rw[jS,h x apP];exact TU l λy hy=>h y (apS _ hy)
theorem ac9(G:Gd V f)(H:Gd T g)(hg:g (bs [])=bs [])(hT:∀s∈T,cO s=true){e:au}(h:kL e=0)(k:∀y∈cM e,AS V T y):kL (dP f g e)=0:=by
 have hn:=Ou (f:=f) (g:=g) _ e (apU _);have he:jS (cM (dP f g e))=0:=TU _ λx hx=>by
  rw[hn]at hx;obtain⟨y,hy,rfl⟩:=List.mem_map.1 hx;exact aeN G H hg hT (k y hy) (Bc h y hy)
 unfold kL at h ⊢;rw[abp,hn,apO];rw[hn]at he;rw[he];cases h1:decide (40<gU 40 e)with
 |true=>rw[h1]at h;cases h
 |false=>
  cases h2:decide (2000<(cM e).length)with
  |true=>rw[h1,h2]at h;cases h
  |false=>rfl
theorem anB{e:au}(h:kL e=0):(cM e).length<=2000:=by
 unfold kL at h;cases h1:decide (40<gU 40 e)with
 |true=>rw[h1]at h;cases h
 |false=>
  cases h2:decide (2000<(cM e).length)with
  |true=>rw[h1,h2]at h;cases h
  |false=>have:=of_decide_eq_false h2;omega
theorem UZ{e:au}{B:Nat}(h:iz B e):iz B (dP f g e):=λx hx=>by
 rw[Ou _ e (apU _)]at hx;obtain⟨y,hy,rfl⟩:=List.mem_map.1 hx;have k:=h y hy;rw[mI];refine⟨?_,?_,λi hi=> ?_,?_⟩
 ·show(gv f y.aS).xL.length<=B;rw[xc];exact k.fi
 ·show(y.xIdx.map _).length<=B;rw[apO];exact k.idx
 ·obtain⟨z,hz,rfl⟩:=List.mem_map.1 hi;have kz:=k.each z hz;refine⟨?_,?_,λl hl=> ?_⟩
  ·show(gv f z.aS).xL.length<=B;rw[xc];exact kz.fi
  ·show(z.bO.map _).length<=B;rw[apO];exact kz.at_
  ·obtain⟨w,hw,rfl⟩:=List.mem_map.1 hl;rw[xc];exact kz.q7 w hw
 ·show(y.bp.map _).length<=B;rw[apO];exact k.args
end
theorem anT(n:Nat):Gr (n+3000)=some true:=by kernel_rfl
theorem iz.bd{e:au}(h:iz 300 e):O9 e:=λy hy=>
 ⟨ap1 (h y hy).fi (by decide),ap1 (h y hy).idx (by decide),λx hx=>⟨ap1 ((h y hy).each x hx).fi (by decide),ap1 ((h y hy).each x hx).at_ (by decide),λl hl=>ap1 (((h y hy).each x hx).q7 l hl) (by decide)⟩,ap1 (h y hy).args (by decide)⟩
theorem RJ{N:Nat}{p:aK}(h:nL p)(hs:∀d∈p.ay,SizeOf.sizeOf d.cg<N):Bd N p:=
 ⟨ap1 h.s (by decide),ap1 h.w (by decide),ap1 h.q (by decide),ap1 h.d (by decide),ap1 h.o (by decide),
  ⟨λx hx=>ap1 (h.P x hx).1 (by decide),λx hx y hy=>ap1 ((h.P x hx).2 y hy) (by decide)⟩,
  ⟨λd hd=>by have h1:=(h.D d hd).nV;have h2:=(h.D d hd).red;omega,λd hd y hy=>ap1 ((h.D d hd).Cr y hy) (by decide)⟩,
  λc hc=>ap1 (h.W c hc) (by decide),λd hd=>⟨((h.D d hd).body.bd).ok,hs d hd⟩⟩
section
variable {N:Nat} {p:aK}
theorem amc{f g:aqy->aqy}{v v':bf->aqy->aqy}(h:∀x∈p.ay,v x=v' x):kN f g v p=kN f g v' p:=by
 have:p.ay.map (λd=>kf (v d) g d)=p.ay.map (λd=>kf (v' d) g d):=aqe λx hx=>by rw[h x hx]
 show(⟨_,_,_,p.ay.map (λd=>kf (v d) g d),_⟩:aK)=_;rw[this];rfl
structure lO(N:Nat)(p:aK):Prop where
 hN:9223372036854775808<N
 V:VP p
 Sh:nL p
 G:∀i f,p.ay[i]?=some f->AO p i f
 size:∀f∈p.ay,SizeOf.sizeOf f.cg<N
theorem lO.uh(h:lO N p){a b c d:aqy}(ha:rS a d):AG N (mS a p) (mT b c p) (mV a d p) p:=akr h.V h.Sh h.G h.size ha
theorem Zk:rS (bs [115]) (bs [105]):=⟨115,105,rfl,rfl,by decide⟩
theorem lO.real(h:lO N p):AH N p p.aA 0 []=some (lL (bs [115]) (bs [112]) (bs [100]) (bs [105]) p,0):=by
 have k:=h.uh (b:=bs [112]) (c:=bs [100]) Zk;have l1:=k.s;have l3:=k.q;have l4:=k.d;rw[UH N p l3 l4 p.aA 0 [] (by omega) (by rw[apV];omega),ap4];have TS:(mS (bs [115]) p).map (·.1)=p.aA:=DT;have nS:((mS (bs [115]) p).map (·.1)).Nodup:=by rw[TS];exact(H9 _ _ h.V.names).2
 have Nt:(mT (bs [112]) (bs [100]) p).map (·.1)=p.aG.map (·.ao)++p.ay.map (·.ao):=FB;have nT:((mT (bs [112]) (bs [100]) p).map (·.1)).Nodup:=by rw[Nt];exact h.V.aof
 have pS:(mS (bs [115]) p).Perm (eO (bs [115]) 0 p.aA).reverse:=(List.reverse_perm _).symm;have pT:(mT (bs [112]) (bs [100]) p).Perm ((eO (bs [100]) 0 (p.ay.map (·.ao))).reverse++(eO (bs [112]) 0 (p.aG.map (·.ao))).reverse):=by
  unfold mT;rw[<-List.reverse_append];exact(List.reverse_perm _).symm
 have eS:bx (mS (bs [115]) p)=bx (eO (bs [115]) 0 p.aA).reverse:=funext λs=>Rq pS nS s;have eT:bx (mT (bs [112]) (bs [100]) p)=bx ((eO (bs [100]) 0 (p.ay.map (·.ao))).reverse++(eO (bs [112]) 0 (p.aG.map (·.ao))).reverse):=funext λs=>Rq pT nT s;have eV:∀f∈p.ay,bx (mV (bs [115]) (bs [105]) p f)=bx ((eO (bs [105]) 0 (dV f)).reverse++(eO (bs [115]) 0 p.aA).reverse):=λf hf=>by
  obtain⟨i,hi⟩:=List.mem_iff_getElem?.1 hf;have g:=h.G i f hi;obtain⟨x1,x2⟩:=CB _ _ g.pE;refine funext λs=>Rq ((List.reverse_perm _).symm.append pS) ?_ s;show((mV (bs [115]) (bs [105]) p f).map (·.1)).Nodup;rw[KY];refine List.nodup_append.2 ⟨x2,(H9 _ _ h.V.names).2,λs hs t ht e=> ?_⟩;unfold dV at hs;obtain⟨x,hx,rfl⟩:=List.mem_map.1 hs;exact(x1 x hx).2.1 (List.mem_append_left _ (e▸ht))
 have k2:=aot eS eT (V':=λf=>(eO (bs [105]) 0 (dV f)).reverse++(eO (bs [115]) 0 p.aA).reverse) eV k;rw[an4 (by rw[<-eT];exact SL h.V) (by rw[List.length_reverse,ahr];omega) k2 ?_ ?_ ?_]
 ·unfold lL;rw[eS,eT];rw[amc eV]
 ·intro s hs;rw[<-(pS.map (·.1)).mem_iff,TS];exact hs
 ·intro x hx;rw[<-(pT.map (·.1)).mem_iff,Nt];exact List.mem_append_left _ (List.mem_map.2 ⟨x,hx,rfl⟩)
 ·intro s hs;rw[<-(pT.map (·.1)).mem_iff,Nt];exact h.V.outs s hs
theorem lO.ref(h:lO N p):Ef N p ⟨bs [115],bs [112],bs [100],bs [105]⟩=some (lL (bs [115]) (bs [112]) (bs [100]) (bs [105]) p):=
 amy (sc:=⟨bs [115],bs [112],bs [100],bs [105]⟩) (Nat.lt_trans (by decide) h.hN) (by decide) (by decide) (by decide) (by decide) (h.uh Zk)
end
theorem Tn{α:Type}(h:α->α)(p q:α->Bool):∀l:aqx α,(∀x∈l,q (h x)=p x)->(l.map h).find? q=(l.find? p).map h
 |[],_=>rfl
 |x::l,k=>by
  rw[ap8,List.find?_cons,List.find?_cons,k x apP];cases p x with
  |true=>rfl
  |false=>exact Tn h p q l λy hy=>k y (apS _ hy)
section
variable {V W T:aqx aqy} {f g:aqy->aqy} {fS:aqy->aqy} {v:bf->aqy->aqy} {P:aqx cv} {D:aqx bf}
theorem XC(hi:oM T g){x s:aqy}(hx:x∈T)(hs:s∈T):(bL (g x)==bL (g s))=(bL x==bL s):=by
 rw[Bool.eq_iff_iff,beq_iff_eq,beq_iff_eq];exact⟨λe=>by rw[hi x hx s hs (iL e)],λe=>by rw[iL e]⟩
def Ek(P P':aqx cv)(D D':aqx bf)(g:aqy->aqy)(T:aqx aqy):Prop:=∀s∈T,(dz P' D' (g s)).1=(dz P D s).1/\(dz P' D' (g s)).2.1.length=(dz P D s).2.1.length/\(dz P' D' (g s)).2.2=(dz P D s).2.2
theorem afg(hi:oM T g)(hP:∀x∈P,x.ao∈T)(hD:∀x∈D,x.ao∈T):Ek P (P.map (um fS g)) D (D.map λd=>kf (v d) g d) g T:=λs hs=>by
 unfold dz;rw[Tn (um fS g) (λx=>bL x.ao==bL s) (λx=>bL x.ao==bL (g s)) P λx hx=>XC hi (hP x hx) hs];rw[Tn (λd=>kf (v d) g d) (mX s) (mX (g s)) D λx hx=>XC hi (hD x hx) hs];cases P.find? (λx=>bL x.ao==bL s)with
 |some x=>exact⟨rfl,apO _,rfl⟩
 |none=>
  cases D.find? (mX s)with
  |some d=>exact⟨rfl,by show(((d.aP.map (pK (v d))).map (·.cw)).length)=_;rw[apO,apO];exact(apO _).symm,rfl⟩
  |none=>exact⟨rfl,rfl,rfl⟩
theorem PE(hw:∀x∈V,f x∈W){l:aR}(h:kA V l=0):kA W (gv f l)=0:=by
 unfold kA;rw[abx hw (GH h)];rfl
theorem akd{P':aqx cv}{D':aqx bf}(hw:∀x∈V,f x∈W)(F:Ek P P' D D' g T)(H:Gd T g)(hg:g (bs [])=bs [])(hT:∀s∈T,cO s=true)(MC:∀s∈P.map (·.ao)++D.map (·.ao),s∈T){i:bH}(h:mE V P D i=0):mE W P' D' (qn f g i)=0:=by
 have hf:=(aag h).imp_right λe=>MC _ (JT e);unfold mE at h ⊢;have e1:(qn f g i).bR=g i.bR:=rfl;have e2:(qn f g i).bO.length=i.bO.length:=apO _;rw[e1,e2];rcases hf with e|e
 ·rw[e]at h ⊢;rw[hg];exact PE hw h
 ·obtain⟨a,b,c⟩:=F _ e;rw[Kw (hT _ e),cond_false]at h;rw[Kw (H.nm _ e),cond_false,a,b,c];cases h2:(dz P D i.bR).2.2 with
  |false=>rw[h2]at h;cases h
  |true=>
   rw[h2,cond_true]at h;cases h3:(dz P D i.bR).1.b7 !=3 with
   |true=>rw[h3]at h;cases h
   |false=>
    rw[h3,cond_false]at h;cases h4:i.bO.length==(dz P D i.bR).2.1.length with
    |false=>rw[h4]at h;cases h
    |true=>
     rw[h4,cond_true]at h;refine AT λl hl=> ?_;obtain⟨z,hz,rfl⟩:=List.mem_map.1 hl;exact PE hw (vt h z hz)
theorem akC{P':aqx cv}{D':aqx bf}(hw:∀x∈V,f x∈W)(F:Ek P P' D D' g T)(H:Gd T g)(hg:g (bs [])=bs [])(hT:∀s∈T,cO s=true)(MC:∀s∈P.map (·.ao)++D.map (·.ao),s∈T){e:au}(h:lV V P D e=0):lV W P' D' (dP f g e)=0/\(dz P' D' (dP f g e).ao).1=(dz P D e.ao).1:=by
 have hn:e.ao∈T:=MC _ (JT (ab4 h));obtain⟨a,b,c⟩:=F _ hn;have hi:=Kf h;rw[mI];refine⟨?_,a⟩;unfold lV at h ⊢;dsimp only;rw[b,c,apO];cases h2:(dz P D e.ao).2.2 with
 |false=>rw[h2]at h;cases h
 |true=>
  rw[h2,cond_true]at h;cases h4:e.xIdx.length==(dz P D e.ao).2.1.length with
  |false=>rw[h4]at h;cases h
  |true=>
   refine AT λl hl=> ?_;obtain⟨z,hz,rfl⟩:=List.mem_map.1 hl;exact akd hw F H hg hT MC (hi z hz)
end
section
variable {N:Nat} {p q:aK} {vars vars' T:aqx aqy} {f g:aqy->aqy}
structure Rs(p q:aK)(vars vars' T:List ByteArray)(f g:ByteArray->ByteArray):Prop where
 w:∀x∈vars++p.aA,f x∈vars'++q.aA
 F:Ek p.aG q.aG p.ay q.ay g T
 H:Gd T g
 hg:g (bs [])=bs []
 hT:∀s∈T,cO s=true
 PD:∀s∈p.aG.map (·.ao)++p.ay.map (·.ao),s∈T
 lF:gr p.ay
 RR:gr q.ay
theorem aaH(R:Rs p q vars vars' T f g)(e:au)(rec:aK->aqx aqy->au->aqz (bA×Int)):∀(l:aqx au)(k:Nat)(acc:aqx bA)(t:bA),lH N e p vars rec l k acc=some (t,0)->(∀x∈l,∀t',rec p vars x=some (t',0)->rec q vars' (dP f g x)=some (t',0))->lH N (dP f g e) q vars' rec (l.map (dP f g)) k acc=some (t,0)
 |[],k,acc,t,h,_=>by
  rw[List.map_nil];rw[lH]at h ⊢;have e1:(dP f g e).aJ=e.aJ:=Rn e;have e2:(dP f g e).aO=e.aO:=by rw[mI]
  have e3:(dP f g e).aS=gv f e.aS:=by rw[mI]
  rw[e1,e2,e3,jF,apI];rw[jF,apI]at h;cases h1:e.aJ==1||e.aJ==12 with
  |true=>rw[h1]at h;exact h
  |false=>
   rw[h1,cond_false]at h;rw[cond_false];cases h2:e.aJ==2 with
   |true=>
    rw[h2,cond_true,E4,L8,apI]at h;rw[cond_true,E4,L8,apI];have hz:kA (vars++p.aA) e.aS=0:=congrArg Prod.snd (ap2 h);rw[PE R.w hz];rw[hz]at h;exact h
   |false=>
    rw[h2,cond_false]at h;rw[cond_false];cases h3:e.aJ==3 with
    |true=>
     rw[h3,cond_true,Kp N vars p R.lF,apI]at h;rw[cond_true,Kp N vars' q R.RR,apI];have hz:lV (vars++p.aA) p.aG p.ay e=0:=TH (ap2 h);obtain⟨k1,k2⟩:=akC R.w R.F R.H R.hg R.hT R.PD hz;rw[k1,k2];rw[hz]at h;exact h
    |false=>
     rw[h3,cond_false]at h;rw[cond_false];exact h
 |x::l,k,acc,t,h,hr=>by
  rw[ap8];rw[lH]at h ⊢;obtain⟨⟨t',z⟩,h1,h⟩:=dw h;cases hz:z !=0 with
  |true=>dsimp only at h;rw[hz]at h;simp only[cond_true]at h;rw[(Prod.mk.inj (ap2 h)).2]at hz;cases hz
  |false=>
   have tM:=fO hz;subst tM;rw[hr x apP t' h1,apI];dsimp only at h ⊢;simp only[bne_self_eq_false,cond_false]at h ⊢;obtain⟨hb,h⟩:=RT h;rw[hb,cond_true];exact aaH R e rec l (k+1) (acc++[t']) t h λy hy=>hr y (apS _ hy)
theorem ach(R:Rs p q vars vars' T f g):∀(d:Nat)(e:au)(t:bA),oO N d p vars e=some (t,0)->oO N d q vars' (dP f g e)=some (t,0)
 |0,e,t,h=>by cases h
 |d+1,e,t,h=>by
  rw[oO]at h ⊢;have e1:(dP f g e).bp=e.bp.map (dP f g):=by rw[mI]
  rw[e1];exact aaH R e _ e.bp 0 [] t h λx hx t' ht=>ach R d x t' ht
theorem YB{e:au}{t:bA}(h:nW N p vars e=some (t,0)):qv N e=some 0/\mW e=false/\vH N p vars e=some (t,0):=by
 unfold nW at h;cases e1:qv N e with
 |none=>rw[e1]at h;cases h
 |some a=>
  rw[e1,apI]at h;cases h1:a !=0 with
  |true=>rw[h1,cond_true]at h;rw[(Prod.mk.inj (ap2 h)).2]at h1;cases h1
  |false=>
   rw[h1,cond_false,C2,apI]at h;cases h2:mW e with
   |true=>rw[h2]at h;cases h
   |false=>
    rw[h2,cond_false]at h;cases e3:vH N p vars e with
    |none=>rw[e3]at h;cases h
    |some q=>
     rw[e3,apI]at h;cases h4:q.2 !=0 with
     |true=>rw[h4,cond_true]at h;rw[(Prod.mk.inj (ap2 h)).2]at h4;cases h4
     |false=>
      rw[h4,cond_false]at h;have hq:=(Prod.mk.inj (ap2 h)).1;refine⟨by rw[fO h1],rfl,?_⟩;obtain⟨q1,q2⟩:=q;dsimp only at hq h4;rw[hq,fO h4]
theorem ai8(R:Rs p q vars vars' T f g){e:au}{t:bA}(h:nW N p vars e=some (t,0))(hv:qv N (dP f g e)=some 0):nW N q vars' (dP f g e)=some (t,0):=by
 obtain⟨_,h2,h3⟩:=YB h;have hc:mW (dP f g e)=false:=by
  unfold mW at h2 ⊢;rw[Rn];exact h2
 unfold nW;rw[hv,apI,C2,apI,hc];have:vH N q vars' (dP f g e)=some (t,0):=ach R N e t h3;rw[this];rfl
end
def o9(p:aK):aqx aqy:=p.aG.map (·.ao)++p.ay.map (·.ao)
structure O2(p:aK)(f g:ByteArray->ByteArray)(v:bf->ByteArray->ByteArray):Prop where
 S:Gd p.aA f
 T:Gd (o9 p) g
 dj:∀x∈p.aA,∀y∈o9 p,f x≠g y
 V:∀d∈p.ay,Gd (dV d++p.aA) (v d)
 agree:∀d∈p.ay,∀s∈p.aA,v d s=f s
 nil:g (bs [])=bs []
section
variable {N:Nat} {p:aK} {f g:aqy->aqy} {v:bf->aqy->aqy}
theorem Zr(h:nL p):nL (kN f g v p):=by
 refine⟨?_,?_,?_,?_,?_,λc hc=> ?_,λx hx=> ?_,λd hd=> ?_⟩
 ·show(p.aA.map f).length<=12;rw[apO];exact h.s
 ·show(p.cr.map _).length<=12;rw[apO];exact h.w
 ·show(p.aG.map _).length<=12;rw[apO];exact h.q
 ·show(p.ay.map _).length<=12;rw[apO];exact h.d
 ·show(p.b9.map _).length<=12;rw[apO];exact h.o
 ·obtain⟨y,hy,rfl⟩:=List.mem_map.1 hc;rw[xc];exact h.W y hy
 ·obtain⟨y,hy,rfl⟩:=List.mem_map.1 hx;refine⟨?_,λl hl=> ?_⟩
  ·show(y.aP.map _).length<=12;rw[apO];exact(h.P y hy).1
  ·obtain⟨z,hz,rfl⟩:=List.mem_map.1 hl;rw[xc];exact(h.P y hy).2 z hz
 ·obtain⟨y,hy,rfl⟩:=List.mem_map.1 hd;have k:=h.D y hy;refine⟨?_,?_,λa ha=> ?_,UZ k.body⟩
  ·show(y.aP.map _).length<=12;rw[apO];exact k.nV
  ·show(y.aY.map _).length<=12;rw[apO];exact k.red
  ·have ha':a∈(y.aP++y.aY).map (pK (v y)):=by rw[List.map_append];exact ha
   obtain⟨z,hz,rfl⟩:=List.mem_map.1 ha';show(gv (v y) z.cw).xL.length<=20;rw[xc];exact k.Cr z hz
theorem amC(d:bf)(h:aqy->aqy):dV (kf h g d)=(dV d).map h:=by
 unfold dV;show(d.aP.map (pK h)++d.aY.map (pK h)).map (·.ao)=_;rw[<-List.map_append,List.map_map,List.map_map];rfl
theorem agr(d:bf)(h:aqy->aqy):qu (kf h g d)=qu d:=by
 unfold qu;have e1:(kf h g d).aY.length=d.aY.length:=apO _;have e2:(kf h g d).aP.length=d.aP.length:=apO _;rw[e1,e2];rfl
theorem W4(h:nL p):gr p.ay:=⟨λd hd=>by have h1:=(h.D d hd).nV;have h2:=(h.D d hd).red;omega,λd hd y hy=>ap1 ((h.D d hd).Cr y hy) (by decide)⟩
theorem iz.ok{e:au}(h:iz 300 e):pA e:=h.bd.ok
theorem aoP(hN:2147483648<N)(V:VP p)(Sh:nL p)(R:O2 p f g v){k:Nat}{d:bf}(hd:p.ay[k]?=some d)(hs:SizeOf.sizeOf d.cg<N)(ct:SizeOf.sizeOf (dP (v d) g d.cg)<N)
 (h:DQ N p k (p.aA++p.aG.map (·.ao)++(p.ay.take k).map (·.ao)) d):
 DQ N (kN f g v p) k ((kN f g v p).aA++(kN f g v p).aG.map (·.ao)++((kN f g v p).ay.take k).map (·.ao)) (kf (v d) g d):=by
 obtain⟨n1,n2,l1,l2,n3,n4,t,h1,h2⟩:=h;have hm:=rI hd;have hV:=R.V d hm;have Se:d.ao∈o9 p:=List.mem_append_right _ (List.mem_map.2 ⟨d,hm,rfl⟩);have eS:p.aA.map f=p.aA.map (v d):=aqe λs hs=>(R.agree d hm s hs).symm;have eP:(kN f g v p).aG.map (·.ao)=(p.aG.map (·.ao)).map g:=by
  show(p.aG.map (um f g)).map (·.ao)=_;rw[List.map_map,List.map_map];rfl
 have eD:(kN f g v p).ay.take k=(p.ay.take k).map (λd=>kf (v d) g d):=by
  show(p.ay.map _).take k=_;rw[List.map_take]
 have eDn:((kN f g v p).ay.take k).map (·.ao)=((p.ay.take k).map (·.ao)).map g:=by
  rw[eD,List.map_map,List.map_map];rfl
 have sub:∀x∈p.aG.map (·.ao)++(p.ay.take k).map (·.ao),x∈o9 p:=λx hx=>by
  rcases aql.1 hx with hx|hx
  ·exact List.mem_append_left _ hx
  ·obtain⟨y,hy,rfl⟩:=List.mem_map.1 hx;exact List.mem_append_right _ (List.mem_map.2 ⟨y,List.mem_of_mem_take hy,rfl⟩)
 refine⟨?_,n2,?_,?_,?_,by rw[agr];exact n4,t,?_,h2⟩
 ·obtain⟨a,b⟩:=tc n1;refine Ii (R.T.nm _ Se) ?_;rw[eP,eDn,ap0,<-List.map_append];intro hmem;rcases aql.1 hmem with hmem|hmem
  ·obtain⟨y,hy,e⟩:=List.mem_map.1 hmem;exact R.dj y hy _ Se e
  ·exact Gs R.T.inj sub Se (λhh=>b (by rw[ap0];exact List.mem_append_right _ hh)) hmem
 ·show(d.aP.map _).length<=6;rw[apO];exact l1
 ·show(d.aY.map _).length<=6;rw[apO];exact l2
 ·show lu (p.aA.map f) [] (d.aP.map (pK (v d))++d.aY.map (pK (v d)))=0;rw[eS,<-List.map_append];exact abo hV (λx hx=>List.mem_append_right _ hx) _ [] (λx hx=>by cases hx) (λx hx=>List.mem_append_left _ (List.mem_map.2 ⟨x,hx,rfl⟩)) n3
 ·rw[amC];have lF:=W4 Sh;have RR:=W4 (Zr (f:=f) (g:=g) (v:=v) Sh);have TV:=(Sh.D d hm).body;have hT:=V.o9;have Qr:=W9 N _ (dV d) (by rw[aqi];exact FG lF k) d.cg t h1;rw[aqi]at h1 Qr ⊢;have mi:kL d.cg=0:=by
    have a:=(YB h1).1;rw[LJ N hN _ hs TV.ok]at a;exact ap2 a
  have akY:kL (dP (v d) g d.cg)=0:=ac9 hV R.T R.nil hT mi λy hy=>by
   have pl:=(AW (Bc mi y hy)).1;have nv:=ajn pl (Qr y hy).1 (Qr y hy).2;exact⟨nv.fi,nv.nm.imp_left (fun⟨a,b⟩=>⟨a,sub _ b⟩),λi hi=>⟨(nv.ix i hi).1,(nv.ix i hi).2.1.imp_right (sub _),(nv.ix i hi).2.2⟩⟩
  refine ai8 (T:=o9 p) (f:=v d) ⟨λx hx=> ?_,?_,R.T,R.nil,hT,sub,FG lF k,?_⟩ h1 ?_
  ·show v d x∈(dV d).map (v d)++p.aA.map f;rw[eS,<-List.map_append];exact List.mem_map.2 ⟨x,hx,rfl⟩
  ·show Ek p.aG (p.aG.map (um f g)) (p.ay.take k) ((kN f g v p).ay.take k) g (o9 p);rw[eD];exact afg R.T.inj (λx hx=>List.mem_append_left _ (List.mem_map.2 ⟨x,hx,rfl⟩)) (λx hx=>List.mem_append_right _ (List.mem_map.2 ⟨x,List.mem_of_mem_take hx,rfl⟩))
  ·exact FG RR k
  ·show qv N (dP (v d) g d.cg)=some 0;rw[LJ N hN _ ct (UZ TV).ok,akY]
theorem agw(hN:2147483648<N)(V:VP p)(Sh:nL p)(R:O2 p f g v)(hs:∀d∈p.ay,SizeOf.sizeOf d.cg<N)(ct:∀d∈(kN f g v p).ay,SizeOf.sizeOf d.cg<N)(h:VQ N p):VQ N (kN f g v p):=by
 have eP:(kN f g v p).aG.map (·.ao)=(p.aG.map (·.ao)).map g:=by
  show(p.aG.map (um f g)).map (·.ao)=_;rw[List.map_map,List.map_map];rfl
 have eD:(kN f g v p).ay.map (·.ao)=(p.ay.map (·.ao)).map g:=by
  show(p.ay.map (λd=>kf (v d) g d)).map (·.ao)=_;rw[List.map_map,List.map_map];rfl
 refine⟨?_,λc hc=> ?_,?_,λk d hd=> ?_,λk s hk=> ?_⟩
 ·exact WG R.S p.aA [] (λx hx=>by cases hx) (λx hx=>hx) h.names
 ·obtain⟨y,hy,rfl⟩:=List.mem_map.1 hc;exact On R.S (λx hx=>List.mem_map.2 ⟨x,hx,rfl⟩) (h.wh y hy)
 ·exact U0 R.S R.T R.dj p.aG [] (λx hx=>by cases hx) (λx hx=>List.mem_append_left _ (List.mem_map.2 ⟨x,hx,rfl⟩)) h.sx
 ·have gz:(p.ay.map (λd=>kf (v d) g d))[k]?=some d:=hd;rw[apQ]at gz;obtain⟨e,he,rfl⟩:=Option.map_eq_some_iff.1 gz;have hm:=rI he;exact aoP hN V Sh R he (hs e hm) (ct _ (List.mem_map.2 ⟨e,hm,rfl⟩)) (h.defs k e he)
 ·have lA:(p.b9.map g)[k]?=some s:=hk;rw[apQ]at lA;obtain⟨e,he,rfl⟩:=Option.map_eq_some_iff.1 lA;obtain⟨a,b⟩:=h.outs k e he;have TQ:e∈o9 p:=tC.1 a;refine⟨?_,?_⟩
  ·rw[eP,eD,<-List.map_append];exact tC.2 (List.mem_map.2 ⟨e,TQ,rfl⟩)
  ·show cB ((p.b9.map g).take k) (g e)=false;rw[<-List.map_take];cases hh:cB ((p.b9.take k).map g) (g e)with
   |false=>rfl
   |true=>
    exact absurd (tC.1 hh) (Gs R.T.inj (λx hx=>V.outs x (List.mem_of_mem_take hx)) TQ (XF b))
end
theorem az(l:aqx UInt8):(bs l).size=l.length:=rfl
theorem aX{c:Nat}{α:Type}{x z:aqz α}(h:c<=9223372036854775807)(k:x=z):(bif Nat.ble c 9223372036854775807 then x else none)=z:=by
 rw[Nat.ble_eq_true_of_le h];exact k
theorem aE{α β:Type}{o:aqz α}{v:α}{f:α->aqz β}{z:aqz β}(h:o=some v)(k:f v=z):Option.bind o f=z:=by rw[h];exact k
theorem bX{α:Type}{b:Bool}{x y z:α}(h:b=true)(k:x=z):(bif b then x else y)=z:=by rw[h];exact k
theorem bg{α:Type}{b:Bool}{x y z:α}(h:b=false)(k:y=z):(bif b then x else y)=z:=by rw[h];exact k
theorem mM{N:Nat}{a b:aqy}(h:b.size+a.size<=140737488355328):fA N a b=some (b++a):=by
 unfold fA Ac;rw[Nat.ble_eq_true_of_le h];rfl
theorem rK{N:Nat}{a b:aqy}(h:b.size+a.size<=140737488355328):mn N a b=some (b++a):=by
 unfold mn Ac;rw[Nat.ble_eq_true_of_le h];rfl
theorem pn(a:aqy):a++bs []=a:=iL (by rw[qO];exact ap4 _)
theorem kF(a:aqy):bs []++a=a:=iL (by rw[qO];rfl)
theorem E3(a:aqy):(bL a==bL (bs []))=(a.size==0):=by
 rw[nx,qB];cases bL a<;>rfl
theorem Yp{a:aqy}(h:(a.size==0)=true):a=bs []:=iL (by rw[nx,beq_iff_eq]at h;exact List.length_eq_zero_iff.1 h)
def tg(n:Nat):aqy:=bs (nr 20 n [])
theorem acA:∀(f u:Nat)(a:aqx UInt8),(nr f u a).length<=f+a.length
 |0,_,a=>by rw[nr];omega
 |f+1,u,a=>by
  rw[nr];cases Nat.blt u 10 with
  |true=>simp only[cond_true,apM];omega
  |false=>have h:=acA f (u / 10) (UInt8.ofNat (48+u%10)::a);simp only[cond_false,apM]at h ⊢;omega
theorem xZ(n:Nat):(tg n).size<=20:=acA 20 n []
theorem Wo(n:Int):kJ n=bif decide (n<0)then bs [45]++tg n.natAbs else tg n.toNat:=by
 unfold kJ tg;cases decide (n<0)with
 |false=>rfl
 |true=>rw[cond_true,cond_true];exact iL (by rw[qO];rfl)
theorem mc(n:Int):(kJ n).size<=21:=by
 rw[Wo];cases decide (n<0)with
 |false=>have:=xZ n.toNat;simp only[cond_false];omega
 |true=>have:=xZ n.natAbs;simp only[cond_true,ByteArray.size_append,az,apM,apV];omega
theorem Qz(N:Nat)(v:Int64):zM N v 10=some (kJ v.toInt):=rfl
theorem Xb(N n:Nat)(h:n<18446744073709551616):uK N (n:Int) 10=some (tg n):=by
 unfold uK SR Ha;rw[aqq (show(0:Int)<=(n:Int) by omega),aqq (show(n:Int)<18446744073709551616 by omega)];rfl
theorem Zn(N:Nat)(v:Int)(h:bl v=v):wZ N v=some (kJ v):=by
 unfold wZ PI;rw[h,aqs,cond_true];have e:(Int64.ofInt v).toInt=v:=by rw[Int64.toInt_ofInt,<-xP];exact h
 exact congrArg (λx=>some (kJ x)) e
theorem afK(c:Nat)(h:c<10):ta [(IntKind.u8.wrap (IntKind.u64.wrap ((48:Int)+((c:Nat):Int))))]=bs [UInt8.ofNat (48+c)]:=by
 have:∀c:Fin 10,ta [(IntKind.u8.wrap (IntKind.u64.wrap ((48:Int)+((c.val:Nat):Int))))]=bs [UInt8.ofNat (48+c.val)]:=by decide
 exact this ⟨c,h⟩
theorem UR(c:Nat)(h:c<10):(bs [48,49,50,51,52,53,54,55,56,57]).extract c (c+1)=bs [UInt8.ofNat (48+c)]:=by
 have:∀c:Fin 10,(bs [48,49,50,51,52,53,54,55,56,57]).extract c.val (c.val+1)=bs [UInt8.ofNat (48+c.val)]:=by decide
 exact this ⟨c,h⟩
theorem RS(c:UInt8)(a:aqy):bs [c]++a=bs (c::bL a):=iL (by rw[qO];rfl)
theorem PU(l:aqx UInt8):bL (bs l)=l:=rfl
theorem VU(u:Nat):((u:Int)).tmod 10=((u%10:Nat):Int):=by rw[Int.tmod_eq_emod_of_nonneg (by omega)];rfl
theorem Xa(u:Nat):IntKind.u64.wrap (((u:Int)).tdiv 10)=IntKind.u64.wrap ((u / 10:Nat):Int):=by rw[Int.tdiv_eq_ediv_of_nonneg (by omega)];rfl
theorem Zj{u:Nat}(h:u<18446744073709551616):IntKind.u64.wrap (u:Int)=(u:Int):=by rw[su];omega
theorem Ua{u v:Nat}(h:u<v):Nat.blt u v=true:=by rw[Nat.blt_eq];exact h
theorem Y7{u v:Nat}(h:¬u<v):Nat.blt u v=false:=by rw[<-Bool.not_eq_true,Nat.blt_eq];exact h
theorem abw(N:Nat):∀(f k u:Nat)(a:aqy),u<18446744073709551616->u<10^(f+1)->f<k->a.size<=100-f->f<=50->Fz N k (u:Int) a=some (bs (nr (f+1) u (bL a)))
 |f,0,_,_,_,_,h,_,_=>by omega
 |f,k+1,u,a,hu,hp,hk,ha,hf=>by
  rw[Fz,VU,Xa,Zj (show u / 10<18446744073709551616 by omega),afK _ (by omega),RS];refine aX (by rw[az,List.length_singleton];omega) ?_;rw[nr];by_cases aU:u<10
  ·rw[Ua aU,show u / 10=0 by omega,show u%10=u by omega];rfl
  ·rw[Y7 aU];refine bg (by rw[beq_eq_false_iff_ne];omega) ?_;cases f with
   |zero=>rw[Nat.pow_succ]at hp;simp at hp;omega
   |succ f=>
    rw[cond_false];exact abw N f k (u / 10) (bs (UInt8.ofNat (48+u%10)::bL a)) (by omega) (by rw[Nat.div_lt_iff_lt_mul (by decide)];rw[Nat.pow_succ]at hp;exact hp) (by omega) (by rw[az,apM,<-nx];omega) (by omega)
theorem abW(N n:Nat)(hN:50<N)(h:n<18446744073709551616):L7 N (n:Int)=some (tg n):=
 abw N 19 N n (bs []) h (Ej (by omega)) (by omega) (by rw[az];decide) (by omega)
theorem Yo(N:Nat):∀(f k u:Nat)(a:aqy),u<18446744073709551616->u<10^(f+1)->f<k->a.size<=100-f->f<=50->Ch N k (u:Int) a=some (bs (nr (f+1) u (bL a)))
 |f,0,_,_,_,_,h,_,_=>by omega
 |f,k+1,u,a,hu,hp,hk,ha,hf=>by
  have one:∀c:Nat,c<10->IntKind.u64.wrap ((c:Int)+1)=((c+1:Nat):Int):=λc hc=>by rw[su];omega
  rw[Ch,VU,Xa,Zj (show u / 10<18446744073709551616 by omega),one _ (Nat.mod_lt _ (by decide)),aqa,aqa,UR _ (Nat.mod_lt _ (by decide)),RS];rw[nr];by_cases aU:u<10
  ·rw[Ua aU];refine bg (aqr (by omega)) ?_;rw[one _ aU,aqa,aqa,UR _ aU,RS];refine bX (aqq (by omega)) (bX (aqq (by omega)) (bX (aqq (by omega)) (bX (aqq (by rw[az];simp only[apM,apV];omega)) (aX (by rw[az,List.length_singleton];omega) rfl))))
  ·rw[Y7 aU];refine bX (aqq (by omega)) ?_;refine bX (aqq (by omega)) (bX (aqq (by omega)) (bX (aqq (by omega)) (bX (aqq (by rw[az];simp only[apM,apV];omega)) (aX (by rw[az,List.length_singleton];omega) ?_))));cases f with
   |zero=>rw[Nat.pow_succ]at hp;simp at hp;omega
   |succ f=>
    rw[cond_false];exact Yo N f k (u / 10) (bs (UInt8.ofNat (48+u%10)::bL a)) (by omega) (by rw[Nat.div_lt_iff_lt_mul (by decide)];rw[Nat.pow_succ]at hp;exact hp) (by omega) (by rw[az,apM,<-nx];omega) (by omega)
theorem pl1(N n:Nat)(hN:50<N)(h:n<18446744073709551616):J5 N (n:Int)=some (tg n):=
 Yo N 19 N n (bs []) h (Ej (by omega)) (by omega) (by rw[az];decide) (by omega)
theorem adQ(N:Nat)(v:Int64):yP N v=some ((v.toInt.natAbs:Nat):Int):=Iy N v
theorem KW(N:Nat)(v:Int64):Bv N v=some ((v.toInt.natAbs:Nat):Int):=by
 have h1:=v.le_toInt;have h2:=v.toInt_lt;unfold Bv;by_cases h:v.toInt<0
 ·refine bX (aqq h) ?_;have e:(-(v+(1:Int64))).toInt= -(v.toInt+1):=by
   rw[Int64.toInt_neg,Int64.toInt_add,show(1:Int64).toInt=1 from rfl];rw[Int.bmod_eq_of_le (n:=v.toInt+1) (m:=2^64) (by omega) (by omega),Int.bmod_eq_of_le (n:= -(v.toInt+1)) (m:=2^64) (by omega) (by omega)]
  rw[e,su,su];exact congrArg some (by omega)
 ·refine bg (aqr h) ?_;rw[su];exact congrArg some (by omega)
theorem Qw(N:Nat)(v:Int64):BN N v=some ((v.toInt.natAbs:Nat):Int):=KW N v
theorem AX(v:Int64):v.toInt.natAbs<18446744073709551616:=by
 have h1:=v.le_toInt;have h2:=v.toInt_lt;omega
theorem Gf(N:Nat)(hN:50<N)(v:Int64):nU N v=some (kJ v.toInt):=by
 unfold nU;rw[Wo,Qw,apI,pl1 N _ hN (AX v),apI,apI];cases h:decide (v.toInt<0)with
 |true=>
  have:=xZ v.toInt.natAbs;exact aX (by(first|omega|(simp only[ByteArray.size_append,az,apM,apV]at*;omega))) rfl
 |false=>
  have h':=of_decide_eq_false h;rw[cond_false,cond_false,pl1 N _ hN (AX v),apI,show v.toInt.natAbs=v.toInt.toNat by omega]
theorem GS(n:Nat):((n:Int) !=1)= !(n==1):=NI n 1
def Eh(e n:Bool):aqy:=bif e then(bif n then bs [45]else bs [])else bif n then bs [32,45,32]else bs [32,43,32]
def vA(c:Int64)(s:aqy):aqy:=bif s.size==0 then tg c.toInt.natAbs else bif c.toInt.natAbs==1 then s else tg c.toInt.natAbs++bs [42]++s
def tI(c:Int64)(s a:aqy):aqy:=a++Eh (a.size==0) (decide (c.toInt<0))++vA c s
theorem akR(e n:Bool):(Eh e n).size<=3:=by cases e<;>cases n<;>decide
theorem ao7(c:Int64)(s:aqy):(vA c s).size<=21+s.size:=by
 have:=xZ c.toInt.natAbs;unfold vA;cases s.size==0<;>cases c.toInt.natAbs==1<;>simp only[cond_true,cond_false]<;>(first|omega|(simp only[ByteArray.size_append,az,apM,apV]at*;omega))
theorem Mk(c:Int64)(s a:aqy):(tI c s a).size<=a.size+24+s.size:=by
 have h1:=akR (a.size==0) (decide (c.toInt<0));have h2:=ao7 c s;unfold tI;(first|omega|(simp only[ByteArray.size_append,az,apM,apV]at*;omega))
theorem WJ(N:Nat)(c:Int64)(a b:aqy)(h:a.size+b.size<=1000000000):FF N a (decide (c.toInt<0)) b=some (a++Eh (a.size==0) (decide (c.toInt<0))++b):=by
 unfold FF Eh;rw[E3];cases e:a.size==0 with
 |true=>
  rw[Yp e,kF];cases decide (c.toInt<0)with
  |true=>exact aX (by(first|omega|(simp only[ByteArray.size_append,az,apM,apV]at*;omega))) rfl
  |false=>rw[cond_true,cond_false,kF];rfl
 |false=>
  cases decide (c.toInt<0)with
  |true=>exact aX (by(first|omega|(simp only[ByteArray.size_append,az,apM,apV]at*;omega))) (aX (by(first|omega|(simp only[ByteArray.size_append,az,apM,apV]at*;omega))) rfl)
  |false=>exact aX (by(first|omega|(simp only[ByteArray.size_append,az,apM,apV]at*;omega))) (aX (by(first|omega|(simp only[ByteArray.size_append,az,apM,apV]at*;omega))) rfl)
theorem Lv(N:Nat)(c:Int64)(s v:aqy)(J:aqy->aqz aqy)(hJ:∀x,J x=(fA N s x).bind λy=>some y)(h:v.size+21+s.size<=140737488355328):
 ((yP N c).bind λv7=>
  Option.bind (bif (bL s==bL (bs []))then some true else some (v7 !=1)) λv8=>
  bif v8 then
   Option.bind (uK N v7 (10:Int)) λv11=>
   (fA N v11 v).bind λv12=>
   bif (bL s==bL (bs []))then J v12 else Option.bind (fA N (bs [42]) v12) λba=>J ba
  else J v)=some (v++vA c s):=by
 have hd:=xZ c.toInt.natAbs;have Qn:∀x:aqy,x.size+s.size<=140737488355328->J x=some (x++s):=λx hx=>by rw[hJ,mM hx,apI]
 refine aE (adQ N c) ?_;rw[E3];unfold vA;cases e:s.size==0 with
 |true=>
  refine aE rfl (bX rfl (aE (Xb N _ (AX c)) (aE (mM (by omega)) ?_)));simp only[cond_true];rw[Qn _ (by(first|omega|(simp only[ByteArray.size_append,az,apM,apV]at*;omega)))];have e2:=Yp e;rw[e2,pn]
 |false=>
  rw[GS];cases c.toInt.natAbs==1 with
  |true=>refine aE rfl (bg rfl ?_);simp only[cond_true,cond_false];exact Qn _ (by omega)
  |false=>
   refine aE rfl (bX rfl (aE (Xb N _ (AX c)) (aE (mM (by omega)) (bg rfl (aE (mM (by(first|omega|(simp only[ByteArray.size_append,az,apM,apV]at*;omega)))) ?_)))));rw[Qn _ (by(first|omega|(simp only[ByteArray.size_append,az,apM,apV]at*;omega)))];simp only[cond_false,ByteArray.append_assoc]
theorem aaT(N:Nat)(c:Int64)(s a:aqy)(h:a.size+s.size<=1000000000):F9 N c s a=some (tI c s a):=by
 have len:∀x:aqy,BT N x=some (x.size:Int):=λ_=>rfl;unfold F9 tI Eh;simp only[len,apI,pM,ku];cases e:a.size==0 with
 |true=>
  cases decide (c.toInt<0)with
  |true=>
   refine aE rfl (bX rfl (aE (mM (by(first|omega|(simp only[ByteArray.size_append,az,apM,apV]at*;omega)))) ?_));exact(Lv N c s _ (Ew N s) (λ_=>rfl) (by(first|omega|(simp only[ByteArray.size_append,az,apM,apV]at*;omega)))).trans rfl
  |false=>
   refine aE rfl (bg rfl (aE rfl (bg rfl (bg rfl ?_))));rw[cond_true,cond_false,pn];exact Lv N c s _ (EV N s) (λ_=>rfl) (by(first|omega|(simp only[ByteArray.size_append,az,apM,apV]at*;omega)))
 |false=>
  cases decide (c.toInt<0)with
  |true=>
   refine aE rfl (bg rfl (aE rfl (bX rfl (aE (mM (by(first|omega|(simp only[ByteArray.size_append,az,apM,apV]at*;omega)))) ?_))));exact Lv N c s _ (Gk N s) (λ_=>rfl) (by(first|omega|(simp only[ByteArray.size_append,az,apM,apV]at*;omega)))
  |false=>
   refine aE rfl (bg rfl (aE rfl (bg rfl (bX rfl (aE (mM (by(first|omega|(simp only[ByteArray.size_append,az,apM,apV]at*;omega)))) ?_)))));exact Lv N c s _ (EU N s) (λ_=>rfl) (by(first|omega|(simp only[ByteArray.size_append,az,apM,apV]at*;omega)))
def py(x:aR):aqx bt->aqy->aqy
 |[],a=>bif !(x.xK.toInt==0)||x.xL.length==0 then tI x.xK (bs []) a else a
 |m::l,a=>py x l (tI m.cN m.ao a)
theorem WC(x:aR):∀(l:aqx bt)(a:aqy),(∀m∈l,m.ao.size<=16)->(py x l a).size<=a.size+40*l.length+24
 |[],a,_=>by
  have:=Mk x.xK (bs []) a;rw[py];cases !(x.xK.toInt==0)||x.xL.length==0<;>simp only[cond_true,cond_false]<;>(first|omega|(simp only[ByteArray.size_append,az,apM,apV]at*;omega))
 |m::l,a,h=>by
  have h1:=WC x l (tI m.cN m.ao a) (λy hy=>h y (apS _ hy));have h2:=Mk m.cN m.ao a;have h3:=h m apP;rw[py,apM];omega
theorem aa6(N:Nat)(x:aR):∀(l:aqx bt)(k:Nat)(a:aqy),(∀m∈l,m.ao.size<=16)->a.size+40*l.length<=1000000->Ez N x l k a=some (py x l a)
 |[],k,a,_,h=>by
  rw[Ez,py,qH,pM,jF,apI];cases !(x.xK.toInt==0)||x.xL.length==0 with
  |true=>exact aE (aaT N _ _ _ (by(first|omega|(simp only[ByteArray.size_append,az,apM,apV]at*;omega)))) rfl
  |false=>rfl
 |m::l,k,a,hm,h=>by
  have h2:=Mk m.cN m.ao a;have h3:=hm m apP;rw[apM]at h;rw[Ez,aaT N _ _ _ (by omega),apI,py];exact aa6 N x l (k+1) _ (λy hy=>hm y (apS _ hy)) (by omega)
theorem aaA(N:Nat)(hN:50<N)(x:aR):∀(l:aqx bt)(k:Nat)(a:aqy),(∀m∈l,m.ao.size<=16/\m.ao.size≠0)->a.size+40*l.length<=1000000->sr N x l k a=some (py x l a)
 |[],k,a,_,h=>by
  have hd:=xZ x.xK.toInt.natAbs;rw[sr,py,qH,pM,jF,apI];cases !(x.xK.toInt==0)||x.xL.length==0 with
  |true=>exact aE (KW N _) (aE (abW N _ hN (AX _)) (aE (WJ N x.xK a _ (by omega)) rfl))
  |false=>rfl
 |m::l,k,a,hm,h=>by
  have h2:=Mk m.cN m.ao a;have h3:=hm m apP;have hd:=xZ m.cN.toInt.natAbs;rw[apM]at h;rw[sr,py];refine aE (KW N _) ?_;have hn:(m.ao.size==0)=false:=by rw[beq_eq_false_iff_ne];exact h3.2
  have fin:∀b:aqy,b=vA m.cN m.ao->b.size<=21+m.ao.size->BY N a m (λbq=>sr N x l (k+1) bq) b=some (py x l (tI m.cN m.ao a)):=λb hb hs=>by
   unfold BY;rw[WJ N m.cN a b (by omega),apI,hb];show sr N x l (k+1) (tI m.cN m.ao a)=_;exact aaA N hN x l (k+1) _ (λy hy=>hm y (apS _ hy)) (by omega)
  rw[GS];cases e:m.cN.toInt.natAbs==1 with
  |true=>exact bg rfl (fin _ (by unfold vA;rw[hn,e];rfl) (by omega))
  |false=>exact bX rfl (aE (KW N _) (aE (abW N _ hN (AX _)) (aX (by(first|omega|(simp only[ByteArray.size_append,az,apM,apV]at*;omega))) (aX (by(first|omega|(simp only[ByteArray.size_append,az,apM,apV]at*;omega))) (fin _ (by unfold vA;rw[hn,e];rfl) (by(first|omega|(simp only[ByteArray.size_append,az,apM,apV]at*;omega))))))))
def jh(x:aR):aqy:=bif dF x then py x x.xL (bs [])else bs []
theorem pV{s:aqy}(h:cO s=true):s.size<=16/\s.size≠0:=by
 unfold cO Gw at h;simp only[apL,decide_eq_true_eq]at h;rw[nx];omega
theorem Iw:∀(l:aqx bt)(q:aqz aqy),pw q l=true->∀m∈l,cO m.ao=true
 |m::l,q,h,y,hy=>by
  rw[BA]at h;simp only[apL]at h;rcases aqd.1 hy with rfl|hy
  ·exact h.1
  ·exact Iw l _ h.2.2.2 y hy
theorem rN{x:aR}{n:Nat}(h:x.xL.length<=n):(jh x).size<=40*n+24:=by
 unfold jh;cases e:dF x with
 |false=>exact Nat.zero_le _
 |true=>
  have:=WC x x.xL (bs []) (λm hm=>(pV (Iw _ _ e m hm)).1);rw[cond_true];rw[az,apV]at this;omega
theorem Fo{N:Nat}(hN:50<N){x:aR}(h:x.xL.length<=300):td N x=some (jh x):=by
 unfold td jh;rw[sI N (by omega) x (ap1 h (by decide)),apI];cases e:dF x with
 |false=>rfl
 |true=>exact bg rfl (aa6 N x x.xL 0 _ (λm hm=>(pV (Iw _ _ e m hm)).1) (by rw[az,apV];omega))
theorem Cd{N:Nat}(hN:50<N){x:aR}(h:x.xL.length<=300):s9 N x=some (jh x):=by
 unfold s9 Ns jh;rw[qK N (by omega) x (ap1 h (by decide)),apI];cases e:dF x with
 |false=>rfl
 |true=>exact aE rfl (bg rfl (aaA N hN x x.xL 0 _ (λm hm=>pV (Iw _ _ e m hm)) (by rw[az,apV];omega)))
def ye(x:c8):aqy:=bif dF x.aS then(bif x.jB then bs [48,32,61,61,32]else bs [48,32,60,61,32])++jh x.aS else bs []
theorem anq{N:Nat}(hN:50<N){x:c8}(h:x.aS.xL.length<=300):H3 N x=some (ye x):=by
 have hs:=rN h;have hv:te N x=some (bif dF x.aS then 0 else 1):=by
  unfold te;rw[sI N (by omega) x.aS (ap1 h (by decide)),apI]
  try (cases dF x.aS<;>rfl)
 unfold H3 ye;rw[hv,apI,Fo hN h];cases dF x.aS with
 |false=>rfl
 |true=>
  refine bg rfl ?_;cases x.jB with
  |true=>exact aX (by(first|omega|(simp only[ByteArray.size_append,az,apM,apV]at*;omega))) rfl
  |false=>exact aX (by(first|omega|(simp only[ByteArray.size_append,az,apM,apV]at*;omega))) rfl
theorem ahK{N:Nat}(hN:50<N){x:c8}(h:x.aS.xL.length<=300):LN N x=some (ye x):=by
 have hs:=rN h;unfold LN g_brocaderef06_Validate ye;rw[qK N (by omega) x.aS (ap1 h (by decide)),apI,Cd hN h];cases dF x.aS with
 |false=>rfl
 |true=>
  refine aE rfl (bg rfl ?_);cases x.jB with
  |true=>exact aX (by(first|omega|(simp only[ByteArray.size_append,az,apM,apV]at*;omega))) rfl
  |false=>exact aX (by(first|omega|(simp only[ByteArray.size_append,az,apM,apV]at*;omega))) rfl
theorem ajx{x:c8}{n:Nat}(h:x.aS.xL.length<=n):(ye x).size<=40*n+29:=by
 have hs:=rN h;unfold ye;cases dF x.aS<;>cases x.jB<;>simp only[cond_true,cond_false]<;>(first|omega|(simp only[ByteArray.size_append,az,apM,apV]at*;omega))
def x8(r:Int):aqy:=bif r==1 then bs [102,108,111,111,114]else bif r==2 then bs [99,101,105,108]else bif r==3 then bs [122,101,114,111]else bs [101,118,101,110]
theorem Ot(r:Int):(x8 r).size<=5:=by unfold x8;cases r==1<;>cases r==2<;>cases r==3<;>decide
theorem ah4(N:Nat)(r:Int):J0 N r=some (x8 r):=by unfold J0 x8;cases r==1<;>cases r==2<;>cases r==3<;>rfl
theorem ajl(N:Nat)(r:Int):IQ N r=some (x8 r):=by unfold IQ x8;cases r==1<;>cases r==2<;>cases r==3<;>rfl
def zp(t:bA)(o:aqy):aqy:=(((((((bs [102,105,120,40])++kJ t.cp)++(bs [44,32]))++kJ t.cq)++(bs [44,32]))++x8 t.cU)++(bs [44,32]))++o++bs [41]
theorem agn(t:bA){o:aqy}(h:o.size<=4):(zp t o).size<=62:=by
 have h1:=mc t.cp;have h2:=mc t.cq;have h3:=Ot t.cU;unfold zp;(first|omega|(simp only[ByteArray.size_append,az,apM,apV]at*;omega))
theorem Si{t:bA}(h:eX t=true)(h1:(t.b7==1)=false)(h3:(t.b7==3)=false):(t.b7==2)=true/\2<=t.cp/\t.cp<=31/\0<=t.cq/\t.cq<=30:=by
 unfold eX at h;rw[h1,h3]at h;simp only[Bool.or_false,Bool.false_or,cond_false,apL,decide_eq_true_eq]at h;exact⟨h.1,h.2.1,h.2.2.1,h.2.2.2.1,h.2.2.2.2.1⟩
theorem ae9(N:Nat)(t:bA){o:aqy}(ho:o.size<=4)(hb:bl t.cp=t.cp)(hf:bl t.cq=t.cq):FO N t o=some (zp t o):=by
 have h1:=mc t.cp;have h2:=mc t.cq;have h3:=Ot t.cU;unfold FO;refine aE (Zn N _ hb) (aX (by(first|omega|(simp only[ByteArray.size_append,az,apM,apV]at*;omega))) (aX (by(first|omega|(simp only[ByteArray.size_append,az,apM,apV]at*;omega))) (aE (Zn N _ hf) (aX (by(first|omega|(simp only[ByteArray.size_append,az,apM,apV]at*;omega))) (aX (by(first|omega|(simp only[ByteArray.size_append,az,apM,apV]at*;omega))) (aE (ah4 N _) (aX (by(first|omega|(simp only[ByteArray.size_append,az,apM,apV]at*;omega))) (aX (by(first|omega|(simp only[ByteArray.size_append,az,apM,apV]at*;omega))) (aX (by(first|omega|(simp only[ByteArray.size_append,az,apM,apV]at*;omega))) (aX (by(first|omega|(simp only[ByteArray.size_append,az,apM,apV]at*;omega))) rfl))))))))))
theorem ajT(N:Nat)(hN:50<N)(t:bA){o:aqy}(ho:o.size<=4)(hb:bl t.cp=t.cp)(hf:bl t.cq=t.cq):Gg N t o=some (zp t o):=by
 have h1:=mc t.cp;have h2:=mc t.cq;have h3:=Ot t.cU;have dg:∀v:Int,bl v=v->nU N (Int64.ofInt v)=some (kJ v):=λv h=>by
  rw[Gf N hN,Int64.toInt_ofInt,<-xP];exact congrArg (λx=>some (kJ x)) h
 unfold Gg;refine bX (beq_iff_eq.2 hb) (aE (dg _ hb) (aX (by(first|omega|(simp only[ByteArray.size_append,az,apM,apV]at*;omega))) (aX (by(first|omega|(simp only[ByteArray.size_append,az,apM,apV]at*;omega))) (bX (beq_iff_eq.2 hf) (aE (dg _ hf) (aX (by(first|omega|(simp only[ByteArray.size_append,az,apM,apV]at*;omega))) (aX (by(first|omega|(simp only[ByteArray.size_append,az,apM,apV]at*;omega))) (aE (ajl N _) (aX (by(first|omega|(simp only[ByteArray.size_append,az,apM,apV]at*;omega))) (aX (by(first|omega|(simp only[ByteArray.size_append,az,apM,apV]at*;omega))) (aX (by(first|omega|(simp only[ByteArray.size_append,az,apM,apV]at*;omega))) (aX (by(first|omega|(simp only[ByteArray.size_append,az,apM,apV]at*;omega))) rfl))))))))))))
def mY(t:bA):aqy:=bif eX t then bif t.b7==1 then bs [102,114,97,99]else bif t.b7==3 then bs [105,110,116]else zp t (bif t.cS==2 then bs [119,114,97,112]else bs [115,97,116])else bs []
theorem IB(t:bA):(mY t).size<=62:=by
 have h:=agn t (o:=bif t.cS==2 then bs [119,114,97,112]else bs [115,97,116]) (by cases t.cS==2<;>decide);unfold mY;cases eX t<;>cases t.b7==1<;>cases t.b7==3<;>simp only[cond_true,cond_false]<;>first|exact h|decide
theorem Kv(N:Nat)(t:bA):xQ N t=some (mY t):=by
 unfold xQ mY;rw[qW,apI];cases e:eX t with
 |false=>rfl
 |true=>
  refine bg rfl ?_;cases e1:t.b7==1 with
  |true=>rfl
  |false=>
   cases e3:t.b7==3 with
   |true=>rfl
   |false=>
    obtain⟨_,iP,jR,aB,ca⟩:=Si e e1 e3;cases t.cS==2<;>exact ae9 N t (by decide) (pk (by omega) (by omega)) (pk (by omega) (by omega))
theorem KA{N:Nat}(hN:50<N)(t:bA):xh N t=some (mY t):=by
 unfold xh mY;rw[sR,apI];cases e:eX t with
 |false=>rfl
 |true=>
  refine bX rfl ?_;cases e1:t.b7==1 with
  |true=>rfl
  |false=>
   cases e3:t.b7==3 with
   |true=>rfl
   |false=>
    obtain⟨_,iP,jR,aB,ca⟩:=Si e e1 e3;cases t.cS==2<;>exact ajT N hN t (by decide) (pk (by omega) (by omega)) (pk (by omega) (by omega))
def tF:bA:=⟨1,0,0,0,0⟩
def uI(v:dx):aqy:=bif mw tF v then(bif v.xD.toInt==1 then kJ v.xN.toInt else kJ v.xN.toInt++bs [47]++kJ v.xD.toInt)else bs []
theorem Uk(v:dx):(uI v).size<=43:=by
 have h1:=mc v.xN.toInt;have h2:=mc v.xD.toInt;unfold uI;cases mw tF v<;>cases v.xD.toInt==1<;>simp only[cond_true,cond_false]<;>(first|omega|(simp only[ByteArray.size_append,az,apM,apV]at*;omega))
theorem T4{N:Nat}(hN:2147483648<N)(v:dx):LI N v=some (uI v):=by
 have h1:=mc v.xN.toInt;have h2:=mc v.xD.toInt;have hv:y6 N v=some (mw tF v):=by
  have h:=QJ N hN tF v rfl;unfold wD at h;rw[qW,apI]at h;revert h;show((y6 N v).bind λv7=>some v7)=_->_;cases y6 N v with
  |none=>intro h;cases h
  |some b=>exact id
 unfold LI uI;rw[hv,apI];cases mw tF v with
 |false=>rfl
 |true=>
  cases v.xD.toInt==1 with
  |true=>rfl
  |false=>exact bX rfl (bg rfl (aE (Qz N _) (aX (by(first|omega|(simp only[ByteArray.size_append,az,apM,apV]at*;omega))) (aE (Qz N _) (aX (by(first|omega|(simp only[ByteArray.size_append,az,apM,apV]at*;omega))) rfl)))))
theorem aaZ{N:Nat}(hN:2147483648<N)(v:dx):G7 N v=some (uI v):=by
 have h1:=mc v.xN.toInt;have h2:=mc v.xD.toInt;unfold G7 OA uI;have hv:x7 N (⟨(1:Int),(0:Int),(0:Int),(0:Int),(0:Int)⟩:bA) v=some (mw tF v):=R4 N hN tF v rfl;rw[hv,apI,apI];cases mw tF v with
 |false=>rfl
 |true=>
  cases v.xD.toInt==1 with
  |true=>exact bX rfl (bX rfl (aE (Gf N (by omega) _) rfl))
  |false=>exact bX rfl (bg rfl (aE (Gf N (by omega) _) (aX (by(first|omega|(simp only[ByteArray.size_append,az,apM,apV]at*;omega))) (aE (Gf N (by omega) _) (aX (by(first|omega|(simp only[ByteArray.size_append,az,apM,apV]at*;omega))) rfl)))))
theorem Vc(N:Nat):∀(k:Nat)(a b:Int),y8 N k a b=DP N k a b
 |0,_,_=>rfl
 |k+1,a,b=>by
  rw[y8,DP];cases b !=0 with
  |true=>exact Vc N k b _
  |false=>rfl
theorem adW(N:Nat)(a b:Int64)(hb:b.toInt≠0)(hN:b.toInt.natAbs<N):∃r,G5 N a b=some r/\IN N a b=some r:=by
 have hg:Cl N ((a.toInt.natAbs:Nat):Int) ((b.toInt.natAbs:Nat):Int)=some ((Nat.gcd a.toInt.natAbs b.toInt.natAbs:Nat):Int):=SU N N _ _ hN;have qz:Pv N ((a.toInt.natAbs:Nat):Int) ((b.toInt.natAbs:Nat):Int)=some ((Nat.gcd a.toInt.natAbs b.toInt.natAbs:Nat):Int):=by
  rw[<-hg];exact(Vc N N _ _).symm
 have hz:(((Nat.gcd a.toInt.natAbs b.toInt.natAbs:Nat):Int) !=0)=true:=by
  have:0<Nat.gcd a.toInt.natAbs b.toInt.natAbs:=Nat.gcd_pos_of_pos_right _ (by omega);rw[qH,beq_eq_false_iff_ne.2 (by omega)];rfl
 unfold G5 IN M8;rw[Iy,Iy,Qw,Qw];simp only[apI,hg,qz,hz,cond_true,beq_eq_false_iff_ne.2 hb,cond_false,jF];cases decide (IntKind.u64.wrap (Int.tdiv ((a.toInt.natAbs:Nat):Int) ((Nat.gcd a.toInt.natAbs b.toInt.natAbs:Nat):Int))>2147483647)||decide (IntKind.u64.wrap (Int.tdiv ((b.toInt.natAbs:Nat):Int) ((Nat.gcd a.toInt.natAbs b.toInt.natAbs:Nat):Int))>2147483647)with
 |true=>exact⟨_,rfl,rfl⟩
 |false=>
  cases (decide (a.toInt<0))==(decide (b.toInt<0))with
  |true=>exact⟨_,rfl,rfl⟩
  |false=>exact⟨_,rfl,rfl⟩
theorem afu:∀F:Fin 31,(Int64.ofInt ((1:Int)*2^(min (F.val:Nat) (IntKind.bits .i64)))).toInt≠0/\(Int64.ofInt ((1:Int)*2^(min (F.val:Nat) (IntKind.bits .i64)))).toInt.natAbs<2147483648:=by decide
theorem ame{f:Int}(h1:0<=f)(h2:f<=30):(Int64.ofInt ((1:Int)*2^(min f.toNat (IntKind.bits .i64)))).toInt≠0/\(Int64.ofInt ((1:Int)*2^(min f.toNat (IntKind.bits .i64)))).toInt.natAbs<2147483648:=
 afu ⟨f.toNat,by omega⟩
theorem akG{N:Nat}(hN:2147483648<N){t:bA}{v:dx}(ht:eX t=true)(hv:mw t v=true):∃x,Q4 N t v=some x/\Om N t v=some x/\x.size<=43:=by
 have r0:wD N t v=some true:=by rw[QJ N hN t v ht,hv]
 have r1:Ls N t v=some true:=by
  unfold Ls;rw[sR,ht];exact aE rfl (aE (bX rfl (aE (R4 N hN t v ht) rfl)) (congrArg some hv))
 cases k2:t.b7==2 with
 |false=>
  refine⟨uI v,?_,?_,Uk v⟩
  ·exact aE r0 (bX rfl (aE (show HW N t v=some v from bg k2 rfl) (aE (T4 hN v) rfl)))
  ·exact aE r1 (bX rfl (aE (show JR N t v=some v from bg k2 rfl) (aE (aaZ hN v) rfl)))
 |true=>
  have hk:t.b7=2:=beq_iff_eq.1 k2;obtain⟨_,iP,jR,aB,ca⟩:=Si ht (by rw[hk];rfl) (by rw[hk];rfl);obtain⟨s1,s2⟩:=ame aB ca;obtain⟨r,n1,n2⟩:=adW N v.xN _ s1 (Nat.lt_trans s2 hN);have fv:sQ N t=some 0:=by
   have h:=qW N t;rw[ht]at h;unfold qa DK at h;rw[hk]at h;revert h;show((sQ N t).bind λv4=>bif v4==0 then some 0 else some 10)=some 0->_;cases sQ N t with
   |none=>intro h;cases h
   |some z=>
    show(bif z==0 then some (0:Int)else some 10)=some 0->_;cases ez:z==0 with
    |true=>intro _;rw[beq_iff_eq.1 ez]
    |false=>intro h;cases h
  have vv:u6 N t v=some true:=by
   have h:=r0;unfold wD at h;rw[qW,ht,apI,k2]at h;revert h;show((u6 N t v).bind λv4=>some v4)=some true->_;cases u6 N t v with
   |none=>intro h;cases h
   |some z=>exact id
  have tf:Kj N t v=some (r.1,r.2):=by
   unfold Kj Ph;exact aE (aE fv (bg rfl (aE vv (bX rfl rfl)))) (bg rfl (bX (aqq aB) (aE n1 rfl)))
  refine⟨uI r.1,?_,?_,Uk r.1⟩
  ·exact aE r0 (bX rfl (aE (show HW N t v=some r.1 from bX k2 (aE tf rfl)) (aE (T4 hN r.1) rfl)))
  ·have st:IW N t=some (Int64.ofInt ((1:Int)*2^(min t.cq.toNat (IntKind.bits .i64)))):=by
    unfold IW;have e:IntKind.u64.wrap t.cq=t.cq:=by rw[su];omega
    rw[e];exact bX (aqq aB) rfl
   refine aE r1 (bX rfl (aE (show JR N t v=some r.1 from bX k2 (aE st (aE n2 ?_))) (aE (aaZ hN r.1) rfl)));rfl
def di:Bool->aqx aqy->aqy
 |_,[]=>bs []
 |b,t::l=>(bif b then bs [44,32]else bs [])++t++di true l
theorem AA{B:Nat}:∀(l:aqx aqy)(b:Bool),(∀t∈l,t.size<=B)->(di b l).size<=l.length*(B+2)
 |[],b,_=>Nat.zero_le _
 |t::l,b,h=>by
  have h1:=AA l true λx hx=>h x (apS _ hx);have h2:=h t apP;have h3:(bif b then bs [44,32]else bs []).size<=2:=by cases b<;>decide
  rw[di,apM,Nat.succ_mul,ByteArray.size_append,ByteArray.size_append];omega
theorem GK{α:Type}{N:Nat}(xs:aqx α)(item:Int->aqz aqy)(F:α->aqy)(L:Nat->Int->aqy->aqz aqy)(hx:xs.length<=1000000)
 (hL:∀k i a,L (k+1) i a=bif decide (i<(xs.length:Int))then(bif decide (i>0)then(Option.bind (fA N (bs [44,32]) a) λv9=>(item i).bind λv7=>(fA N v7 v9).bind λv8=>L k (bl (i+(1:Int))) v8)
  else((item i).bind λv7=>(fA N v7 a).bind λv8=>L k (bl (i+(1:Int))) v8))else some a)
 (hi:∀(i:Nat) x,xs[i]?=some x->item (i:Int)=some (F x)):
 ∀(l:aqx α)(k i:Nat)(a:aqy),xs.drop i=l->l.length<k->i<=xs.length->a.size+(di (!(i==0)) (l.map F)).size<=140737488355328->L k (i:Int) a=some (a++di (!(i==0)) (l.map F))
 |l,0,_,_,_,h,_,_=>by omega
 |[],k+1,i,a,hd,hk,de,hs=>by
  rw[hL];have:xs.length<=i:=List.drop_eq_nil_iff.1 hd;refine bg (aqr (by omega)) ?_;rw[List.map_nil,di,pn]
 |x::l,k+1,i,a,hd,hk,de,hs=>by
  have aH:i<xs.length:=by
   have:=congrArg List.length hd;rw[List.length_drop,apM]at this;omega
  have hg:=hi i x (aW hd);have e1:bl ((i:Int)+1)=((i+1:Nat):Int):=GG (by omega);have ih:=λb hb=>GK xs item F L hx hL hi l k (i+1) b (rR hd) (by rw[apM]at hk;omega) (by omega) hb;rw[show(!(i+1==0))=true from rfl]at ih;rw[ap8,di]at hs ⊢;rw[hL,ku i,e1];refine bX (aqq (by omega)) ?_;cases hz: !(i==0)with
  |true=>
   rw[hz]at hs;simp only[cond_true,ByteArray.size_append]at hs;refine bX rfl (aE (mM (by(first|omega|(simp only[ByteArray.size_append,az,apM,apV]at*;omega)))) (aE hg (aE (mM (by(first|omega|(simp only[ByteArray.size_append,az,apM,apV]at*;omega)))) ?_)));rw[ih _ (by(first|omega|(simp only[ByteArray.size_append,az,apM,apV]at*;omega)))];simp only[cond_true,ByteArray.append_assoc]
  |false=>
   rw[hz]at hs;simp only[cond_false,ByteArray.size_append]at hs;refine bg rfl (aE hg (aE (mM (by(first|omega|(simp only[ByteArray.size_append,az,apM,apV]at*;omega)))) ?_));rw[ih _ (by(first|omega|(simp only[ByteArray.size_append,az,apM,apV]at*;omega)))];simp only[cond_false,kF,ByteArray.append_assoc]
theorem aj0{N:Nat}(xs:aqx aqy)(hx:xs.length<=1000000)(hN:xs.length<N)(hs:(di false xs).size<=140737488355328):Sy N (xs.length:Int) xs=some (di false xs):=by
 have h:=GK (N:=N) xs (Lx N xs) id (BI N (xs.length:Int) xs) hx (λk i a=>rfl)
  (λi x h=>by unfold Lx;exact bX (aqq (by omega)) (by rw[aqa,h];rfl)) xs N 0 (bs []) rfl hN (Nat.zero_le _) (by rw[List.map_id,az,apV,ap3];exact hs)
 rw[List.map_id,kF]at h;exact h
theorem W5{N:Nat}(iU:50<N)(xs:aqx aR)(hx:xs.length<=1000000)(hN:xs.length<N)(hl:∀x∈xs,x.xL.length<=300)(hs:(di false (xs.map jh)).size<=140737488355328):Km N (xs.length:Int) xs=some (di false (xs.map jh)):=by
 have h:=GK (N:=N) xs (Iz N xs) jh (Am N (xs.length:Int) xs) hx (λk i a=>rfl)
  (λi x h=>by unfold Iz;exact bX (aqq (by omega)) (by rw[aqa,h];exact aE rfl (aE (Fo iU (hl x (rI h))) rfl))) xs N 0 (bs []) rfl hN (Nat.zero_le _) (by rw[az,apV,ap3];exact hs)
 rw[kF]at h;exact h
def mH(x:cd):aqy:=x.ao++bs [32,60,32]++jh x.cw
theorem anG{N:Nat}(iU:50<N)(xs:aqx cd)(hx:xs.length<=1000000)(hN:xs.length<N)(hl:∀x∈xs,x.cw.xL.length<=300/\x.ao.size<=16)(hs:(di false (xs.map mH)).size<=140737488355328):q8 N (xs.length:Int) xs=some (di false (xs.map mH)):=by
 have h:=GK (N:=N) xs (Ka N xs) mH (BG N (xs.length:Int) xs) hx (λk i a=>rfl)
  (λi x h=>by
   obtain⟨h1,h2⟩:=hl x (rI h);have h3:=rN h1;unfold Ka;exact bX (aqq (by omega)) (by rw[aqa,h];exact aE rfl (aX (by(first|omega|(simp only[ByteArray.size_append,az,apM,apV]at*;omega))) (aE (Fo iU h1) (aX (by(first|omega|(simp only[ByteArray.size_append,az,apM,apV]at*;omega))) rfl))))) xs N 0 (bs []) rfl hN (Nat.zero_le _) (by rw[az,apV,ap3];exact hs)
 rw[kF]at h;exact h
theorem RB{N:Nat}(iU:50<N):∀(l:aqx aR)(k:Nat)(a:aqy),(∀x∈l,x.xL.length<=300)->a.size+(di (!(k==0)) (l.map jh)).size<=140737488355328->yQ N l k a=some (a++di (!(k==0)) (l.map jh))
 |[],k,a,_,_=>by rw[yQ,List.map_nil,di,pn]
 |x::l,k,a,hl,hs=>by
  have ih:=λb hb=>RB iU l (k+1) b (λy hy=>hl y (apS _ hy)) hb;rw[show(!(k+1==0))=true from rfl]at ih;rw[ap8,di]at hs ⊢;rw[yQ,ku];unfold I7;have hf:=Cd iU (hl x apP);cases hz: !(k==0)with
  |true=>
   rw[hz]at hs;simp only[cond_true,ByteArray.size_append]at hs;refine bX rfl (aX (by(first|omega|(simp only[ByteArray.size_append,az,apM,apV]at*;omega))) (aE hf (aX (by(first|omega|(simp only[ByteArray.size_append,az,apM,apV]at*;omega))) ?_)));refine(ih _ (by(first|omega|(simp only[ByteArray.size_append,az,apM,apV]at*;omega)))).trans ?_;simp only[cond_true,ByteArray.append_assoc]
  |false=>
   rw[hz]at hs;simp only[cond_false,ByteArray.size_append]at hs;refine bg rfl (aE hf (aX (by(first|omega|(simp only[ByteArray.size_append,az,apM,apV]at*;omega))) ?_));refine(ih _ (by(first|omega|(simp only[ByteArray.size_append,az,apM,apV]at*;omega)))).trans ?_;simp only[cond_false,kF,ByteArray.append_assoc]
theorem Tv{N:Nat}(iU:50<N):∀(l:aqx aqy)(k:Nat)(a:aqy),(∀x∈l,cO x=true)->a.size+(di (!(k==0)) l).size<=140737488355328->w8 N l k a=some (a++di (!(k==0)) l,true)
 |[],k,a,_,_=>by rw[w8,di,pn]
 |x::l,k,a,hl,hs=>by
  have ih:=λb hb=>Tv iU l (k+1) b (λy hy=>hl y (apS _ hy)) hb;rw[show(!(k+1==0))=true from rfl]at ih;rw[di]at hs ⊢;rw[w8,ku];unfold J4;refine aE (sf N x (by omega)) (bX (hl x apP) ?_);cases hz: !(k==0)with
  |true=>
   rw[hz]at hs;simp only[cond_true,ByteArray.size_append]at hs;refine bX rfl (aX (by(first|omega|(simp only[ByteArray.size_append,az,apM,apV]at*;omega))) (aX (by(first|omega|(simp only[ByteArray.size_append,az,apM,apV]at*;omega))) ?_));refine(ih _ (by(first|omega|(simp only[ByteArray.size_append,az,apM,apV]at*;omega)))).trans ?_;simp only[cond_true,ByteArray.append_assoc]
  |false=>
   rw[hz]at hs;simp only[cond_false,ByteArray.size_append]at hs;refine bg rfl (aX (by(first|omega|(simp only[ByteArray.size_append,az,apM,apV]at*;omega))) ?_);refine(ih _ (by(first|omega|(simp only[ByteArray.size_append,az,apM,apV]at*;omega)))).trans ?_;simp only[cond_false,kF,ByteArray.append_assoc]
theorem QR{N:Nat}(iU:50<N):∀(l:aqx cd)(k:Nat)(a:aqy),(∀x∈l,x.cw.xL.length<=300/\cO x.ao=true/\dF x.cw=true)->a.size+(di (!(k==0)) (l.map mH)).size<=140737488355328->y7 N l k a=some (a++di (!(k==0)) (l.map mH),true)
 |[],k,a,_,_=>by rw[y7,List.map_nil,di,pn]
 |x::l,k,a,hl,hs=>by
  have ih:=λb hb=>QR iU l (k+1) b (λy hy=>hl y (apS _ hy)) hb;rw[show(!(k+1==0))=true from rfl]at ih;rw[ap8,di]at hs ⊢;rw[y7,ku];unfold Kt;obtain⟨h1,h2,h3⟩:=hl x apP;have hf:=Cd iU h1;refine aE (sf N _ (by omega)) (aE (v:=false) (bX h2 (aE (qK N (by omega) x.cw (ap1 h1 (by decide))) (by rw[h3];rfl))) (bg rfl ?_));have ea:mH x=x.ao++bs [32,60,32]++jh x.cw:=rfl;cases hz: !(k==0)with
  |true=>
   rw[hz,ea]at hs;simp only[cond_true,ByteArray.size_append]at hs;refine bX rfl (aX (by(first|omega|(simp only[ByteArray.size_append,az,apM,apV]at*;omega))) (aX (by(first|omega|(simp only[ByteArray.size_append,az,apM,apV]at*;omega))) (aX (by(first|omega|(simp only[ByteArray.size_append,az,apM,apV]at*;omega))) (aE hf (aX (by(first|omega|(simp only[ByteArray.size_append,az,apM,apV]at*;omega))) ?_)))));refine(ih _ (by(first|omega|(simp only[ByteArray.size_append,az,apM,apV]at*;omega)))).trans ?_;rw[ea];simp only[cond_true,ByteArray.append_assoc]
  |false=>
   rw[hz,ea]at hs;simp only[cond_false,ByteArray.size_append]at hs;refine bg rfl (aX (by(first|omega|(simp only[ByteArray.size_append,az,apM,apV]at*;omega))) (aX (by(first|omega|(simp only[ByteArray.size_append,az,apM,apV]at*;omega))) (aE hf (aX (by(first|omega|(simp only[ByteArray.size_append,az,apM,apV]at*;omega))) ?_))));refine(ih _ (by(first|omega|(simp only[ByteArray.size_append,az,apM,apV]at*;omega)))).trans ?_;rw[ea];simp only[cond_false,kF,ByteArray.append_assoc]
theorem Qd{N:Nat}(h:16<N):∀(l:aqx aR)(k:Nat),(∀x∈l,x.xL.length<=300)->(∀x∈l,dF x=true)->IA N l k=some true
 |[],_,_,_=>rfl
 |x::l,k,h1,h2=>by
  rw[IA];refine aE (sI N h x (ap1 (h1 x apP) (by decide))) ?_;rw[h2 x apP];exact bg rfl (Qd h l (k+1) (λy hy=>h1 y (apS _ hy)) (λy hy=>h2 y (apS _ hy)))
theorem Pq{N:Nat}(h:16<N):∀(l:aqx aR)(k:Nat),(∀x∈l,x.xL.length<=300)->(∀x∈l,dF x=true)->IF N l k=some true
 |[],_,_,_=>rfl
 |x::l,k,h1,h2=>by
  rw[IF];refine aE (qK N h x (ap1 (h1 x apP) (by decide))) ?_;rw[h2 x apP];exact bX rfl (Pq h l (k+1) (λy hy=>h1 y (apS _ hy)) (λy hy=>h2 y (apS _ hy)))
theorem S6{N:Nat}(h:16<N):∀(l:aqx cd)(k:Nat),(∀x∈l,x.cw.xL.length<=300/\cO x.ao=true/\dF x.cw=true)->Lk N l k=some true
 |[],_,_=>rfl
 |x::l,k,h1=>by
  obtain⟨a,b,c⟩:=h1 x apP;rw[Lk];refine aE (tV N _ h) (aE (v:=false) (bX b (aE (sI N h x.cw (ap1 a (by decide))) (by rw[c];rfl))) (bg rfl ?_));exact S6 h l (k+1) (λy hy=>h1 y (apS _ hy))
theorem OM{N:Nat}(h:16<N):∀(l:aqx aqy)(k:Nat),(∀x∈l,cO x=true)->G4 N l k=some true
 |[],_,_=>rfl
 |x::l,k,h1=>by
  rw[G4];exact aE (tV N _ h) (bX (h1 x apP) (OM h l (k+1) (λy hy=>h1 y (apS _ hy))))
structure AE(x:bH):Prop where
 fi:dF x.aS=true
 at_:∀l∈x.bO,dF l=true
 idx:kh x=true
 from_:(bL x.bR==[])=true\/cO x.bR=true
 l1:x.aS.xL.length<=300
 l2:x.bO.length<=6
 l3:∀l∈x.bO,l.xL.length<=300
def oh(x:bH):aqy:=bif bL x.bR==[]then jh x.aS else x.bR++bs [91]++di false (x.bO.map jh)++bs [93]
theorem Ty{x:bH}(h:AE x):(di false (x.bO.map jh)).size<=72156:=by
 have h1:=AA (B:=12024) (x.bO.map jh) false λt ht=>by
  obtain⟨l,hl,rfl⟩:=List.mem_map.1 ht;exact rN (h.l3 l hl)
 rw[apO]at h1;have:=h.l2;have:x.bO.length*(12024+2)<=6*(12024+2):=Nat.mul_le_mul_right _ this;omega
theorem adV{x:bH}(h:AE x):(oh x).size<=72174:=by
 have h1:=Ty h;have h2:=rN h.l1;unfold oh;cases e:bL x.bR==[]with
 |true=>rw[cond_true];omega
 |false=>
  rcases h.from_ with hf|hf
  ·rw[e]at hf;cases hf
  ·have:=(pV hf).1;rw[cond_false];(first|omega|(simp only[ByteArray.size_append,az,apM,apV]at*;omega))
theorem Wr{N:Nat}(iU:50<N){x:bH}(h:AE x):Ey N x=some (oh x)/\Dt N x=some (oh x):=by
 have bV:16<N:=by omega
 have h1:=Ty h;have h2:=rN h.l1;have l2:=h.l2;have a1:qX N x.aS=some 0:=by rw[sI N bV x.aS (ap1 h.l1 (by decide)),h.fi];rfl
 have a2:nP N x.aS=some true:=by rw[qK N bV x.aS (ap1 h.l1 (by decide)),h.fi]
 have b1:L5 N x.bO=some true:=Qd bV x.bO 0 h.l3 h.at_;have b2:LQ N x.bO=some true:=Pq bV x.bO 0 h.l3 h.at_;have hi:=h.idx;unfold kh at hi;unfold oh;cases e:bL x.bR==[]with
 |true=>
  rw[e,cond_true]at hi;have hz:x.bO.length=0:=beq_iff_eq.1 hi;constructor
  ·unfold Ey;refine aE a1 (aE (v:=false) (bg rfl (aE b1 rfl)) (bg rfl (aE (v:=false) (bX e (by rw[hz];rfl)) (bg rfl (bX e (aE (Fo iU h.l1) rfl))))))
  ·unfold Dt;refine aE a2 (aE (v:=false) (bX rfl (aE b2 rfl)) (bg rfl (bX e (bg (by rw[hz];rfl) (aE (Cd iU h.l1) rfl)))))
 |false=>
  rw[e,cond_false]at hi;unfold kt at hi;rw[apL]at hi;have hn:cO x.bR=true:=h.from_.resolve_left (by rw[e];exact Bool.noConfusion);have hs:=(pV hn).1;have zz:(bif (x.aS.xK.toInt !=0)then some true else some (decide ((x.aS.xL.length:Int)>0)))=some false:=by
    rw[qH,hi.1,ku,hi.2];rfl
  constructor
  ·unfold Ey;refine aE a1 (aE (v:=false) (bg rfl (aE b1 rfl)) (bg rfl (aE (v:=false) (bg e rfl) (bg rfl (bg e (aE (tV N _ bV) (aE (v:=false) (bX hn zz) (bg rfl (aX (by(first|omega|(simp only[ByteArray.size_append,az,apM,apV]at*;omega))) (aE (W5 iU x.bO (by omega) (by omega) h.l3 (by omega)) (aX (by(first|omega|(simp only[ByteArray.size_append,az,apM,apV]at*;omega))) (aX (by(first|omega|(simp only[ByteArray.size_append,az,apM,apV]at*;omega))) rfl))))))))))))
  ·unfold Dt;have rf:=RB iU x.bO 0 (bs []) h.l3 (by rw[az,apV,show(!(0==0))=false from rfl];omega);rw[kF,show(!(0==0))=false from rfl]at rf;refine aE a2 (aE (v:=false) (bX rfl (aE b2 rfl)) (bg rfl (bg e (aE (sf N _ bV) (aE (v:=false) (bX hn zz) (bg rfl (aX (by(first|omega|(simp only[ByteArray.size_append,az,apM,apV]at*;omega))) (aE (show D4 N x.bO=_ from rf) (aX (by(first|omega|(simp only[ByteArray.size_append,az,apM,apV]at*;omega))) (aX (by(first|omega|(simp only[ByteArray.size_append,az,apM,apV]at*;omega))) rfl))))))))))
theorem akk{N:Nat}(iU:50<N)(xs:aqx bH)(hx:xs.length<=1000000)(hN:xs.length<N)(hl:∀x∈xs,AE x)(hs:(di false (xs.map oh)).size<=140737488355328):N4 N (xs.length:Int) xs=some (di false (xs.map oh)):=by
 have h:=GK (N:=N) xs (I9 N xs) oh (zx N (xs.length:Int) xs) hx (λk i a=>rfl)
  (λi x h=>by unfold I9;exact bX (aqq (by omega)) (by rw[aqa,h];exact aE rfl (aE (Wr iU (hl x (rI h))).1 rfl))) xs N 0 (bs []) rfl hN (Nat.zero_le _) (by rw[az,apV,ap3];exact hs)
 rw[kF]at h;exact h
theorem Zp{N:Nat}(iU:50<N):∀(l:aqx bH)(k:Nat)(a:aqy),(∀x∈l,AE x)->a.size+(di (!(k==0)) (l.map oh)).size<=140737488355328->xl N l k a=some (a++di (!(k==0)) (l.map oh)++bs [93])
 |[],k,a,_,hs=>by
  rw[List.map_nil,di]at hs ⊢;rw[xl,pn];exact aX (by(first|omega|(simp only[ByteArray.size_append,az,apM,apV]at*;omega))) rfl
 |x::l,k,a,hl,hs=>by
  have ih:=λb hb=>Zp iU l (k+1) b (λy hy=>hl y (apS _ hy)) hb;rw[show(!(k+1==0))=true from rfl]at ih;rw[ap8,di]at hs ⊢;rw[xl,ku];unfold JM;have hf:=(Wr iU (hl x apP)).2;cases hz: !(k==0)with
  |true=>
   rw[hz]at hs;simp only[cond_true,ByteArray.size_append]at hs;refine bX rfl (aX (by(first|omega|(simp only[ByteArray.size_append,az,apM,apV]at*;omega))) (aE hf (aX (by(first|omega|(simp only[ByteArray.size_append,az,apM,apV]at*;omega))) ?_)));refine(ih _ (by(first|omega|(simp only[ByteArray.size_append,az,apM,apV]at*;omega)))).trans ?_;simp only[cond_true,ByteArray.append_assoc]
  |false=>
   rw[hz]at hs;simp only[cond_false,ByteArray.size_append]at hs;refine bg rfl (aE hf (aX (by(first|omega|(simp only[ByteArray.size_append,az,apM,apV]at*;omega))) ?_));refine(ih _ (by(first|omega|(simp only[ByteArray.size_append,az,apM,apV]at*;omega)))).trans ?_;simp only[cond_false,kF,ByteArray.append_assoc]
structure Rm(y:au):Prop where
 plain:iA y=true
 named:lN y=true
 ZS:kH y=true
 typed:kI y=true
 formed:mC y=true
 ln:Da 300 y
def wG(e:au):Prop:=∀y∈cM e,Rm y
theorem wG.arg{e x:au}(h:wG e)(hx:x∈e.bp):wG x:=λy hy=>h y (Gn hx hy)
theorem wG.of{e:au}(h:kL e=0)(k:iz 300 e):wG e:=λy hy=>
 let ⟨a,b,c,d,f⟩:=AW (Bc h y hy)
 ⟨a,b,c,d,f,k y hy⟩
theorem Rm.ix{y:au}(h:Rm y):∀i∈y.xIdx,AE i:=λi hi=>by
 obtain⟨f1,f2⟩:=Tb h.formed;have hn:=h.named;unfold lN at hn;rw[apL]at hn;have j6:=ap9.1 hn.2 i hi;rw[Bool.or_eq_true]at j6;have hr:=h.ZS;unfold kH at hr;simp only[apL,decide_eq_true_eq]at hr;have mG:=ap9.1 hr.2.2 i hi;exact⟨(f2 i hi).1,(f2 i hi).2,BM h.plain i hi,j6,(h.ln.each i hi).fi,of_decide_eq_true mG,(h.ln.each i hi).q7⟩
structure TT(N:Nat)(e:au)(t:ByteArray):Prop where
 size:t.size<=600000*(cM e).length
 pos:0<t.size
 ref:∀d,3*SizeOf.sizeOf e<=d->g_brocaderef15_textR N d e=some t
 real:∀d,3*SizeOf.sizeOf e<=d->∀a:ByteArray,a.size+t.size<=140737488355328->iJ N d e a=some (a++t)
structure TO(N:Nat)(e:au)(lv:Int)(t:ByteArray):Prop where
 size:t.size<=600000*(cM e).length+2
 pos:0<t.size
 ref:∀d,3*SizeOf.sizeOf e+1<=d->pQ N d e lv=some t
 real:∀d,3*SizeOf.sizeOf e+1<=d->∀a:ByteArray,a.size+t.size<=140737488355328->pG N d e lv a=some (a++t)
theorem abX(N:Nat)(op:Int):∃z,xf N op=some z/\JD N op=some z:=by
 suffices h:∃z,xf N op=some z by
  obtain⟨z,hz⟩:=h;exact⟨z,hz,hz⟩
 unfold xf GI Jw Jj;cases op==17 with
 |true=>exact⟨_,rfl⟩
 |false=>
 cases op==16 with
 |true=>exact⟨_,rfl⟩
 |false=>
 cases op==18 with
 |true=>exact⟨_,rfl⟩
 |false=>
 cases op==13 with
 |true=>exact⟨_,rfl⟩
 |false=>
 cases op==14 with
 |true=>exact⟨_,rfl⟩
 |false=>
 cases op==15 with
 |true=>exact⟨_,rfl⟩
 |false=>
 cases op==4 with
 |true=>exact⟨_,rfl⟩
 |false=>
 cases op==5 with
 |true=>exact⟨_,rfl⟩
 |false=>
 cases op==6 with
 |true=>exact⟨_,rfl⟩
 |false=>
 cases op==7 with
 |true=>exact⟨_,rfl⟩
 |false=>
 cases op==8 with
 |true=>exact⟨_,rfl⟩
 |false=>exact⟨_,rfl⟩
theorem TT.R7{N:Nat}{e:au}{t:aqy}(h:TT N e t)(hs:t.size<=140737488355320)(lv:Int):∃t',TO N e lv t':=by
 obtain⟨z,Dl,uD⟩:=abX N e.aJ;by_cases hl:lv<=z
 ·refine⟨t,ap1 h.size (aqo _ _),h.pos,λd hd=> ?_,λd hd a ha=> ?_⟩
  ·obtain⟨d,rfl⟩:∃k,d=k+1:=⟨d-1,by omega⟩;rw[pQ];exact aE Dl (bg (aqr (by omega)) (aE (h.ref d (by omega)) rfl))
  ·obtain⟨d,rfl⟩:∃k,d=k+1:=⟨d-1,by omega⟩;rw[pG];exact aE uD (bX (aqq (by omega)) (aE (h.real d (by omega) a ha) rfl))
 ·have eY:=h.size;refine⟨bs [40]++t++bs [41],by(first|omega|(simp only[ByteArray.size_append,az,apM,apV]at*;omega)),by(first|omega|(simp only[ByteArray.size_append,az,apM,apV]at*;omega)),λd hd=> ?_,λd hd a ha=> ?_⟩
  ·obtain⟨d,rfl⟩:∃k,d=k+1:=⟨d-1,by omega⟩;rw[pQ];exact aE Dl (bX (aqq (by omega)) (aE (h.ref d (by omega)) (aX (by(first|omega|(simp only[ByteArray.size_append,az,apM,apV]at*;omega))) (aX (by(first|omega|(simp only[ByteArray.size_append,az,apM,apV]at*;omega))) rfl))))
  ·obtain⟨d,rfl⟩:∃k,d=k+1:=⟨d-1,by omega⟩;rw[pG];simp only[ByteArray.size_append,az,apM,apV]at ha;refine aE uD (bg (aqr (by omega)) (aE (rK (by(first|omega|(simp only[ByteArray.size_append,az,apM,apV]at*;omega)))) (aE (h.real d (by omega) _ (by(first|omega|(simp only[ByteArray.size_append,az,apM,apV]at*;omega)))) (aE (rK (by(first|omega|(simp only[ByteArray.size_append,az,apM,apV]at*;omega)))) ?_))));simp only[ByteArray.append_assoc]
def TL(N:Nat):aqx au->aqx aqy->Prop
 |[],[]=>True
 |x::l,t::ts=>TT N x t/\TL N l ts
 |_,_=>False
theorem Uc{N:Nat}(d:Nat)(v2:aqy):∀(l:aqx au)(ts:aqx aqy)(k:Nat)(a:aqy),TL N l ts->(∀x∈l,3*SizeOf.sizeOf x<=d)->a.size+(di (!(k==0)|| !(v2.size==0)) ts).size+1<=140737488355328->
 qJ N v2 (iJ N d) l k a=some (a++di (!(k==0)|| !(v2.size==0)) ts++bs [41])
 |[],[],k,a,_,_,hs=>by
  rw[di]at hs ⊢;rw[qJ,pn];exact aE (rK (by(first|omega|(simp only[ByteArray.size_append,az,apM,apV]at*;omega)))) rfl
 |x::l,t::ts,k,a,⟨h,hl⟩,hd,hs=>by
  have ih:=λb hb=>Uc d v2 l ts (k+1) b hl (λy hy=>hd y (apS _ hy)) hb;rw[show(!(k+1==0)|| !(v2.size==0))=true from rfl]at ih;have hx:=hd x apP;rw[di]at hs ⊢;rw[qJ,ku,E3,jF];unfold F3;refine aE rfl ?_;cases hz: !(k==0)|| !(v2.size==0)with
  |true=>
   rw[hz]at hs;simp only[cond_true,ByteArray.size_append]at hs;refine bX rfl (aE (rK (by(first|omega|(simp only[ByteArray.size_append,az,apM,apV]at*;omega)))) (aE (h.real d hx _ (by(first|omega|(simp only[ByteArray.size_append,az,apM,apV]at*;omega)))) ?_));refine(ih _ (by(first|omega|(simp only[ByteArray.size_append,az,apM,apV]at*;omega)))).trans ?_;simp only[cond_true,ByteArray.append_assoc]
  |false=>
   rw[hz]at hs;simp only[cond_false,ByteArray.size_append]at hs;refine bg rfl (aE (h.real d hx _ (by(first|omega|(simp only[ByteArray.size_append,az,apM,apV]at*;omega)))) ?_);refine(ih _ (by(first|omega|(simp only[ByteArray.size_append,az,apM,apV]at*;omega)))).trans ?_;simp only[cond_false,kF,ByteArray.append_assoc]
 |[],_::_,_,_,h,_,_=>h.elim
 |_::_,[],_,_,h,_,_=>h.elim
theorem amN{N:Nat}{w v2:aqy}{l:aqx au}{ts:aqx aqy}(h:TL N l ts)(d:Nat)(hd:∀x∈l,3*SizeOf.sizeOf x<d)(a:aqy)(hs:a.size+(w++bs [40]++v2++di (!(v2.size==0)) ts++bs [41]).size<=140737488355328)(h0:0<d):
 ry N d w v2 l a=some (a++(w++bs [40]++v2++di (!(v2.size==0)) ts++bs [41])):=by
 obtain⟨d,rfl⟩:∃k,d=k+1:=⟨d-1,by omega⟩;rw[ry];simp only[ByteArray.size_append]at hs;refine aX (by(first|omega|(simp only[ByteArray.size_append,az,apM,apV]at*;omega))) (aX (by(first|omega|(simp only[ByteArray.size_append,az,apM,apV]at*;omega))) (aE (rK (by(first|omega|(simp only[ByteArray.size_append,az,apM,apV]at*;omega)))) ?_));have:=Uc (N:=N) d v2 l ts 0 (a++(w++bs [40]++v2)) h (λx hx=>by have:=hd x hx;omega) (by
  rw[show(!(0==0)|| !(v2.size==0))= !(v2.size==0)from rfl];(first|omega|(simp only[ByteArray.size_append,az,apM,apV]at*;omega)))
 rw[show(!(0==0)|| !(v2.size==0))= !(v2.size==0)from rfl]at this;rw[this];simp only[ByteArray.append_assoc]
theorem Rv(op:Int)(nm:aqy)(v:dx)(ty:bA)(ln:aR)(ix:aqx bH)(x:au):(cM (⟨op,nm,v,ty,ln,ix,[x]⟩:au)).length=1+(cM x).length:=by
 show(_::gW [x]).length=_;rw[apM,nC,apK,gW,apV];omega
theorem CN(op:Int)(nm:aqy)(v:dx)(ty:bA)(ln:aR)(ix:aqx bH)(x y:au):(cM (⟨op,nm,v,ty,ln,ix,[x,y]⟩:au)).length=1+((cM x).length+(cM y).length):=by
 show(_::gW [x,y]).length=_;rw[apM,nC,nC,apK,apK,gW,apV];omega
theorem XL(op:Int)(nm:aqy)(v:dx)(ty:bA)(ln:aR)(ix:aqx bH)(x y w:au):(cM (⟨op,nm,v,ty,ln,ix,[x,y,w]⟩:au)).length=1+((cM x).length+((cM y).length+(cM w).length)):=by
 show(_::gW [x,y,w]).length=_;rw[apM,nC,nC,nC,apK,apK,apK,gW,apV];omega
theorem oU{op:Int}{nm:aqy}{v:dx}{ty:bA}{ln:aR}{ix:aqx bH}{gs:aqx au}(x:au)(h:x∈gs):SizeOf.sizeOf x<SizeOf.sizeOf (⟨op,nm,v,ty,ln,ix,gs⟩:au):=tK (e:=⟨op,nm,v,ty,ln,ix,gs⟩) h
theorem ug{N:Nat}{op:Int}{nm:aqy}{v:dx}{ty:bA}{ln:aR}{ix:aqx bH}{x y:au}{t1 t2:aqy}(sg sy:aqy)
 (h1:(op==1)=false) (h2:(op==2)=false) (h3:(op==3)=false) (h8:(op==8)=false) (dv:(op==18)=false) (h9:(op==9)=false) (aU:(op==10)=false) (bh:(op==11)=false) (bn:(op==12)=false)
 (hg:PS N op=some sg) (hgs:(bL sg==bL (bs []))=false) (hgl:sg.size<=4) (hy:Q7 N op=some sy) (hsy:bs [32]++sy++bs [32]=sg)
 (k1:TT N x t1) (k2:TT N y t2) (hb:(cM (⟨op,nm,v,ty,ln,ix,[x,y]⟩:au)).length<=2000):∃t,TT N ⟨op,nm,v,ty,ln,ix,[x,y]⟩ t:=by
 obtain⟨z,Dl,uD⟩:=abX N op;have hn:=CN op nm v ty ln ix x y;rw[hn]at hb;have b1:=k1.size;have b2:=k2.size;obtain⟨u1,o1⟩:=k1.R7 (by omega) z;obtain⟨u2,o2⟩:=k2.R7 (by omega) (bl (z+1));have s1:=o1.size;have s2:=o2.size;have p1:=o1.pos;have eY:sy.size+2=sg.size:=by rw[<-hsy];(first|omega|(simp only[ByteArray.size_append,az,apM,apV]at*;omega))
 have z1:=oU (op:=op) (nm:=nm) (v:=v) (ty:=ty) (ln:=ln) (ix:=ix) (gs:=[x,y]) x apP;have z2:=oU (op:=op) (nm:=nm) (v:=v) (ty:=ty) (ln:=ln) (ix:=ix) (gs:=[x,y]) y (apS _ apP);refine⟨u1++sg++u2,by rw[hn];(first|omega|(simp only[ByteArray.size_append,az,apM,apV]at*;omega)),by(first|omega|(simp only[ByteArray.size_append,az,apM,apV]at*;omega)),λd hd=> ?_,λd hd a ha=> ?_⟩
 ·obtain⟨d,rfl⟩:∃k,d=k+1:=⟨d-1,by omega⟩;rw[g_brocaderef15_textR];refine aE hg (bg hgs (aE rfl (aE Dl (aE (o1.ref d (by omega)) (aX (by omega) (aE rfl (aE Dl (aE (o2.ref d (by omega)) (aX (by(first|omega|(simp only[ByteArray.size_append,az,apM,apV]at*;omega))) rfl)))))))))
 ·obtain⟨d,rfl⟩:∃k,d=k+1:=⟨d-1,by omega⟩;rw[iJ];simp only[ByteArray.size_append]at ha;refine aE uD (bg h1 (bg h2 (bg h3 (bg h8 (bg dv (bg h9 (bg aU (bg bh (bg bn ?_)))))))));refine aE rfl (aE (o1.real d (by omega) a (by omega)) (aE hy (aX (by(first|omega|(simp only[ByteArray.size_append,az,apM,apV]at*;omega))) (aX (by(first|omega|(simp only[ByteArray.size_append,az,apM,apV]at*;omega))) (aE (rK (by(first|omega|(simp only[ByteArray.size_append,az,apM,apV]at*;omega)))) (aE rfl (aE (o2.real d (by omega) _ (by(first|omega|(simp only[ByteArray.size_append,az,apM,apV]at*;omega)))) ?_)))))));rw[hsy];simp only[ByteArray.append_assoc]
theorem X2{N:Nat}{op:Int}{nm:aqy}{v:dx}{ty:bA}{ln:aR}{ix:aqx bH}{x:au}{t1:aqy}(z:Int)(sg:aqy)
 (hg:sg.size=1) (k1:TT N x t1) (hb:(cM (⟨op,nm,v,ty,ln,ix,[x]⟩:au)).length<=2000)
 (hr:∀d,g_brocaderef15_textR N (d+1) ⟨op,nm,v,ty,ln,ix,[x]⟩=(pQ N d x z).bind λb8=>bif (Nat.ble (sg.size+b8.size) 9223372036854775807)then some (sg++b8)else none)
 (hq:∀d a,iJ N (d+1) ⟨op,nm,v,ty,ln,ix,[x]⟩ a=(mn N sg a).bind λv11=>(pG N d x z v11).bind λba=>some ba):∃t,TT N ⟨op,nm,v,ty,ln,ix,[x]⟩ t:=by
 have hn:=Rv op nm v ty ln ix x;rw[hn]at hb;have b1:=k1.size;obtain⟨u1,o1⟩:=k1.R7 (by omega) z;have s1:=o1.size;have p1:=o1.pos;have z1:=oU (op:=op) (nm:=nm) (v:=v) (ty:=ty) (ln:=ln) (ix:=ix) (gs:=[x]) x apP;refine⟨sg++u1,by rw[hn];(first|omega|(simp only[ByteArray.size_append,az,apM,apV]at*;omega)),by(first|omega|(simp only[ByteArray.size_append,az,apM,apV]at*;omega)),λd hd=> ?_,λd hd a ha=> ?_⟩
 ·obtain⟨d,rfl⟩:∃k,d=k+1:=⟨d-1,by omega⟩;rw[hr];exact aE (o1.ref d (by omega)) (aX (by omega) rfl)
 ·obtain⟨d,rfl⟩:∃k,d=k+1:=⟨d-1,by omega⟩;rw[hq];simp only[ByteArray.size_append]at ha;refine aE (rK (by(first|omega|(simp only[ByteArray.size_append,az,apM,apV]at*;omega)))) (aE (o1.real d (by omega) _ (by(first|omega|(simp only[ByteArray.size_append,az,apM,apV]at*;omega)))) ?_);rw[ByteArray.append_assoc]
theorem YW(e:au):0<SizeOf.sizeOf e:=by cases e;rw[au.mk.sizeOf_spec];omega
theorem Lb{N:Nat}{op:Int}{nm:aqy}{v:dx}{ty:bA}{ln:aR}{ix:aqx bH}{gs:aqx au}{ts:aqx aqy}(w x t:aqy)
 (hw:w.size<=4) (hx:x.size<=62) (k:TL N gs ts) (ht:t=w++bs [40]++x++di (!(x.size==0)) ts++bs [41]) (hb:t.size<=600000*(cM (⟨op,nm,v,ty,ln,ix,gs⟩:au)).length)
 (hr:∀d,3*SizeOf.sizeOf (⟨op,nm,v,ty,ln,ix,gs⟩:au)<=d+1->g_brocaderef15_textR N (d+1) ⟨op,nm,v,ty,ln,ix,gs⟩=some t)
 (hq:∀d a r,ry N d w x gs a=some r->iJ N (d+1) ⟨op,nm,v,ty,ln,ix,gs⟩ a=some r):∃t,TT N ⟨op,nm,v,ty,ln,ix,gs⟩ t:=by
 refine⟨t,hb,by rw[ht];(first|omega|(simp only[ByteArray.size_append,az,apM,apV]at*;omega)),λd hd=> ?_,λd hd a ha=> ?_⟩
 ·obtain⟨d,rfl⟩:∃k,d=k+1:=⟨d-1,by have:=YW (⟨op,nm,v,ty,ln,ix,gs⟩:au);omega⟩;exact hr d hd
 ·obtain⟨d,rfl⟩:∃k,d=k+1:=⟨d-1,by have:=YW (⟨op,nm,v,ty,ln,ix,gs⟩:au);omega⟩;refine hq d a _ ?_;rw[ht]at ha ⊢;exact amN k d (λy hy=>by have:=oU (op:=op) (nm:=nm) (v:=v) (ty:=ty) (ln:=ln) (ix:=ix) (gs:=gs) y hy;omega) a ha (by
   have:0<SizeOf.sizeOf (⟨op,nm,v,ty,ln,ix,gs⟩:au):=by rw[au.mk.sizeOf_spec];omega
   omega)
theorem acO(w u1 u2:aqy)(wp:aqx UInt8)(hw:bL w=wp):(bs (wp++[40]))++u1++bs [44,32]++u2++bs [41]=w++bs [40]++bs []++di (!((bs []).size==0)) [u1,u2]++bs [41]:=by
 apply iL;simp [qO,PU,di,az,hw]
theorem ahU(w u1 u2 u3:aqy)(wp:aqx UInt8)(hw:bL w=wp):(bs (wp++[40]))++u1++bs [44,32]++u2++bs [44,32]++u3++bs [41]=w++bs [40]++bs []++di (!((bs []).size==0)) [u1,u2,u3]++bs [41]:=by
 apply iL;simp [qO,PU,di,az,hw]
theorem aps(w x u1:aqy)(wp:aqx UInt8)(hw:bL w=wp)(hx:(x.size==0)=false):(bs (wp++[40]))++x++bs [44,32]++u1++bs [41]=w++bs [40]++x++di (!(x.size==0)) [u1]++bs [41]:=by
 apply iL;rw[hx];simp [qO,PU,di,az,hw]
theorem Y9{x:au}:∀{l:aqx au},x∈l->(cM x).length<=(gW l).length
 |y::l,h=>by
  rw[nC,apK];rcases aqd.1 h with rfl|h
  ·omega
  ·have:=Y9 h;omega
theorem alh{t:bA}(h:eX t=true):((mY t).size==0)=false:=by
 unfold mY;rw[h,cond_true];cases t.b7==1 with
 |true=>rfl
 |false=>
  cases t.b7==3 with
  |true=>rfl
  |false=>
   rw[cond_false,cond_false,beq_eq_false_iff_ne];unfold zp;simp only[ByteArray.size_append,az,apM,apV];omega
theorem ad5{op:Int}(h1:1<=op)(h2:op<=18):op=1\/op=2\/op=3\/op=4\/op=5\/op=6\/op=7\/op=8\/op=9\/op=10\/op=11\/op=12\/op=13\/op=14\/op=15\/op=16\/op=17\/op=18:=by omega
theorem YE{N:Nat}(hN:2147483648<N):∀(n:Nat)(e:au),SizeOf.sizeOf e<=n->wG e->(cM e).length<=2000->∃t,TT N e t
 |0,e,hs,_,_=>by cases e;rw[au.mk.sizeOf_spec]at hs;omega
 |n+1,e,hs,hE,hb=>by
  have K:=hE e apP;have ch:∀x∈e.bp,∃t,TT N x t:=λx hx=>YE hN n x (by have:=tK hx;omega) (hE.arg hx) (by
   have:(cM x).length<=(gW e.bp).length:=Y9 hx;have e2:(cM e).length=(gW e.bp).length+1:=rfl;omega)
  obtain⟨op,nm,v,ty,ln,ix,gs⟩:=e;have hp:=K.plain;unfold iA at hp;simp only[apL,decide_eq_true_eq]at hp;have hr:=K.ZS;unfold kH at hr;rw[apL]at hr;have jk:=hr.1;have mG:=hr.2;rw[apL]at mG;have hix:ix.length<=6:=of_decide_eq_true mG.1;have rm:=K.typed;unfold kI at rm;rw[apL]at rm;have Qx:=K.formed;unfold mC at Qx;rw[apL]at Qx;have O8:=K.named;unfold lN at O8;rw[apL]at O8;have vM:1<=(cM (⟨op,nm,v,ty,ln,ix,gs⟩:au)).length:=by show 1<=(gW gs).length+1;omega
  rcases ad5 hp.1 hp.2.1 with rfl|rfl|rfl|rfl|rfl|rfl|rfl|rfl|rfl|rfl|rfl|rfl|rfl|rfl|rfl|rfl|rfl|rfl
  ·have ht:eX ty=true:=rm.1;have hv:mw ty v=true:=Qx.1;obtain⟨x,r1,r2,r3⟩:=akG hN ht hv;have s:=IB ty;refine⟨mY ty++bs [40]++x++bs [41],by(first|omega|(simp only[ByteArray.size_append,az,apM,apV]at*;omega)),by(first|omega|(simp only[ByteArray.size_append,az,apM,apV]at*;omega)),λd hd=> ?_,λd hd a ha=> ?_⟩
   ·obtain⟨d,rfl⟩:∃k,d=k+1:=⟨d-1,by rw[au.mk.sizeOf_spec]at hd;omega⟩;rw[g_brocaderef15_textR];exact aE (v:=bs []) rfl (bX rfl (bX rfl (aE (KA (by omega) ty) (aX (by(first|omega|(simp only[ByteArray.size_append,az,apM,apV]at*;omega))) (aE r2 (aX (by(first|omega|(simp only[ByteArray.size_append,az,apM,apV]at*;omega))) (aX (by(first|omega|(simp only[ByteArray.size_append,az,apM,apV]at*;omega))) rfl)))))))
   ·obtain⟨d,rfl⟩:∃k,d=k+1:=⟨d-1,by rw[au.mk.sizeOf_spec]at hd;omega⟩;rw[iJ];exact aE (v:=8) rfl (bX rfl (aE (Kv N ty) (aX (by(first|omega|(simp only[ByteArray.size_append,az,apM,apV]at*;omega))) (aE r1 (aX (by(first|omega|(simp only[ByteArray.size_append,az,apM,apV]at*;omega))) (aX (by(first|omega|(simp only[ByteArray.size_append,az,apM,apV]at*;omega))) (aE (rK ha) rfl)))))))
  ·have hl:ln.xL.length<=300:=K.ln.fi;have s:=rN hl;refine⟨bs [91]++jh ln++bs [93],by(first|omega|(simp only[ByteArray.size_append,az,apM,apV]at*;omega)),by(first|omega|(simp only[ByteArray.size_append,az,apM,apV]at*;omega)),λd hd=> ?_,λd hd a ha=> ?_⟩
   ·obtain⟨d,rfl⟩:∃k,d=k+1:=⟨d-1,by rw[au.mk.sizeOf_spec]at hd;omega⟩;rw[g_brocaderef15_textR];exact aE (v:=bs []) rfl (bX rfl (bg rfl (bX rfl (aE (Cd (by omega) hl) (aX (by(first|omega|(simp only[ByteArray.size_append,az,apM,apV]at*;omega))) (aX (by(first|omega|(simp only[ByteArray.size_append,az,apM,apV]at*;omega))) rfl))))))
   ·obtain⟨d,rfl⟩:∃k,d=k+1:=⟨d-1,by rw[au.mk.sizeOf_spec]at hd;omega⟩;rw[iJ];exact aE (v:=8) rfl (bg rfl (bX rfl (aE (Fo (by omega) hl) (aX (by(first|omega|(simp only[ByteArray.size_append,az,apM,apV]at*;omega))) (aX (by(first|omega|(simp only[ByteArray.size_append,az,apM,apV]at*;omega))) (aE (rK ha) rfl))))))
  ·have alM:cO nm=true:=O8.1;have s1:=(pV alM).1;have s2:(di false (ix.map oh)).size<=433056:=by
    have h1:=AA (B:=72174) (ix.map oh) false λt ht=>by
     obtain⟨l,hl,rfl⟩:=List.mem_map.1 ht;exact adV (K.ix l hl)
    rw[apO]at h1;have:ix.length*(72174+2)<=6*(72174+2):=Nat.mul_le_mul_right _ hix;omega
   refine⟨nm++bs [91]++di false (ix.map oh)++bs [93],by(first|omega|(simp only[ByteArray.size_append,az,apM,apV]at*;omega)),by(first|omega|(simp only[ByteArray.size_append,az,apM,apV]at*;omega)),λd hd=> ?_,λd hd a ha=> ?_⟩
   ·obtain⟨d,rfl⟩:∃k,d=k+1:=⟨d-1,by rw[au.mk.sizeOf_spec]at hd;omega⟩;rw[g_brocaderef15_textR];have rf:=Zp (N:=N) (by omega) ix 0 (nm++bs [91]) K.ix (by rw[show(!(0==0))=false from rfl];(first|omega|(simp only[ByteArray.size_append,az,apM,apV]at*;omega)));exact aE (v:=bs []) rfl (bX rfl (bg rfl (bg rfl (bX rfl (aX (by(first|omega|(simp only[ByteArray.size_append,az,apM,apV]at*;omega))) rf)))))
   ·obtain⟨d,rfl⟩:∃k,d=k+1:=⟨d-1,by rw[au.mk.sizeOf_spec]at hd;omega⟩;rw[iJ];exact aE (v:=8) rfl (bg rfl (bg rfl (bX rfl (aX (by(first|omega|(simp only[ByteArray.size_append,az,apM,apV]at*;omega))) (aE (akk (by omega) ix (by omega) (by omega) K.ix (by omega)) (aX (by(first|omega|(simp only[ByteArray.size_append,az,apM,apV]at*;omega))) (aX (by(first|omega|(simp only[ByteArray.size_append,az,apM,apV]at*;omega))) (aE (rK ha) rfl))))))))
  ·obtain⟨x,y,rfl⟩:=pg (l:=gs) (beq_iff_eq.1 jk);obtain⟨t1,k1⟩:=ch x apP;obtain⟨t2,k2⟩:=ch y (apS _ apP);exact ug (bs [32,43,32]) (bs [43]) rfl rfl rfl rfl rfl rfl rfl rfl rfl rfl rfl (by decide) rfl rfl k1 k2 hb
  ·obtain⟨x,y,rfl⟩:=pg (l:=gs) (beq_iff_eq.1 jk);obtain⟨t1,k1⟩:=ch x apP;obtain⟨t2,k2⟩:=ch y (apS _ apP);exact ug (bs [32,45,32]) (bs [45]) rfl rfl rfl rfl rfl rfl rfl rfl rfl rfl rfl (by decide) rfl rfl k1 k2 hb
  ·obtain⟨x,y,rfl⟩:=pg (l:=gs) (beq_iff_eq.1 jk);obtain⟨t1,k1⟩:=ch x apP;obtain⟨t2,k2⟩:=ch y (apS _ apP);exact ug (bs [32,42,32]) (bs [42]) rfl rfl rfl rfl rfl rfl rfl rfl rfl rfl rfl (by decide) rfl rfl k1 k2 hb
  ·obtain⟨x,y,rfl⟩:=pg (l:=gs) (beq_iff_eq.1 jk);obtain⟨t1,k1⟩:=ch x apP;obtain⟨t2,k2⟩:=ch y (apS _ apP);exact ug (bs [32,47,32]) (bs [47]) rfl rfl rfl rfl rfl rfl rfl rfl rfl rfl rfl (by decide) rfl rfl k1 k2 hb
  ·obtain⟨x,rfl⟩:=Jz (l:=gs) (beq_iff_eq.1 jk);obtain⟨t1,k1⟩:=ch x apP;refine X2 7 (bs [45]) rfl k1 hb (λd=> ?_) (λd a=> ?_)
   ·rw[g_brocaderef15_textR];exact aE (v:=bs []) rfl rfl
   ·rw[iJ];exact aE (v:=7) rfl rfl
  ·obtain⟨x,y,rfl⟩:=pg (l:=gs) (beq_iff_eq.1 jk);obtain⟨t1,k1⟩:=ch x apP;obtain⟨t2,k2⟩:=ch y (apS _ apP);have s1:=k1.size;have s2:=k2.size;rw[CN]at hb;refine Lb (ts:=[t1,t2]) (bs [109,105,110]) (bs []) (bs [109,105,110,40]++t1++bs [44,32]++t2++bs [41]) (by decide) (by decide) ⟨k1,k2,trivial⟩ (acO (bs [109,105,110]) t1 t2 [109,105,110] rfl) (by rw[CN];(first|omega|(simp only[ByteArray.size_append,az,apM,apV]at*;omega))) (λd hd=> ?_) (λd a r h=> ?_)
   ·have z1:=oU (op:=9) (nm:=nm) (v:=v) (ty:=ty) (ln:=ln) (ix:=ix) (gs:=[x,y]) x apP;have z2:=oU (op:=9) (nm:=nm) (v:=v) (ty:=ty) (ln:=ln) (ix:=ix) (gs:=[x,y]) y (apS _ apP);rw[g_brocaderef15_textR];exact aE (v:=bs []) rfl (bX rfl (bg rfl (bg rfl (bg rfl (bg rfl (bg rfl (bX rfl (aE rfl (aE (k1.ref d (by omega)) (aX (by(first|omega|(simp only[ByteArray.size_append,az,apM,apV]at*;omega))) (aX (by(first|omega|(simp only[ByteArray.size_append,az,apM,apV]at*;omega))) (aE rfl (aE (k2.ref d (by omega)) (aX (by(first|omega|(simp only[ByteArray.size_append,az,apM,apV]at*;omega))) (aX (by(first|omega|(simp only[ByteArray.size_append,az,apM,apV]at*;omega))) rfl)))))))))))))))
   ·rw[iJ];exact aE (v:=8) rfl (bg rfl (bg rfl (bg rfl (bg rfl (bg rfl (bX rfl (aE h rfl)))))))
  ·obtain⟨x,y,rfl⟩:=pg (l:=gs) (beq_iff_eq.1 jk);obtain⟨t1,k1⟩:=ch x apP;obtain⟨t2,k2⟩:=ch y (apS _ apP);have s1:=k1.size;have s2:=k2.size;rw[CN]at hb;refine Lb (ts:=[t1,t2]) (bs [109,97,120]) (bs []) (bs [109,97,120,40]++t1++bs [44,32]++t2++bs [41]) (by decide) (by decide) ⟨k1,k2,trivial⟩ (acO (bs [109,97,120]) t1 t2 [109,97,120] rfl) (by rw[CN];(first|omega|(simp only[ByteArray.size_append,az,apM,apV]at*;omega))) (λd hd=> ?_) (λd a r h=> ?_)
   ·have z1:=oU (op:=10) (nm:=nm) (v:=v) (ty:=ty) (ln:=ln) (ix:=ix) (gs:=[x,y]) x apP;have z2:=oU (op:=10) (nm:=nm) (v:=v) (ty:=ty) (ln:=ln) (ix:=ix) (gs:=[x,y]) y (apS _ apP);rw[g_brocaderef15_textR];exact aE (v:=bs []) rfl (bX rfl (bg rfl (bg rfl (bg rfl (bg rfl (bg rfl (bg rfl (bX rfl (aE rfl (aE (k1.ref d (by omega)) (aX (by(first|omega|(simp only[ByteArray.size_append,az,apM,apV]at*;omega))) (aX (by(first|omega|(simp only[ByteArray.size_append,az,apM,apV]at*;omega))) (aE rfl (aE (k2.ref d (by omega)) (aX (by(first|omega|(simp only[ByteArray.size_append,az,apM,apV]at*;omega))) (aX (by(first|omega|(simp only[ByteArray.size_append,az,apM,apV]at*;omega))) rfl))))))))))))))))
   ·rw[iJ];exact aE (v:=8) rfl (bg rfl (bg rfl (bg rfl (bg rfl (bg rfl (bg rfl (bX rfl (aE h rfl))))))))
  ·obtain⟨x,y,w,rfl⟩:=VC (l:=gs) (beq_iff_eq.1 jk);obtain⟨t1,k1⟩:=ch x apP;obtain⟨t2,k2⟩:=ch y (apS _ apP);obtain⟨t3,k3⟩:=ch w (apS _ (apS _ apP));have s1:=k1.size;have s2:=k2.size;have s3:=k3.size;rw[XL]at hb;refine Lb (ts:=[t1,t2,t3]) (bs [105,102]) (bs []) (bs [105,102,40]++t1++bs [44,32]++t2++bs [44,32]++t3++bs [41]) (by decide) (by decide) ⟨k1,k2,k3,trivial⟩ (ahU (bs [105,102]) t1 t2 t3 [105,102] rfl) (by rw[XL];(first|omega|(simp only[ByteArray.size_append,az,apM,apV]at*;omega))) (λd hd=> ?_) (λd a r h=> ?_)
   ·have z1:=oU (op:=11) (nm:=nm) (v:=v) (ty:=ty) (ln:=ln) (ix:=ix) (gs:=[x,y,w]) x apP;have z2:=oU (op:=11) (nm:=nm) (v:=v) (ty:=ty) (ln:=ln) (ix:=ix) (gs:=[x,y,w]) y (apS _ apP);have z3:=oU (op:=11) (nm:=nm) (v:=v) (ty:=ty) (ln:=ln) (ix:=ix) (gs:=[x,y,w]) w (apS _ (apS _ apP));rw[g_brocaderef15_textR];exact aE (v:=bs []) rfl (bX rfl (bg rfl (bg rfl (bg rfl (bg rfl (bg rfl (bg rfl (bg rfl (bX rfl (aE rfl (aE (k1.ref d (by omega)) (aX (by(first|omega|(simp only[ByteArray.size_append,az,apM,apV]at*;omega))) (aX (by(first|omega|(simp only[ByteArray.size_append,az,apM,apV]at*;omega))) (aE rfl (aE (k2.ref d (by omega)) (aX (by(first|omega|(simp only[ByteArray.size_append,az,apM,apV]at*;omega))) (aX (by(first|omega|(simp only[ByteArray.size_append,az,apM,apV]at*;omega))) (aE rfl (aE (k3.ref d (by omega)) (aX (by(first|omega|(simp only[ByteArray.size_append,az,apM,apV]at*;omega))) (aX (by(first|omega|(simp only[ByteArray.size_append,az,apM,apV]at*;omega))) rfl)))))))))))))))))))))
   ·rw[iJ];exact aE (v:=8) rfl (bg rfl (bg rfl (bg rfl (bg rfl (bg rfl (bg rfl (bg rfl (bX rfl (aE h rfl)))))))))
  ·obtain⟨x,rfl⟩:=Jz (l:=gs) (beq_iff_eq.1 jk);obtain⟨t1,k1⟩:=ch x apP;have s1:=k1.size;have st:=IB ty;have ht:eX ty=true:=rm.1;rw[Rv]at hb;refine Lb (ts:=[t1]) (bs [99,97,115,116]) (mY ty) (bs [99,97,115,116,40]++mY ty++bs [44,32]++t1++bs [41]) (by decide) st ⟨k1,trivial⟩ (aps (bs [99,97,115,116]) (mY ty) t1 [99,97,115,116] rfl (alh ht)) (by rw[Rv];(first|omega|(simp only[ByteArray.size_append,az,apM,apV]at*;omega))) (λd hd=> ?_) (λd a r h=> ?_)
   ·have z1:=oU (op:=12) (nm:=nm) (v:=v) (ty:=ty) (ln:=ln) (ix:=ix) (gs:=[x]) x apP;rw[g_brocaderef15_textR];exact aE (v:=bs []) rfl (bX rfl (bg rfl (bg rfl (bg rfl (bg rfl (bg rfl (bg rfl (bg rfl (bg rfl (aE (KA (by omega) ty) (aX (by(first|omega|(simp only[ByteArray.size_append,az,apM,apV]at*;omega))) (aX (by(first|omega|(simp only[ByteArray.size_append,az,apM,apV]at*;omega))) (aE rfl (aE (k1.ref d (by omega)) (aX (by(first|omega|(simp only[ByteArray.size_append,az,apM,apV]at*;omega))) (aX (by(first|omega|(simp only[ByteArray.size_append,az,apM,apV]at*;omega))) rfl))))))))))))))))
   ·rw[iJ];exact aE (v:=8) rfl (bg rfl (bg rfl (bg rfl (bg rfl (bg rfl (bg rfl (bg rfl (bg rfl (bX rfl (aE (Kv N ty) (aE h rfl)))))))))))
  ·obtain⟨x,y,rfl⟩:=pg (l:=gs) (beq_iff_eq.1 jk);obtain⟨t1,k1⟩:=ch x apP;obtain⟨t2,k2⟩:=ch y (apS _ apP);exact ug (bs [32,60,32]) (bs [60]) rfl rfl rfl rfl rfl rfl rfl rfl rfl rfl rfl (by decide) rfl rfl k1 k2 hb
  ·obtain⟨x,y,rfl⟩:=pg (l:=gs) (beq_iff_eq.1 jk);obtain⟨t1,k1⟩:=ch x apP;obtain⟨t2,k2⟩:=ch y (apS _ apP);exact ug (bs [32,60,61,32]) (bs [60,61]) rfl rfl rfl rfl rfl rfl rfl rfl rfl rfl rfl (by decide) rfl rfl k1 k2 hb
  ·obtain⟨x,y,rfl⟩:=pg (l:=gs) (beq_iff_eq.1 jk);obtain⟨t1,k1⟩:=ch x apP;obtain⟨t2,k2⟩:=ch y (apS _ apP);exact ug (bs [32,61,61,32]) (bs [61,61]) rfl rfl rfl rfl rfl rfl rfl rfl rfl rfl rfl (by decide) rfl rfl k1 k2 hb
  ·obtain⟨x,y,rfl⟩:=pg (l:=gs) (beq_iff_eq.1 jk);obtain⟨t1,k1⟩:=ch x apP;obtain⟨t2,k2⟩:=ch y (apS _ apP);exact ug (bs [32,38,32]) (bs [38]) rfl rfl rfl rfl rfl rfl rfl rfl rfl rfl rfl (by decide) rfl rfl k1 k2 hb
  ·obtain⟨x,y,rfl⟩:=pg (l:=gs) (beq_iff_eq.1 jk);obtain⟨t1,k1⟩:=ch x apP;obtain⟨t2,k2⟩:=ch y (apS _ apP);exact ug (bs [32,124,32]) (bs [124]) rfl rfl rfl rfl rfl rfl rfl rfl rfl rfl rfl (by decide) rfl rfl k1 k2 hb
  ·obtain⟨x,rfl⟩:=Jz (l:=gs) (beq_iff_eq.1 jk);obtain⟨t1,k1⟩:=ch x apP;refine X2 3 (bs [33]) rfl k1 hb (λd=> ?_) (λd a=> ?_)
   ·rw[g_brocaderef15_textR];exact aE (v:=bs []) rfl rfl
   ·rw[iJ];exact aE (v:=3) rfl rfl
structure tv(N:Nat)(d:bf):Prop where
 name:cO d.ao=true
 type:eX d.aO=true
 nV:d.aP.length<=12
 red:d.aY.length<=12
 pE:∀x∈d.aP++d.aY,x.cw.xL.length<=20/\cO x.ao=true/\dF x.cw=true
 f0:0<=d.cC
 f5:d.cC<=5
 fr:d.cC=0\/d.cC=5->d.aY.length=0
 E:wG d.cg
 nd:(cM d.cg).length<=2000
 v1:uW N d.cg=some 0
 v2:qv N d.cg=some 0
 sz:3*SizeOf.sizeOf d.cg<=N
def CQ(f:Int):aqy:=bif f==1 then bs [115,117,109]else bif f==2 then bs [112,114,111,100]else bif f==3 then bs [109,105,110]else bif f==4 then bs [109,97,120]else bs [115,99,97,110]
def Aq(d:bf):aqy:=bif d.cC==0 then bs []else CQ d.cC++(bif d.aY.length==0 then bs []else bs [32]++di false (d.aY.map mH))++bs [58,32]
theorem anl{x:cd}(h1:x.cw.xL.length<=20)(h2:cO x.ao=true):(mH x).size<=843:=by
 have a:=rN h1;have b:=(pV h2).1;unfold mH;(first|omega|(simp only[ByteArray.size_append,az,apM,apV]at*;omega))
theorem RU{l:aqx cd}(h:l.length<=12)(hx:∀x∈l,x.cw.xL.length<=20/\cO x.ao=true/\dF x.cw=true):(di false (l.map mH)).size<=10140:=by
 have h1:=AA (B:=843) (l.map mH) false λt ht=>by
  obtain⟨y,hy,rfl⟩:=List.mem_map.1 ht;exact anl (hx y hy).1 (hx y hy).2.1
 rw[apO]at h1;have:l.length*(843+2)<=12*(843+2):=Nat.mul_le_mul_right _ h;omega
theorem Wf(f:Int):(CQ f).size<=4:=by unfold CQ;cases f==1<;>cases f==2<;>cases f==3<;>cases f==4<;>decide
theorem ao3(N:Nat)(f:Int):Kd N f=some (CQ f):=by unfold Kd CQ;cases f==1<;>cases f==2<;>cases f==3<;>cases f==4<;>rfl
theorem tv.agQ{N:Nat}{d:bf}(h:tv N d):(di false (d.aP.map mH)).size<=10140:=RU h.nV λx hx=>h.pE x (List.mem_append_left _ hx)
theorem tv.Qa{N:Nat}{d:bf}(h:tv N d):(di false (d.aY.map mH)).size<=10140:=RU h.red λx hx=>h.pE x (List.mem_append_right _ hx)
theorem ajo{N:Nat}{d:bf}(h:tv N d):(Aq d).size<=10147:=by
 have a:=h.Qa;have b:=Wf d.cC;unfold Aq;cases d.cC==0<;>cases d.aY.length==0<;>simp only[cond_true,cond_false]<;>(first|omega|(simp only[ByteArray.size_append,az,apM,apV]at*;omega))
theorem Ay{l:aqx cd}(hx:∀x∈l,x.cw.xL.length<=20/\cO x.ao=true/\dF x.cw=true):∀x∈l,x.cw.xL.length<=300/\cO x.ao=true/\dF x.cw=true:=λx h=>⟨ap1 (hx x h).1 (by decide),(hx x h).2⟩
theorem aaD{N:Nat}(hN:2147483648<N){l:aqx cd}(h:l.length<=12)(hx:∀x∈l,x.cw.xL.length<=20/\cO x.ao=true/\dF x.cw=true):q8 N (l.length:Int) l=some (di false (l.map mH)):=
 anG (by omega) l (by omega) (by omega) (λx hh=>⟨(Ay hx x hh).1,(pV (hx x hh).2.1).1⟩) (by have:=RU h hx;omega)
theorem aiP{N:Nat}(hN:2147483648<N){d:bf}(h:tv N d):HS N d=some (Aq d):=by
 have hl:=aaD hN h.red λx hx=>h.pE x (List.mem_append_right _ hx);have hs:=h.Qa;have h0:=h.f0;have h5:=h.f5;unfold HS Aq Lh HZ Kx Hx G8;obtain⟨nm,ty,dm,rd,fo,bo⟩:=d;simp only at hl hs h0 h5 ⊢;rw[ku];have h6:fo=0\/fo=1\/fo=2\/fo=3\/fo=4\/fo=5:=by omega
 rcases h6 with rfl|rfl|rfl|rfl|rfl|rfl
 ·rfl
 ·refine bg rfl (bX rfl ?_);cases rd.length==0 with
  |true=>exact bg rfl (aX (by(first|omega|(simp only[ByteArray.size_append,az,apM,apV]at*;omega))) rfl)
  |false=>exact bX rfl (aE hl (aX (by(first|omega|(simp only[ByteArray.size_append,az,apM,apV]at*;omega))) (aX (by(first|omega|(simp only[ByteArray.size_append,az,apM,apV]at*;omega))) (aX (by(first|omega|(simp only[ByteArray.size_append,az,apM,apV]at*;omega))) rfl))))
 ·refine bg rfl (bg rfl (bX rfl ?_));cases rd.length==0 with
  |true=>exact bg rfl (aX (by(first|omega|(simp only[ByteArray.size_append,az,apM,apV]at*;omega))) rfl)
  |false=>exact bX rfl (aE hl (aX (by(first|omega|(simp only[ByteArray.size_append,az,apM,apV]at*;omega))) (aX (by(first|omega|(simp only[ByteArray.size_append,az,apM,apV]at*;omega))) (aX (by(first|omega|(simp only[ByteArray.size_append,az,apM,apV]at*;omega))) rfl))))
 ·refine bg rfl (bg rfl (bg rfl (bX rfl ?_)));cases rd.length==0 with
  |true=>exact bg rfl (aX (by(first|omega|(simp only[ByteArray.size_append,az,apM,apV]at*;omega))) rfl)
  |false=>exact bX rfl (aE hl (aX (by(first|omega|(simp only[ByteArray.size_append,az,apM,apV]at*;omega))) (aX (by(first|omega|(simp only[ByteArray.size_append,az,apM,apV]at*;omega))) (aX (by(first|omega|(simp only[ByteArray.size_append,az,apM,apV]at*;omega))) rfl))))
 ·refine bg rfl (bg rfl (bg rfl (bg rfl (bX rfl ?_))));cases rd.length==0 with
  |true=>exact bg rfl (aX (by(first|omega|(simp only[ByteArray.size_append,az,apM,apV]at*;omega))) rfl)
  |false=>exact bX rfl (aE hl (aX (by(first|omega|(simp only[ByteArray.size_append,az,apM,apV]at*;omega))) (aX (by(first|omega|(simp only[ByteArray.size_append,az,apM,apV]at*;omega))) (aX (by(first|omega|(simp only[ByteArray.size_append,az,apM,apV]at*;omega))) rfl))))
 ·refine bg rfl (bg rfl (bg rfl (bg rfl (bg rfl (bX rfl ?_)))));cases rd.length==0 with
  |true=>exact bg rfl (aX (by(first|omega|(simp only[ByteArray.size_append,az,apM,apV]at*;omega))) rfl)
  |false=>exact bX rfl (aE hl (aX (by(first|omega|(simp only[ByteArray.size_append,az,apM,apV]at*;omega))) (aX (by(first|omega|(simp only[ByteArray.size_append,az,apM,apV]at*;omega))) (aX (by(first|omega|(simp only[ByteArray.size_append,az,apM,apV]at*;omega))) rfl))))
def LA(d:bf)(b:aqy):aqy:=((((((((bs [100,101,102,32])++d.ao)++(bs [58,32]))++mY d.aO)++(bs [91]))++di false (d.aP.map mH))++(bs [93,32,61,32]))++Aq d)++b++bs [59]
theorem ajA{N:Nat}(hN:2147483648<N){d:bf}(h:tv N d):∃t:aqy,t.size<=1300000000/\0<t.size/\IX N d=some t/\GZ N d=some t:=by
 obtain⟨b,hb⟩:=YE hN _ d.cg (apU _) h.E h.nd;have TB:=hb.size;have hbp:=hb.pos;have gd:=h.nd;have hb9:b.size<=1200000000:=by omega
 have s1:=(pV h.name).1;have s2:=IB d.aO;have s3:=h.agQ;have s4:=ajo h;have s5:=h.Qa;have s6:=Wf d.cC;have QF:=λx hx=>Ay h.pE x hx;have e1:N8 N d.cg=some b:=by
  have:=hb.real N h.sz (bs []) (by rw[az,apV];omega);rw[kF]at this;exact aE h.v1 (bg rfl (aE (show Q8 N d.cg (bs [])=some b from this) rfl))
 have e2:Tu N d.cg=some b:=aE h.v2 (bg rfl (aE (show QC N d.cg=some b from hb.ref N h.sz) rfl));have d1:∀x∈d.aP,x.cw.xL.length<=20/\cO x.ao=true/\dF x.cw=true:=λx hx=>h.pE x (List.mem_append_left _ hx);have d2:∀x∈d.aY,x.cw.xL.length<=20/\cO x.ao=true/\dF x.cw=true:=λx hx=>h.pE x (List.mem_append_right _ hx);refine⟨LA d b,by unfold LA;(first|omega|(simp only[ByteArray.size_append,az,apM,apV]at*;omega)),by unfold LA;(first|omega|(simp only[ByteArray.size_append,az,apM,apV]at*;omega)),?_,?_⟩
 ·unfold IX;refine aE (tV N _ (by omega)) (aE (v:=false) (bX h.name (aE (S6 (by omega) d.aP 0 (Ay d1)) (bX rfl (aE (S6 (by omega) d.aY 0 (Ay d2)) (bX rfl (aE (qW N _) (by rw[h.type];rfl))))))) (bg rfl ?_));refine aE (v:=false) ?_ (bg rfl ?_)
  ·refine bg (aqr (by have:=h.f0;omega)) (bg (aqr (by have:=h.f5;omega)) ?_);rw[ku];cases z0:d.cC==0 with
   |true=>refine bX rfl ?_;rw[h.fr (.inl (beq_iff_eq.1 z0))];rfl
   |false=>
    cases z5:d.cC==5 with
    |true=>refine bg rfl (bX rfl ?_);rw[h.fr (.inr (beq_iff_eq.1 z5))];rfl
    |false=>rfl
  ·refine aE h.v1 (bg rfl (aX (by(first|omega|(simp only[ByteArray.size_append,az,apM,apV]at*;omega))) (aX (by(first|omega|(simp only[ByteArray.size_append,az,apM,apV]at*;omega))) (aE (Kv N _) (aX (by(first|omega|(simp only[ByteArray.size_append,az,apM,apV]at*;omega))) (aX (by(first|omega|(simp only[ByteArray.size_append,az,apM,apV]at*;omega))) (aE (aaD hN h.nV d1) (aX (by(first|omega|(simp only[ByteArray.size_append,az,apM,apV]at*;omega))) (aX (by(first|omega|(simp only[ByteArray.size_append,az,apM,apV]at*;omega))) (aE (aiP hN h) (aX (by(first|omega|(simp only[ByteArray.size_append,az,apM,apV]at*;omega))) (aE e1 (aX (by(first|omega|(simp only[ByteArray.size_append,az,apM,apV]at*;omega))) (aX (by(first|omega|(simp only[ByteArray.size_append,az,apM,apV]at*;omega))) rfl))))))))))))))
 ·have a1:=QR (N:=N) (by omega) d.aP 0 (bs []) (Ay d1) (by rw[az,apV,show(!(0==0))=false from rfl];omega);have a2:=QR (N:=N) (by omega) d.aY 0 (bs []) (Ay d2) (by rw[az,apV,show(!(0==0))=false from rfl];omega);rw[kF,show(!(0==0))=false from rfl]at a1 a2;unfold GZ;refine aE (show FK N d.aP=_ from a1) (aE (show FK N d.aY=_ from a2) (aE e2 ?_));refine aE (v:=false) (bX rfl (bX rfl (bg (by rw[E3,beq_eq_false_iff_ne];omega) (aE (sf N _ (by omega)) (bX h.name (aE (sR N _) (bX h.type (bg (aqr (by have:=h.f0;omega)) (congrArg some (aqr (by have:=h.f5;omega))))))))))) (bg rfl ?_);refine aE (v:=false) ?_ (bg rfl ?_)
  ·rw[ku];cases zr:d.aY.length==0 with
   |true=>rfl
   |false=>
    refine bX rfl ?_;have hr:d.aY.length≠0:=by rw[beq_eq_false_iff_ne]at zr;exact zr
    refine bg (beq_eq_false_iff_ne.2 λhf=>hr (h.fr (.inl hf))) (congrArg some (beq_eq_false_iff_ne.2 λhf=>hr (h.fr (.inr hf))))
  ·refine aX (by(first|omega|(simp only[ByteArray.size_append,az,apM,apV]at*;omega))) (aX (by(first|omega|(simp only[ByteArray.size_append,az,apM,apV]at*;omega))) (aE (KA (by omega) _) (aX (by(first|omega|(simp only[ByteArray.size_append,az,apM,apV]at*;omega))) (aX (by(first|omega|(simp only[ByteArray.size_append,az,apM,apV]at*;omega))) (aX (by(first|omega|(simp only[ByteArray.size_append,az,apM,apV]at*;omega))) (aX (by(first|omega|(simp only[ByteArray.size_append,az,apM,apV]at*;omega))) ?_))))));unfold LA Aq IS MP;rw[qH,ku];cases d.cC==0 with
   |true=>exact bg rfl (aX (by(first|omega|(simp only[ByteArray.size_append,az,apM,apV]at*;omega))) (aX (by(first|omega|(simp only[ByteArray.size_append,az,apM,apV]at*;omega))) (by rw[cond_true,pn])))
   |false=>
    refine bX rfl (aE (ao3 N _) (aX (by(first|omega|(simp only[ByteArray.size_append,az,apM,apV]at*;omega))) ?_));cases d.aY.length==0 with
    |true=>exact bg rfl (aX (by(first|omega|(simp only[ByteArray.size_append,az,apM,apV]at*;omega))) (aX (by(first|omega|(simp only[ByteArray.size_append,az,apM,apV]at*;omega))) (aX (by(first|omega|(simp only[ByteArray.size_append,az,apM,apV]at*;omega))) (by simp only[cond_true,cond_false,pn,ByteArray.append_assoc]))))
    |false=>exact bX rfl (aX (by(first|omega|(simp only[ByteArray.size_append,az,apM,apV]at*;omega))) (aX (by(first|omega|(simp only[ByteArray.size_append,az,apM,apV]at*;omega))) (aX (by(first|omega|(simp only[ByteArray.size_append,az,apM,apV]at*;omega))) (aX (by(first|omega|(simp only[ByteArray.size_append,az,apM,apV]at*;omega))) (aX (by(first|omega|(simp only[ByteArray.size_append,az,apM,apV]at*;omega))) (by simp only[cond_true,cond_false,ByteArray.append_assoc]))))))
structure GA(N:Nat)(q:aK):Prop where
 s:q.aA.length<=12
 o:q.b9.length<=12
 w:q.cr.length<=12
 p:q.aG.length<=12
 d:q.ay.length<=12
 S:∀s∈q.aA,cO s=true
 O:∀s∈q.b9,cO s=true
 W:∀c∈q.cr,dF c.aS=true/\c.aS.xL.length<=20
 P:∀x∈q.aG,cO x.ao=true/\eX x.aO=true/\x.aP.length<=12/\∀l∈x.aP,dF l=true/\l.xL.length<=20
 D:∀x∈q.ay,tv N x
def I5(r f:aqz aqy):Prop:=∃t:aqy,r=some t/\f=some t/\t.size<=200000000000
theorem GY{l:aqx aqy}(h:l.length<=12)(hn:∀s∈l,cO s=true):(di false l).size<=216:=by
 have h1:=AA (B:=16) l false λt ht=>(pV (hn t ht)).1;have:l.length*(16+2)<=12*(16+2):=Nat.mul_le_mul_right _ h;omega
def rB(w:aqy)(l:aqx aqy):aqy:=bif l.length==0 then bs []else(w++bs [32])++di false l++bs [59,10]
theorem Zq{N:Nat}(hN:2147483648<N){w:aqy}{l:aqx aqy}(hw:w.size<=4)(h:l.length<=12)(hn:∀s∈l,cO s=true)(a:aqy)(ha:a.size<=100000000000000):FA N w l a=some (a++rB w l):=by
 have hs:=GY h hn;unfold FA rB;rw[ku];cases l.length==0 with
 |true=>rw[cond_true,pn];rfl
 |false=>exact bX rfl (aX (by(first|omega|(simp only[ByteArray.size_append,az,apM,apV]at*;omega))) (aE (aj0 l (by omega) (by omega) (by omega)) (aX (by(first|omega|(simp only[ByteArray.size_append,az,apM,apV]at*;omega))) (aX (by(first|omega|(simp only[ByteArray.size_append,az,apM,apV]at*;omega))) (aE (mM (by(first|omega|(simp only[ByteArray.size_append,az,apM,apV]at*;omega)))) rfl)))))
theorem X5{N:Nat}(hN:2147483648<N)(q:aK)(h:GA N q):∀(l:aqx bf)(k:Nat)(a:aqy),(∀d∈l,tv N d)->a.size+1300000001*l.length<=100000000000->I5 (EF N q l k a) (CR N q (di false q.b9,true) l k a)
 |[],k,a,_,ha=>by
  have hs:=GY h.o h.O;have hz:(rB (bs [111,117,116]) q.b9).size<=300:=by unfold rB;cases q.b9.length==0<;>simp only[cond_true,cond_false]<;>(first|omega|(simp only[ByteArray.size_append,az,apM,apV]at*;omega))
  refine⟨a++rB (bs [111,117,116]) q.b9,?_,?_,by rw[apV]at ha;(first|omega|(simp only[ByteArray.size_append,az,apM,apV]at*;omega))⟩
  ·rw[EF];exact aE (Zq hN (by decide) h.o h.O a (by omega)) rfl
  ·rw[CR,ku];unfold rB;cases q.b9.length==0 with
   |true=>rw[cond_true,pn];rfl
   |false=>exact bX rfl (aX (by(first|omega|(simp only[ByteArray.size_append,az,apM,apV]at*;omega))) (aX (by(first|omega|(simp only[ByteArray.size_append,az,apM,apV]at*;omega))) (aX (by(first|omega|(simp only[ByteArray.size_append,az,apM,apV]at*;omega))) (congrArg some (by
    rw[cond_false,show bs [111,117,116]++bs [32]=bs [111,117,116,32]from rfl];simp only[ByteArray.append_assoc])))))
 |x::l,k,a,hl,ha=>by
  obtain⟨t,t1,t2,t3,t4⟩:=ajA hN (hl x apP);rw[apM]at ha;obtain⟨r,r1,r2,r3⟩:=X5 hN q h l (k+1) (a++(t++bs [10])) (λd hd=>hl d (apS _ hd)) (by(first|omega|(simp only[ByteArray.size_append,az,apM,apV]at*;omega)));have tn:(bL t==bL (bs []))=false:=by rw[E3,beq_eq_false_iff_ne];omega
  refine⟨r,?_,?_,r3⟩
  ·rw[EF];exact aE t3 (bg tn (aX (by(first|omega|(simp only[ByteArray.size_append,az,apM,apV]at*;omega))) (aE (mM (by(first|omega|(simp only[ByteArray.size_append,az,apM,apV]at*;omega)))) r1)))
  ·rw[CR];refine aE t4 (bg tn (aX (by(first|omega|(simp only[ByteArray.size_append,az,apM,apV]at*;omega))) (aX (by(first|omega|(simp only[ByteArray.size_append,az,apM,apV]at*;omega))) ?_)));rw[ByteArray.append_assoc];exact r2
theorem V4{N:Nat}(hN:2147483648<N)(q:aK)(h:GA N q):∀(l:aqx cv)(k:Nat)(a:aqy),(∀x∈l,cO x.ao=true/\eX x.aO=true/\x.aP.length<=12/\∀l∈x.aP,dF l=true/\l.xL.length<=20)->a.size+100000*l.length<=10000000->
 I5 (FC N q l k a) (Cy N q (di false q.b9,true) l k a)
 |[],k,a,_,ha=>by
  have:=h.d;obtain⟨t,t1,t2,t3⟩:=X5 hN q h q.ay 0 a h.D (by rw[apV]at ha;omega);exact⟨t,by rw[FC];exact t1,by rw[Cy];exact t2,t3⟩
 |x::l,k,a,hl,ha=>by
  obtain⟨h1,h2,h3,h4⟩:=hl x apP;have s1:=(pV h1).1;have s2:=IB x.aO;have s3:(di false (x.aP.map jh)).size<=10000:=by
   have a1:=AA (B:=824) (x.aP.map jh) false λt ht=>by
    obtain⟨y,hy,rfl⟩:=List.mem_map.1 ht;exact rN (h4 y hy).2
   rw[apO]at a1;have:x.aP.length*(824+2)<=12*(824+2):=Nat.mul_le_mul_right _ h3;omega
  have Hw:∀y∈x.aP,y.xL.length<=300:=λy hy=>ap1 (h4 y hy).2 (by decide);have fi:∀y∈x.aP,dF y=true:=λy hy=>(h4 y hy).1;rw[apM]at ha;obtain⟨r,r1,r2,r3⟩:=V4 hN q h l (k+1) (a++(((((((bs [105,110,32])++x.ao)++(bs [58,32]))++mY x.aO)++(bs [91]))++di false (x.aP.map jh))++(bs [93,59,10]))) (λd hd=>hl d (apS _ hd)) (by(first|omega|(simp only[ByteArray.size_append,az,apM,apV]at*;omega)));refine⟨r,?_,?_,r3⟩
  ·rw[FC];refine aE (tV N _ (by omega)) (aE (v:=false) (bX h1 (aE (qW N _) (by rw[h2];exact bg rfl (aE (Qd (by omega) x.aP 0 Hw fi) rfl)))) (bg rfl ?_));exact aX (by(first|omega|(simp only[ByteArray.size_append,az,apM,apV]at*;omega))) (aX (by(first|omega|(simp only[ByteArray.size_append,az,apM,apV]at*;omega))) (aE (Kv N _) (aX (by(first|omega|(simp only[ByteArray.size_append,az,apM,apV]at*;omega))) (aX (by(first|omega|(simp only[ByteArray.size_append,az,apM,apV]at*;omega))) (aE (W5 (by omega) x.aP (by omega) (by omega) Hw (by omega)) (aX (by(first|omega|(simp only[ByteArray.size_append,az,apM,apV]at*;omega))) (aX (by(first|omega|(simp only[ByteArray.size_append,az,apM,apV]at*;omega))) (aE (mM (by(first|omega|(simp only[ByteArray.size_append,az,apM,apV]at*;omega)))) r1))))))))
  ·have rf:=RB (N:=N) (by omega) x.aP 0 (bs []) Hw (by rw[az,apV,show(!(0==0))=false from rfl];omega);rw[kF,show(!(0==0))=false from rfl]at rf;rw[Cy];refine aE (sf N _ (by omega)) (aE (v:=false) (bX h1 (aE (sR N _) (bX h2 (aE (Pq (by omega) x.aP 0 Hw fi) rfl)))) (bg rfl ?_));refine aX (by(first|omega|(simp only[ByteArray.size_append,az,apM,apV]at*;omega))) (aX (by(first|omega|(simp only[ByteArray.size_append,az,apM,apV]at*;omega))) (aX (by(first|omega|(simp only[ByteArray.size_append,az,apM,apV]at*;omega))) (aE (KA (by omega) _) (aX (by(first|omega|(simp only[ByteArray.size_append,az,apM,apV]at*;omega))) (aX (by(first|omega|(simp only[ByteArray.size_append,az,apM,apV]at*;omega))) (aE (show D4 N x.aP=_ from rf) (aX (by(first|omega|(simp only[ByteArray.size_append,az,apM,apV]at*;omega))) (aX (by(first|omega|(simp only[ByteArray.size_append,az,apM,apV]at*;omega))) ?_))))))));simp only[ByteArray.append_assoc]at r2 ⊢;exact r2
theorem TK{N:Nat}(hN:2147483648<N)(q:aK)(h:GA N q):∀(l:aqx c8)(k:Nat)(a:aqy),(∀c∈l,dF c.aS=true/\c.aS.xL.length<=20)->a.size+1000*l.length<=1000000->
 I5 (FY N q l k a) (Fi N q (di false q.b9,true) l k a)
 |[],k,a,_,ha=>by
  have:=h.p;obtain⟨t,t1,t2,t3⟩:=V4 hN q h q.aG 0 a h.P (by rw[apV]at ha;omega);exact⟨t,by rw[FY];exact t1,by rw[Fi];exact t2,t3⟩
 |x::l,k,a,hl,ha=>by
  obtain⟨h1,h2⟩:=hl x apP;have h3:x.aS.xL.length<=300:=ap1 h2 (by decide);have s:=ajx h2;rw[apM]at ha;obtain⟨r,r1,r2,r3⟩:=TK hN q h l (k+1) (a++(((bs [119,104,101,114,101,32])++ye x)++(bs [59,10]))) (λd hd=>hl d (apS _ hd)) (by(first|omega|(simp only[ByteArray.size_append,az,apM,apV]at*;omega)));have hv:te N x=some 0:=by
   unfold te;rw[sI N (by omega) x.aS (ap1 h3 (by decide)),h1];rfl
  have Jv:g_brocaderef06_Validate N x=some 0:=by
   unfold g_brocaderef06_Validate;rw[qK N (by omega) x.aS (ap1 h3 (by decide)),h1];rfl
  refine⟨r,?_,?_,r3⟩
  ·rw[FY];exact aE hv (bg rfl (aE (anq (by omega) h3) (aX (by(first|omega|(simp only[ByteArray.size_append,az,apM,apV]at*;omega))) (aX (by(first|omega|(simp only[ByteArray.size_append,az,apM,apV]at*;omega))) (aE (mM (by(first|omega|(simp only[ByteArray.size_append,az,apM,apV]at*;omega)))) r1)))))
  ·rw[Fi];refine aE Jv (bg rfl (aX (by(first|omega|(simp only[ByteArray.size_append,az,apM,apV]at*;omega))) (aE (ahK (by omega) h3) (aX (by(first|omega|(simp only[ByteArray.size_append,az,apM,apV]at*;omega))) (aX (by(first|omega|(simp only[ByteArray.size_append,az,apM,apV]at*;omega))) ?_)))));simp only[ByteArray.append_assoc]at r2 ⊢;exact r2
theorem adv{N:Nat}(hN:2147483648<N)(q:aK)(h:GA N q):I5 (En N q) (Gl N q):=by
 have s1:=GY h.s h.S;have hw:=h.w;have hr:(rB (bs [115,105,122,101]) q.aA).size<=300:=by unfold rB;cases q.aA.length==0<;>simp only[cond_true,cond_false]<;>(first|omega|(simp only[ByteArray.size_append,az,apM,apV]at*;omega))
 obtain⟨t,t1,t2,t3⟩:=TK hN q h q.cr 0 (rB (bs [115,105,122,101]) q.aA) h.W (by omega);have n1:=Tv (N:=N) (by omega) q.aA 0 (bs []) h.S (by rw[az,apV,show(!(0==0))=false from rfl];omega);have s2:=GY h.o h.O;have n2:=Tv (N:=N) (by omega) q.b9 0 (bs []) h.O (by rw[az,apV,show(!(0==0))=false from rfl];omega);rw[kF,show(!(0==0))=false from rfl]at n1 n2;refine⟨t,?_,?_,t3⟩
 ·unfold En;have mv:=Zq (N:=N) hN (w:=bs [115,105,122,101]) (by decide) h.s h.S (bs []) (by decide);rw[kF]at mv;exact aE (OM (by omega) q.aA 0 h.S) (aE (v:=false) (bX rfl (aE (OM (by omega) q.b9 0 h.O) rfl)) (bg rfl (aE mv t1)))
 ·unfold Gl Ja;refine aE (show EZ N q.aA=_ from n1) (aE (show EZ N q.b9=_ from n2) (aE (v:=false) (bX rfl rfl) (bg rfl ?_)));rw[ku];unfold rB at t2;revert t2;cases q.aA.length==0 with
  |true=>exact λt2=>bg rfl t2
  |false=>exact λt2=>bX rfl (aX (by(first|omega|(simp only[ByteArray.size_append,az,apM,apV]at*;omega))) (aX (by(first|omega|(simp only[ByteArray.size_append,az,apM,apV]at*;omega))) t2))
structure Qo(a b c d:ByteArray):Prop where
 na:∀k:Fin 12,cO (gO a k.val)=true
 nb:∀k:Fin 12,cO (gO b k.val)=true
 nc:∀k:Fin 12,cO (gO c k.val)=true
 nd:∀k:Fin 12,cO (gO d k.val)=true
 ad:rS a d
 bc:rS b c
 ab:∀k j:Fin 12,bL (gO a k.val)≠bL (gO b j.val)
 ac:∀k j:Fin 12,bL (gO a k.val)≠bL (gO c j.val)
theorem aiz{m m':Nm}{s:aqy}:s ∉ m.map (·.1)->bx (m++m') s=bx m' s:=by
 induction m with
 |nil=>intro _;rfl
 |cons x m ih=>
  intro h;obtain⟨k,w⟩:=x;rw[ap8,aqd]at h;rw[List.cons_append,bx,show(bL k==bL s)=false from by
   rw[beq_eq_false_iff_ne];exact λe=>h (.inl (iL e).symm)]
  exact ih λhm=>h (.inr hm)
section
variable {N:Nat} {p:aK} {a b c d:aqy}
theorem Cu{x y:aqy}{l:aqx aqy}(h:(x,y)∈eO a 0 l)(hl:l.length<=12):∃k:Fin 12,y=gO a k.val:=by
 have:y∈(eO a 0 l).map (·.2):=List.mem_map.2 ⟨_,h,rfl⟩;rw[AU]at this;obtain⟨j,_,h2,h3⟩:=DW this;exact⟨⟨j,by omega⟩,h3⟩
theorem ZG(h:p.aA.length<=12){s:aqy}(hs:s∈p.aA):∃k:Fin 12,bx (mS a p) s=gO a k.val:=by
 obtain⟨⟨x,y⟩,h1,h2,h3⟩:=zZ (mS a p) s (by rw[DT];exact hs);rw[h3];exact Cu h1 h
theorem Up(h1:p.aG.length<=12)(h2:p.ay.length<=12){s:aqy}(hs:s∈o9 p):(∃k:Fin 12,bx (mT b c p) s=gO b k.val)\/∃k:Fin 12,bx (mT b c p) s=gO c k.val:=by
 obtain⟨⟨x,y⟩,k1,k2,k3⟩:=zZ (mT b c p) s (by rw[FB];exact hs);rw[k3];unfold mT at k1;rcases aql.1 k1 with k1|k1
 ·exact .inl (Cu k1 (by rw[apO];exact h1))
 ·exact .inr (Cu k1 (by rw[apO];exact h2))
theorem aiU{f:bf}(h1:p.aA.length<=12)(h2:(dV f).length<=12){s:aqy}(hs:s∈dV f++p.aA):(∃k:Fin 12,bx (mV a d p f) s=gO d k.val)\/∃k:Fin 12,bx (mV a d p f) s=gO a k.val:=by
 obtain⟨⟨x,y⟩,k1,k2,k3⟩:=zZ (mV a d p f) s (by rw[KY];exact hs);rw[k3];unfold mV at k1;rcases aql.1 k1 with k1|k1
 ·exact .inl (Cu k1 h2)
 ·exact .inr (Cu k1 h1)
theorem Qy(F:lO N p){f:bf}(hf:f∈p.ay):(dV f).length<=12/\∀s∈p.aA,s ∉ dV f:=by
 obtain⟨i,hi⟩:=List.mem_iff_getElem?.1 hf;have g:=F.G i f hi;have hl:=g.len;refine⟨by unfold dV;rw[apO,apK];omega,λs hs hv=> ?_⟩;unfold dV at hv;obtain⟨x,hx,rfl⟩:=List.mem_map.1 hv;exact((CB _ _ g.pE).1 x hx).2.1 (List.mem_append_left _ hs)
theorem ahQ(F:lO N p)(S:Qo a b c d):O2 p (bx (mS a p)) (bx (mT b c p)) (λf=>bx (mV a d p f)):=by
 have hs:=F.Sh.s;refine⟨⟨OL hs,λx hx=> ?_⟩,⟨λx hx y hy e=> ?_,λx hx=> ?_⟩,λx hx y hy e=> ?_,λf hf=>⟨Vs S.ad hs (Qy F hf).1,λx hx=> ?_⟩,λf hf s h=> ?_,SL F.V⟩
 ·obtain⟨k,e⟩:=ZG (a:=a) hs hx;rw[e];exact S.na k
 ·refine M7 (m:=mT b c p) ?_ (by rw[FB];exact hx) (by rw[FB];exact hy) e;unfold mT;rw[List.map_append,AU,AU];exact T9 S.bc _ _ (by rw[apO];exact F.Sh.q) (by rw[apO];exact F.Sh.d)
 ·rcases Up (b:=b) (c:=c) F.Sh.q F.Sh.d hx with⟨k,e⟩|⟨k,e⟩
  ·rw[e];exact S.nb k
  ·rw[e];exact S.nc k
 ·obtain⟨k,e1⟩:=ZG (a:=a) hs hx;rw[e1]at e;rcases Up (b:=b) (c:=c) F.Sh.q F.Sh.d hy with⟨j,e2⟩|⟨j,e2⟩
  ·rw[e2]at e;exact S.ab k j (congrArg bL e)
  ·rw[e2]at e;exact S.ac k j (congrArg bL e)
 ·rcases aiU (a:=a) (d:=d) hs (Qy F hf).1 hx with⟨k,e⟩|⟨k,e⟩
  ·rw[e];exact S.nd k
  ·rw[e];exact S.na k
 ·show bx (mV a d p f) s=bx (mS a p) s;unfold mV;exact aiz (by rw[Av];exact(Qy F hf).2 s h)
theorem agq(h:nL p):rQ p=true:=by
 have h1:=h.s;have h2:=h.w;have h3:=h.q;have h4:=h.d;have h5:=h.o;unfold rQ;rw[aqq (show p.aA.length<=64 by omega),aqq (show p.aG.length<=64 by omega),aqq (show p.ay.length<=64 by omega),aqq (show p.b9.length<=64 by omega),aqq (show p.cr.length<=256 by omega)];rfl
theorem aoe(hN:9223372036854775808<N)(hS:nL p)(hs:∀f∈p.ay,SizeOf.sizeOf f.cg<N)(Q:VQ N p):lO N p/\∃k,A5 N p=some (k,0)/\n9 N p=some (k,0):=by
 have B:=RJ (N:=N) hS hs;have bV:16<N:=by omega
 obtain⟨k,hk⟩:=ao1 bV B (agq hS) Q;obtain⟨a,x,v1,v2,v3⟩:=abe (by omega) B;rw[hk]at v2;obtain⟨rfl,rfl⟩:=Prod.mk.inj (ap2 v2);exact⟨⟨hN,RH bV B hk,hS,v3 rfl,hs⟩,k,v1,hk⟩
theorem lO.vq(F:lO N p){k:Int}(h:n9 N p=some (k,0)):VQ N p:=ahv (by have:=F.hN;omega) (RJ F.Sh F.size) h
theorem ak5(F:lO N p)(Q:VQ N p)(S:Qo a b c d)(hs:∀f∈(lL a b c d p).ay,SizeOf.sizeOf f.cg<N):VQ N (lL a b c d p)/\lO N (lL a b c d p)/\∃k,A5 N (lL a b c d p)=some (k,0)/\n9 N (lL a b c d p)=some (k,0):=by
 have hN:=F.hN;have q:=agw (by omega) F.V F.Sh (ahQ F S) F.size hs Q;obtain⟨f1,f2⟩:=aoe hN (Zr F.Sh) hs q;exact⟨q,f1,f2⟩
theorem afl{d:bf}(h:qu d=0):0<=d.cC/\d.cC<=5/\(d.cC=0\/d.cC=5->d.aY.length=0):=by
 unfold qu at h;cases z0:d.cC==0 with
 |true=>
  rw[z0,cond_true]at h;have e:=beq_iff_eq.1 z0;refine⟨by omega,by omega,λ_=> ?_⟩;cases zr:d.aY.length==0 with
  |true=>exact beq_iff_eq.1 zr
  |false=>rw[zr]at h;cases h
 |false=>
  rw[z0,cond_false]at h;have n0:=beq_eq_false_iff_ne.1 z0;cases z1:decide (1<=d.cC)&&decide (d.cC<=4)with
  |true=>
   rw[apL,decide_eq_true_eq,decide_eq_true_eq]at z1;exact⟨by omega,by omega,λe=>by omega⟩
  |false=>
   rw[z1,cond_false]at h;cases z5:d.cC==5 with
   |false=>rw[z5]at h;cases h
   |true=>
    rw[z5,cond_true]at h;have e:=beq_iff_eq.1 z5;refine⟨by omega,by omega,λ_=> ?_⟩;cases zr:d.aY.length==0 with
    |true=>exact beq_iff_eq.1 zr
    |false=>rw[zr]at h;cases h
theorem XM{S:aqx aqy}:∀(l:aqx cv)(T:aqx aqy),ue S T l->∀x∈l,eX x.aO=true
 |[],_,_,x,hx=>by cases hx
 |y::l,T,⟨h,hl⟩,x,hx=>by
  rcases aqd.1 hx with rfl|hx
  ·unfold qq at h;cases e:fE (S++T) x.ao !=0 with
   |true=>rw[e]at h;simp only[cond_true]at h;rw[h]at e;cases e
   |false=>
    rw[e]at h;simp only[cond_false]at h;cases e1:eX x.aO with
    |false=>rw[e1]at h;cases h
    |true=>rfl
  ·exact XM l _ hl x hx
theorem am9(F:lO N p)(Q:VQ N p)(hs:∀f∈p.ay,3*SizeOf.sizeOf f.cg<=N):GA N p:=by
 have hN:=F.hN;have V:=F.V;refine⟨F.Sh.s,F.Sh.o,F.Sh.w,F.Sh.q,F.Sh.d,λs h=>((H9 _ _ V.names).1 s h).1,λs h=>V.o9 s (V.outs s h),λc h=>⟨(xe (V.wh c h)).1,F.Sh.W c h⟩,λx h=> ?_,λf h=> ?_⟩
 ·obtain⟨a,b,c⟩:=(Dp _ _ V.sx).1 x h;exact⟨a,XM _ _ V.sx x h,(F.Sh.P x h).1,λl hl=>⟨(xe (vt c l hl)).1,(F.Sh.P x h).2 l hl⟩⟩
 ·obtain⟨i,hi⟩:=List.mem_iff_getElem?.1 h;have q:=Q.defs i f hi;have g:=F.G i f hi;have sh:=F.Sh.D f h;obtain⟨f0,f5,fr⟩:=afl q.fold;refine⟨(tc q.name).1,q.type,sh.nV,sh.red,λx hx=> ?_,f0,f5,fr,wG.of g.body sh.body,anB g.body,?_,?_,hs f h⟩
  ·obtain⟨a,b,c⟩:=(CB _ _ q.pE).1 x hx;exact⟨sh.Cr x hx,a,(xe c).1⟩
  ·rw[Tz N (by omega) _ sh.body.ok,g.body]
  ·rw[LJ N (by omega) _ (F.size f h) sh.body.ok,g.body]
end
theorem alx:Qo (bs [115]) (bs [112]) (bs [100]) (bs [105]):=⟨by decide,by decide,by decide,by decide,⟨115,105,rfl,rfl,by decide⟩,⟨112,100,rfl,rfl,by decide⟩,by decide,by decide⟩
def sF(s:aqy)(x:ga):Bool:=bL x.ao==bL s
def vX(b:aqx ga):aqx aqy->aqy->aqy×Int
 |[],a=>(a,0)
 |s::l,a=>match b.find? (sF s)with
  |none=>(bs [],9)
  |some x=>vX b l (a++bs [32]++kJ x.dM.toInt)
section
variable {N:Nat} {p:aK}
theorem ixB(s:aqy):∀(l:aqx ga)(k:Nat),(l.find? (sF s)=none/\Az N s l k=some (-1))\/∃i x,l.find? (sF s)=some x/\l[i]?=some x/\Az N s l k=some ((k+i:Nat):Int)
 |[],k=> .inl ⟨rfl,rfl⟩
 |x::l,k=>by
  have e0:Az N s (x::l) k=bif sF s x then some (k:Int)else Az N s l (k+1):=rfl;rw[e0,List.find?_cons];cases e:sF s x with
  |true=>exact .inr ⟨0,x,rfl,rfl,rfl⟩
  |false=>
   rcases ixB s l (k+1)with⟨a,b⟩|⟨i,y,a,b,c⟩
   ·exact .inl ⟨a,b⟩
   ·exact .inr ⟨i+1,y,a,b,by rw[cond_false,c];exact congrArg some (by omega)⟩
theorem XG(b:aqx ga):∀(l:aqx aqy)(k:Nat)(a:aqy),a.size+22*l.length<=1000000000000->CG N b l k a=some (vX b l a)
 |[],k,a,_=>by rw[CG,vX]
 |s::l,k,a,h=>by
  rw[apM]at h;rw[CG,vX];unfold Qt;rcases ixB (N:=N) s b 0 with⟨e1,e2⟩|⟨i,x,e1,e2,e3⟩
  ·rw[e1];exact aE e2 (bX rfl rfl)
  ·have hs:=mc x.dM.toInt;rw[e1];rw[ap3]at e3;refine aE e3 (bg (aqr (by omega)) (bX (aqq (by omega)) ?_));rw[aqa,e2];refine aE rfl (aE (Qz N _) (aX (by(first|omega|(simp only[ByteArray.size_append,az,apM,apV]at*;omega))) (aX (by(first|omega|(simp only[ByteArray.size_append,az,apM,apV]at*;omega))) ?_)));refine(XG b l (k+1) _ (by(first|omega|(simp only[ByteArray.size_append,az,apM,apV]at*;omega)))).trans ?_;exact congrArg (λy=>some (vX b l y)) ByteArray.append_assoc.symm
theorem VB(hN:50<N)(b:aqx ga)(s a:aqy)(c:aqy->aqz (aqy×Int))(ha:a.size<=1000000000000):∀(l:aqx ga)(k:Nat),b.drop k=l->yJ N b a c s l k=match l.find? (sF s)with|none=>(if k+l.length=b.length then some (bs [],9)else yJ N b a c s [] (k+l.length))|some x=>c (a++bs [32]++kJ x.dM.toInt)
 |[],k,hk=>by
  rw[List.find?_nil,yJ];dsimp only;have:b.length<=k:=List.drop_eq_nil_iff.1 hk;by_cases e:k=b.length
  ·rw[apV,Nat.add_zero,if_pos e];exact bX (by rw[beq_iff_eq];omega) rfl
  ·rw[apV,Nat.add_zero,if_neg e,yJ]
 |x::l,k,hk=>by
  have hl:=GL hk;have hs:=mc x.dM.toInt;rw[List.find?_cons,yJ];cases e:sF s x with
  |true=>
   refine bX e (bg (by rw[beq_eq_false_iff_ne];omega) (aX (by(first|omega|(simp only[ByteArray.size_append,az,apM,apV]at*;omega))) (aE (Gf N hN _) (aX (by(first|omega|(simp only[ByteArray.size_append,az,apM,apV]at*;omega))) rfl))))
  |false=>
   refine bg e ?_;rw[VB hN b s a c ha l (k+1) (rR hk),apM,show k+1+l.length=k+(l.length+1) by omega];cases l.find? (sF s)<;>rfl
theorem aaq(hN:50<N)(b:aqx ga):∀(l:aqx aqy)(k:Nat)(a:aqy),a.size+22*l.length<=1000000000000->Cj N b l k a=some (vX b l a)
 |[],k,a,_=>by rw[Cj,vX]
 |s::l,k,a,h=>by
  rw[apM]at h;rw[Cj,vX,VB hN b s a _ (by omega) b 0 rfl];cases b.find? (sF s)with
  |none=>dsimp only;rw[if_pos (ap3 _)]
  |some x=>
   have hs:=mc x.dM.toInt;exact aaq hN b l (k+1) _ (by(first|omega|(simp only[ByteArray.size_append,az,apM,apV]at*;omega)))
theorem ajY(F:lO N p)(Q:VQ N p)(hs:∀f∈(lL (bs [115]) (bs [112]) (bs [100]) (bs [105]) p).ay,3*SizeOf.sizeOf f.cg<N):∃t:aqy,t.size<=200000000000/\
 En N (lL (bs [115]) (bs [112]) (bs [100]) (bs [105]) p)=some t/\Gl N (lL (bs [115]) (bs [112]) (bs [100]) (bs [105]) p)=some t:=by
 have hN:=F.hN;obtain⟨q1,q2,_⟩:=ak5 F Q alx λf hf=>by have:=hs f hf;omega
 obtain⟨t,t1,t2,t3⟩:=adv (by omega) _ (am9 q2 q1 λf hf=>by have:=hs f hf;omega);exact⟨t,t3,t1,t2⟩
theorem alQ(N:Nat)(p:aK)(b:aqx ga)(hN:9223372036854775808<N)(hd:∀d∈p.ay,iz rj d.cg/\SizeOf.sizeOf d.cg<N)(hr:∀d∈(lL (bs [115]) (bs [112]) (bs [100]) (bs [105]) p).ay,3*SizeOf.sizeOf d.cg<N):Na N p b=some true:=by
 have ex:Gr N=some true:=by
  obtain⟨n,rfl⟩:∃n,N=n+3000:=⟨N-3000,by omega⟩;exact anT n
 obtain⟨x,l1,l2⟩:=ahV N 300 (by decide) (by omega) p hd;unfold Na;have l1:EB N p 300=some x:=l1;rw[l1,apI,ex,jF,apI];cases e:x||decide ((b.length:Int)>40)with
 |true=>rfl
 |false=>
  rw[aqw]at e;have hS:=l2 e.1;have eY:∀d∈p.ay,SizeOf.sizeOf d.cg<N:=λd h=>(hd d h).2;have B:=RJ (N:=N) hS eY;obtain⟨a,z,v1,v2,v3⟩:=abe (Nat.lt_trans (by decide) hN) B;simp only[cond_false]
  suffices h:∃r,Ih N p b=some r/\L1 N p b=some r by
   obtain⟨r,h1,h2⟩:=h;rw[h1,h2];simp only[apI,aqs,cond_true]
  unfold Ih L1 Mm P2;rw[v1,v2];simp only[apI];cases hx:z !=0 with
  |true=>
   simp only[cond_true,apI,hx];exact⟨_,rfl,rfl⟩
  |false=>
   have hx0:=fO hx;subst hx0;have F:lO N p:=⟨hN,RH (Nat.lt_trans (by decide) hN) B v2,hS,v3 rfl,eY⟩;obtain⟨t,t1,t2,t3⟩:=ajY F (F.vq v2) hr;have bn:=hS.s;simp only[cond_false];rw[F.real,F.ref];simp only[apI,bne_self_eq_false,cond_false];rw[t2,t3];simp only[apI];exact⟨_,XG b p.aA 0 t (by omega),aaq (by omega) b p.aA 0 t (by omega)⟩
end
def wz(k:IntKind)(n:Int):Prop:=k.min<=n/\n<=k.max
theorem CV{n:Int}(h:wz .i64 n):∃m:Int64,n=m.toInt:=by
 refine⟨Int64.ofInt n,?_⟩;have h1:bl n=n:=by
  unfold bl;rw[IntKind.wrap_i64];have h2: -9223372036854775808<=n:=h.1;have h3:n<=9223372036854775807:=h.2;omega
 rw[Int64.toInt_ofInt,<-xP];exact h1.symm
theorem aak{p:aqx D}:∀{l:aqx (aqx D)},p∈l->SizeOf.sizeOf p<=SizeOf.sizeOf l.flatten
 |[],h=>by cases h
 |q::l,h=>by
  have app:∀a b:aqx D,SizeOf.sizeOf a<=SizeOf.sizeOf (a++b)/\SizeOf.sizeOf b<=SizeOf.sizeOf (a++b):=by
   intro a b
   induction a with
   |nil=>cases b<;>simp only[List.nil_append,List.nil.sizeOf_spec,List.cons.sizeOf_spec]<;>omega
   |cons x a ih=>simp only[List.cons_append,List.cons.sizeOf_spec];omega
  rw[List.flatten_cons];rcases aqd.1 h with rfl|h
  ·exact(app _ _).1
  ·exact ap1 (aak h) (app _ _).2
structure Vd(x:dx):Prop where
 h0:True
 h1:True
theorem afL{xs:aqx D}(h:er Tryz.prog 63 xs):∃x:dx,xs=LZ x/\Vd x:=by
 obtain⟨parts,rfl,hl,hx⟩:=h.oJ Tryz.underlying63
 match parts,hl with
 |[a0,a1],_=>
 obtain⟨jt,rfl,iR⟩:=(hx 0 _ _ rfl rfl).pv Tryz.underlying2;obtain⟨PL,rfl⟩:=CV iR;obtain⟨jY,rfl,jo⟩:=(hx 1 _ _ rfl rfl).pv Tryz.underlying2;obtain⟨CX,rfl⟩:=CV jo;exact⟨⟨PL,CX⟩,rfl,⟨trivial,trivial⟩⟩
structure Ia(x:bA):Prop where
 h0:wz .i64 x.b7
 h1:wz .i64 x.cp
 h2:wz .i64 x.cq
 h3:wz .i64 x.cU
 h4:wz .i64 x.cS
theorem OD{xs:aqx D}(h:er Tryz.prog 56 xs):∃x:bA,xs=HY x/\Ia x:=by
 obtain⟨parts,rfl,hl,hx⟩:=h.oJ Tryz.underlying56
 match parts,hl with
 |[a0,a1,a2,a3,a4],_=>
 obtain⟨jt,rfl,iR⟩:=(hx 0 _ _ rfl rfl).pv Tryz.underlying3;obtain⟨jY,rfl,jo⟩:=(hx 1 _ _ rfl rfl).pv Tryz.underlying3;obtain⟨qe,rfl,qg⟩:=(hx 2 _ _ rfl rfl).pv Tryz.underlying3;obtain⟨yO,rfl,yz⟩:=(hx 3 _ _ rfl rfl).pv Tryz.underlying3;obtain⟨xz,rfl,w5⟩:=(hx 4 _ _ rfl rfl).pv Tryz.underlying3;exact⟨⟨jt,jY,qe,yO,xz⟩,rfl,⟨iR,jo,qg,yz,w5⟩⟩
structure LB(x:bt):Prop where
 h0:x.ao.size<=maxLen
 h1:True
theorem anp{xs:aqx D}(h:er Tryz.prog 115 xs):∃x:bt,xs=jL x/\LB x:=by
 obtain⟨parts,rfl,hl,hx⟩:=h.oJ Tryz.underlying115
 match parts,hl with
 |[a0,a1],_=>
 obtain⟨jt,rfl,iR⟩:=(hx 0 _ _ rfl rfl).vr Tryz.underlying9;obtain⟨jY,rfl,jo⟩:=(hx 1 _ _ rfl rfl).pv Tryz.underlying2;obtain⟨CX,rfl⟩:=CV jo;exact⟨⟨jt,CX⟩,rfl,⟨iR,trivial⟩⟩
theorem aor{xs:aqx D}(h:er Tryz.prog 50 xs):∃l:aqx bt,xs=[.sl (dh l)]/\(l.length<=140737488355328/\∀a∈l,LB a):=by
 obtain⟨l,rfl,hl,hs⟩:=h.qS Tryz.underlying50;obtain⟨r,rfl,hr⟩:=pO (f:=jL) (Q:=λa=>LB a) l (λx hx=>anp (hs x hx));exact⟨r,by rw[ng],by simpa using hl,hr⟩
structure sV(x:aR):Prop where
 h0:True
 h1:x.xL.length<=140737488355328/\∀a∈x.xL,LB a
theorem EK{xs:aqx D}(h:er Tryz.prog 52 xs):∃x:aR,xs=Dy x/\sV x:=by
 obtain⟨parts,rfl,hl,hx⟩:=h.oJ Tryz.underlying52
 match parts,hl with
 |[a0,a1],_=>
 obtain⟨jt,rfl,iR⟩:=(hx 0 _ _ rfl rfl).pv Tryz.underlying2;obtain⟨PL,rfl⟩:=CV iR;obtain⟨jY,rfl,jo⟩:=aor (hx 1 _ _ rfl rfl);exact⟨⟨PL,jY⟩,rfl,⟨trivial,jo⟩⟩
theorem ZV{xs:aqx D}(h:er Tryz.prog 57 xs):∃l:aqx aR,xs=[.sl (c6 l)]/\(l.length<=140737488355328/\∀a∈l,sV a):=by
 obtain⟨l,rfl,hl,hs⟩:=h.qS Tryz.underlying57;obtain⟨r,rfl,hr⟩:=pO (f:=Dy) (Q:=λa=>sV a) l (λx hx=>EK (hs x hx));exact⟨r,by rw[w6],by simpa using hl,hr⟩
structure G6(x:bH):Prop where
 h0:sV x.aS
 h1:x.bR.size<=maxLen
 h2:x.bO.length<=140737488355328/\∀a∈x.bO,sV a
theorem agK{xs:aqx D}(h:er Tryz.prog 111 xs):∃x:bH,xs=EE x/\G6 x:=by
 obtain⟨parts,rfl,hl,hx⟩:=h.oJ Tryz.underlying111
 match parts,hl with
 |[a0,a1,a2],_=>
 obtain⟨jt,rfl,iR⟩:=EK (hx 0 _ _ rfl rfl);obtain⟨jY,rfl,jo⟩:=(hx 1 _ _ rfl rfl).vr Tryz.underlying9;obtain⟨qe,rfl,qg⟩:=ZV (hx 2 _ _ rfl rfl);exact⟨⟨jt,jY,qe⟩,rfl,⟨iR,jo,qg⟩⟩
theorem anW{xs:aqx D}(h:er Tryz.prog 64 xs):∃l:aqx bH,xs=[.sl (cZ l)]/\(l.length<=140737488355328/\∀a∈l,G6 a):=by
 obtain⟨l,rfl,hl,hs⟩:=h.qS Tryz.underlying64;obtain⟨r,rfl,hr⟩:=pO (f:=EE) (Q:=λa=>G6 a) l (λx hx=>agK (hs x hx));exact⟨r,by rw[yn],by simpa using hl,hr⟩
inductive ym:au->Prop
 |mk (x:au) (h0:wz .i64 x.aJ) (h1:x.ao.size<=maxLen) (h2:Vd x.dM) (h3:Ia x.aO) (h4:sV x.aS) (h5:x.xIdx.length<=140737488355328/\∀a∈x.xIdx,G6 a) (h6:x.bp.length<=140737488355328) (g6:∀a∈x.bp,ym a):ym x
theorem acx:∀(n:Nat)(xs:aqx D),SizeOf.sizeOf xs<n->er Tryz.prog 67 xs->∃x:au,xs=e7 x/\ym x
 |0,_,h,_=>absurd h (aqb _)
 |n+1,xs,hn,h=>by
  obtain⟨parts,rfl,hl,hx⟩:=h.oJ Tryz.underlying67
  match parts,hl with
  |[a0,a1,a2,a3,a4,a5,a6],_=>
  obtain⟨jt,rfl,iR⟩:=(hx 0 _ _ rfl rfl).pv Tryz.underlying3;obtain⟨jY,rfl,jo⟩:=(hx 1 _ _ rfl rfl).vr Tryz.underlying9;obtain⟨qe,rfl,qg⟩:=afL (hx 2 _ _ rfl rfl);obtain⟨yO,rfl,yz⟩:=OD (hx 3 _ _ rfl rfl);obtain⟨xz,rfl,w5⟩:=EK (hx 4 _ _ rfl rfl);obtain⟨MZ,rfl,NC⟩:=anW (hx 5 _ _ rfl rfl);obtain⟨l_,rfl,ao2,hs_⟩:=(hx 6 _ _ rfl rfl).qS Tryz.underlying65;obtain⟨r_,rfl,hr_⟩:=pO (f:=e7) (Q:=ym) l_ (λx hx=>acx n x (by have h1:=List.sizeOf_lt_of_mem hx;have h2:SizeOf.sizeOf [D.sl l_]<n+1:=Nat.lt_of_le_of_lt (aak (by simp)) hn;simp only[List.cons.sizeOf_spec,D.sl.sizeOf_spec,List.nil.sizeOf_spec]at h2;omega) (hs_ x hx));refine⟨⟨jt,jY,qe,yO,xz,MZ,r_⟩,?_, .mk _ iR jo qg yz w5 NC (by simpa using ao2) hr_⟩;show _=e7 _;unfold e7;rw[ru];rfl
theorem ak4{xs:aqx D}(h:er Tryz.prog 67 xs):∃x:au,xs=e7 x/\ym x:=acx _ xs (aqv _) h
theorem WB{xs:aqx D}(h:er Tryz.prog 22 xs):∃l:aqx aqy,xs=[.sl (b6 l)]/\(l.length<=140737488355328/\∀a∈l,a.size<=maxLen):=by
 obtain⟨l,rfl,hl,hs⟩:=h.qS Tryz.underlying22;obtain⟨r,rfl,hr⟩:=pO (f:=Hh) (Q:=λa=>a.size<=maxLen) l (λx hx=>by
  obtain⟨n_x,rfl,w_x⟩:=(hs x hx).vr Tryz.underlying9;exact⟨n_x,rfl,w_x⟩)
 exact⟨r,by rw[q9],by simpa using hl,hr⟩
structure Mr(x:c8):Prop where
 h0:sV x.aS
 h1:True
theorem ady{xs:aqx D}(h:er Tryz.prog 54 xs):∃x:c8,xs=EI x/\Mr x:=by
 obtain⟨parts,rfl,hl,hx⟩:=h.oJ Tryz.underlying54
 match parts,hl with
 |[a0,a1],_=>
 obtain⟨jt,rfl,iR⟩:=EK (hx 0 _ _ rfl rfl);obtain⟨jY,rfl⟩:=(hx 1 _ _ rfl rfl).alR Tryz.underlying4;exact⟨⟨jt,jY⟩,rfl,⟨iR,trivial⟩⟩
theorem akV{xs:aqx D}(h:er Tryz.prog 23 xs):∃l:aqx c8,xs=[.sl (hY l)]/\(l.length<=140737488355328/\∀a∈l,Mr a):=by
 obtain⟨l,rfl,hl,hs⟩:=h.qS Tryz.underlying23;obtain⟨r,rfl,hr⟩:=pO (f:=EI) (Q:=λa=>Mr a) l (λx hx=>ady (hs x hx));exact⟨r,by rw[y0],by simpa using hl,hr⟩
structure Jg(x:cv):Prop where
 h0:x.ao.size<=maxLen
 h1:Ia x.aO
 h2:x.aP.length<=140737488355328/\∀a∈x.aP,sV a
theorem adN{xs:aqx D}(h:er Tryz.prog 59 xs):∃x:cv,xs=GB x/\Jg x:=by
 obtain⟨parts,rfl,hl,hx⟩:=h.oJ Tryz.underlying59
 match parts,hl with
 |[a0,a1,a2],_=>
 obtain⟨jt,rfl,iR⟩:=(hx 0 _ _ rfl rfl).vr Tryz.underlying9;obtain⟨jY,rfl,jo⟩:=OD (hx 1 _ _ rfl rfl);obtain⟨qe,rfl,qg⟩:=ZV (hx 2 _ _ rfl rfl);exact⟨⟨jt,jY,qe⟩,rfl,⟨iR,jo,qg⟩⟩
theorem adn{xs:aqx D}(h:er Tryz.prog 24 xs):∃l:aqx cv,xs=[.sl (iT l)]/\(l.length<=140737488355328/\∀a∈l,Jg a):=by
 obtain⟨l,rfl,hl,hs⟩:=h.qS Tryz.underlying24;obtain⟨r,rfl,hr⟩:=pO (f:=GB) (Q:=λa=>Jg a) l (λx hx=>adN (hs x hx));exact⟨r,by rw[xC],by simpa using hl,hr⟩
structure Fk(x:cd):Prop where
 h0:x.ao.size<=maxLen
 h1:sV x.cw
theorem ai0{xs:aqx D}(h:er Tryz.prog 72 xs):∃x:cd,xs=Ft x/\Fk x:=by
 obtain⟨parts,rfl,hl,hx⟩:=h.oJ Tryz.underlying72
 match parts,hl with
 |[a0,a1],_=>
 obtain⟨jt,rfl,iR⟩:=(hx 0 _ _ rfl rfl).vr Tryz.underlying9;obtain⟨jY,rfl,jo⟩:=EK (hx 1 _ _ rfl rfl);exact⟨⟨jt,jY⟩,rfl,⟨iR,jo⟩⟩
theorem acF{xs:aqx D}(h:er Tryz.prog 61 xs):∃l:aqx cd,xs=[.sl (du l)]/\(l.length<=140737488355328/\∀a∈l,Fk a):=by
 obtain⟨l,rfl,hl,hs⟩:=h.qS Tryz.underlying61;obtain⟨r,rfl,hr⟩:=pO (f:=Ft) (Q:=λa=>Fk a) l (λx hx=>ai0 (hs x hx));exact⟨r,by rw[zd],by simpa using hl,hr⟩
structure Lg(x:bf):Prop where
 h0:x.ao.size<=maxLen
 h1:Ia x.aO
 h2:x.aP.length<=140737488355328/\∀a∈x.aP,Fk a
 h3:x.aY.length<=140737488355328/\∀a∈x.aY,Fk a
 h4:wz .i64 x.cC
 h5:ym x.cg
theorem amZ{xs:aqx D}(h:er Tryz.prog 69 xs):∃x:bf,xs=Di x/\Lg x:=by
 obtain⟨parts,rfl,hl,hx⟩:=h.oJ Tryz.underlying69
 match parts,hl with
 |[a0,a1,a2,a3,a4,a5],_=>
 obtain⟨jt,rfl,iR⟩:=(hx 0 _ _ rfl rfl).vr Tryz.underlying9;obtain⟨jY,rfl,jo⟩:=OD (hx 1 _ _ rfl rfl);obtain⟨qe,rfl,qg⟩:=acF (hx 2 _ _ rfl rfl);obtain⟨yO,rfl,yz⟩:=acF (hx 3 _ _ rfl rfl);obtain⟨xz,rfl,w5⟩:=(hx 4 _ _ rfl rfl).pv Tryz.underlying3;obtain⟨MZ,rfl,NC⟩:=ak4 (hx 5 _ _ rfl rfl);exact⟨⟨jt,jY,qe,yO,xz,MZ⟩,rfl,⟨iR,jo,qg,yz,w5,NC⟩⟩
theorem agt{xs:aqx D}(h:er Tryz.prog 25 xs):∃l:aqx bf,xs=[.sl (gh l)]/\(l.length<=140737488355328/\∀a∈l,Lg a):=by
 obtain⟨l,rfl,hl,hs⟩:=h.qS Tryz.underlying25;obtain⟨r,rfl,hr⟩:=pO (f:=Di) (Q:=λa=>Lg a) l (λx hx=>amZ (hs x hx));exact⟨r,by rw[tb],by simpa using hl,hr⟩
structure ab9(x:aK):Prop where
 h0:x.aA.length<=140737488355328/\∀a∈x.aA,a.size<=maxLen
 h1:x.cr.length<=140737488355328/\∀a∈x.cr,Mr a
 h2:x.aG.length<=140737488355328/\∀a∈x.aG,Jg a
 h3:x.ay.length<=140737488355328/\∀a∈x.ay,Lg a
 h4:x.b9.length<=140737488355328/\∀a∈x.b9,a.size<=maxLen
theorem ak6{xs:aqx D}(h:er Tryz.prog 27 xs):∃x:aK,xs=anH x/\ab9 x:=by
 obtain⟨parts,rfl,hl,hx⟩:=h.oJ Tryz.underlying27
 match parts,hl with
 |[a0,a1,a2,a3,a4],_=>
 obtain⟨jt,rfl,iR⟩:=WB (hx 0 _ _ rfl rfl);obtain⟨jY,rfl,jo⟩:=akV (hx 1 _ _ rfl rfl);obtain⟨qe,rfl,qg⟩:=adn (hx 2 _ _ rfl rfl);obtain⟨yO,rfl,yz⟩:=agt (hx 3 _ _ rfl rfl);obtain⟨xz,rfl,w5⟩:=WB (hx 4 _ _ rfl rfl);exact⟨⟨jt,jY,qe,yO,xz⟩,rfl,⟨iR,jo,qg,yz,w5⟩⟩
structure Hk(x:ga):Prop where
 h0:x.ao.size<=maxLen
 h1:True
theorem amK{xs:aqx D}(h:er Tryz.prog 47 xs):∃x:ga,xs=Gv x/\Hk x:=by
 obtain⟨parts,rfl,hl,hx⟩:=h.oJ Tryz.underlying47
 match parts,hl with
 |[a0,a1],_=>
 obtain⟨jt,rfl,iR⟩:=(hx 0 _ _ rfl rfl).vr Tryz.underlying9;obtain⟨jY,rfl,jo⟩:=(hx 1 _ _ rfl rfl).pv Tryz.underlying2;obtain⟨CX,rfl⟩:=CV jo;exact⟨⟨jt,CX⟩,rfl,⟨iR,trivial⟩⟩
theorem adI{xs:aqx D}(h:er Tryz.prog 35 xs):∃l:aqx ga,xs=[.sl (jz l)]/\(l.length<=140737488355328/\∀a∈l,Hk a):=by
 obtain⟨l,rfl,hl,hs⟩:=h.qS Tryz.underlying35;obtain⟨r,rfl,hr⟩:=pO (f:=Gv) (Q:=λa=>Hk a) l (λx hx=>amK (hs x hx));exact⟨r,by rw[yB],by simpa using hl,hr⟩
def anR:aqx TypeId:=[2,3,4,9,22,23,24,25,27,35,47,50,52,54,56,57,59,61,63,64,65,67,69,72,111,115]
theorem UJ:N2 Tryz.prog anR=true:=by kernel_rfl
theorem akc{e:au}(h:ym e):iz rj e:=by
 induction h with
 |mk x h0 h1 h2 h3 h4 h5 h6 g6 ih=>
  intro y hy;rcases aqd.1 hy with rfl|hy
  ·exact⟨h4.h1.1,h5.1,λz hz=>⟨(h5.2 z hz).h0.h1.1,(h5.2 z hz).h2.1,λl hl=>((h5.2 z hz).h2.2 l hl).h1.1⟩,h6⟩
  ·obtain⟨a,ha,hy⟩:=MD hy;exact ih a ha y hy
noncomputable def RY(d:bf):Nat:=3*SizeOf.sizeOf d.cg+2
theorem Oc:∀{l:aqx bf}{d:bf},d∈l->RY d<=(l.map RY).sum
 |x::l,d,h=>by
  rw[ap8,List.sum_cons];rcases aqd.1 h with rfl|h
  ·omega
  ·have:=Oc h;omega
noncomputable def Mj(p:aK):Nat:=(p.ay.map RY).sum
theorem anj(p:aK)(b:aqx ga)(h:ab9 p)(_:b.length<=140737488355328/\∀a∈b,Hk a):ij Tryz.prog 4 [cX p, .d (.sl (jz b))] (·= .d (.v (.bool true))):=by
 refine ahG true (alQ (9223372036854775900+Mj p+Mj (lL (bs [115]) (bs [112]) (bs [100]) (bs [105]) p)) p b (by omega) (λd hd=>⟨akc (h.h3.2 d hd).h5,?_⟩) λd hd=> ?_)
 ·have h1:3*SizeOf.sizeOf d.cg+2<=Mj p:=Oc hd;omega
 ·have h1:3*SizeOf.sizeOf d.cg+2<=Mj (lL (bs [115]) (bs [112]) (bs [100]) (bs [105]) p):=Oc hd;omega
end Go.Proofs.YtmkmibahjanejaaGreatDoor
