/-
  Part 2 of the proof: AbsZero, AbsIter, AbsCode, AbsWalk, GrowF, AbsDraw, AbsFrame, AbsRun, AbsFrz.
-/
import Derived.Test.YtdchibpnjpnkoaaGreatDoorPp1
import Derived.Lib.AppendZeros
import Derived.Maps.RangeRun
namespace Go.Proofs.YtdchibpnjpnkoaaGreatDoor
open Go.RowKit Go.Lib
def AV.isNil:AV->Bool
 | .d (.v (.slice none 0 0))=>true
 |_=>false
theorem afD{x:AV}(h:x.isNil=true):x= .d (.v (.slice none 0 0)):=by
 unfold AV.isNil at h;split at h
 ·rfl
 ·cases h
def Bw(P:asq)(op:Op)(ρ:Operand->AV)(h:asn ao):asp (AV×asn ao):=
 match op with
 | .slice T x lo hi none=>match et P T,uo ρ 0 lo,uo ρ 0 hi with
   |some _,some 0,some 0=>bif (ρ x).isNil then some (.d (.v (.slice none 0 0)),h)else none
   |_,_,_=>none
 | .call c=>match c.callee with
   | .builtin .cap=>match c.args.toList,c.argTypes.toList with
     |[x],[T]=>bif (ρ x).isNil&&(et P T).isSome then some (.d (.v (.int .i64 0)),h)else none
     |_,_=>none
   | .builtin .append=>match c.args.toList,c.argTypes.toList with
     |[x,y],[T,U]=>match et P T,qC P U,ρ y with
      |some (e,k),some _, .d (.v (.int _ (.ofNat m)))=>match iR P e,qX P e with
       |some z,some cE=>bif (ρ x).isNil&&cp 1 m&&cp 1 k&&z.cells.toList.length==k&&cp m maxLen&&cp (m*cE) 140737488355328 then some (.vec h.length 0 m m k,h++[.vec e k (List.replicate m (z.cells.toList.map λu=> .d (.v u)))])else none
       |_,_=>none
      |_,_,_=>none
     |_,_=>none
   |_=>none
 |_=>none
section
variable {P:asq} {r:asp Nat} {n N0:Nat} {G:Gh} {w:ass} {a:Act} {s:St} {o:Oper} {K:St->Prop} {Q:Exit->Act->ass->Prop}
theorem anl{x:Operand}{T:TypeId}(c:Call)(hc:c.callee= .builtin .cap)(h1:c.args.toList=[x])(h2:c.argTypes.toList=[T])(ho:o.op= .call c):
 (execOp a.eval o).run P w=((Builtin.cap_ #[T] o.type #[a.eval x]).run P w).andThen λv w'=> .ok (.value v) w':=by
 have e1:c.args= #[x]:=by rw[<-Array.toList_inj];exact h1
 have e2:c.argTypes= #[T]:=by rw[<-Array.toList_inj];exact h2
 unfold execOp;simp only[ho,resolve,hc,e1,e2,invoke,builtin,Sem.run_bind,Sem.run_pure,Result.andThen_ok,List.map_toArray,arX,List.map_nil]
theorem abr(hs:cN G w a s){x:asp Operand}(h:uo (ev s) 0 x=some 0):CW a x 0 0:=by
 cases x with
 |none=>rfl
 |some y=>exact RL (d:=0) hs h (Int.le_refl _)
theorem ak0{x:AV}{h':asn ao}(hs:cN G w a s)(cB:N0<=G.N)(hx:Bw P o.op (ev s) s.h=some (x,h'))(hK:K ((s.wh h').put o.dst x)):o.wpIn (WF r) n P a w (jv N0 G w K) Q:=by
 have dA:=hs.ev;have nil:∀{y:Operand},(ev s y).isNil=true->a.eval y= .slice none 0 0:=fun{y} h=>by
  have:=dA y;rw[afD h]at this;exact this.val
 unfold Bw at hx;split at hx
 next T y lo hi ho=>
  split at hx
  ·next ek e1 e2 e3=>
   obtain⟨hb,he⟩:=mF hx;cases he
   obtain⟨fj,fK⟩:=jM e1;refine fv (by rw[ho];simp) hs cB (v:= .slice none 0 0) ?_ (.d (.v _)) hK;have lI:=Ge (P:=P) (AJ:=true) (abr hs e2) (abr hs e3) (arJ _) (arJ 0) w;unfold execOp;simp [ho,nil hb,Instr.sliceAt,Instr.slice,run_underlying fj,lI,mn fK]
  ·cases hx
 next c ho=>
  split at hx
  ·next hc=>
   split at hx
   ·next y T e1 e2=>
    obtain⟨hb,he⟩:=mF hx;cases he
    rw[arA]at hb;cases hT:et P T with
    |none=>rw[hT]at hb;cases hb.2
    |some ek=>
     obtain⟨fj,fK⟩:=jM hT;refine fv (by rw[ho];simp) hs cB (v:= .int .i64 0) ?_ (.d (.v _)) hK;rw[anl c hc e1 e2 ho,nil hb.1];simp [Builtin.cap_,run_underlying fj,goInt]
   ·cases hx
  ·next hc=>
   split at hx
   ·next y z T U e1 e2=>
    split at hx
    ·next e k kn kq m f1 f2 f3=>
     split at hx
     ·next zz cE g1 g2=>
      obtain⟨hb,he⟩:=mF hx;cases he
      simp only[arA,dJ,beq_iff_eq]at hb;obtain⟨⟨⟨⟨⟨kp,lI⟩,L9⟩,qZ⟩,OP⟩,S0⟩:=hb;clear hx;obtain⟨fj,fK⟩:=jM f1;obtain⟨i,lv,jD⟩:∃i,P.info? e=some i/\i.size=k:=by
       unfold fQ at fK;cases hq:P.info? e with
       |none=>rw[hq]at fK;cases fK
       |some i=>rw[hq]at fK;exact⟨i,rfl,arR fK⟩
      have hz:i.zero=some zz:=by unfold iR at g1;rw[lv]at g1;exact g1
      have hbt:i.bytes=cE:=by unfold qX at g2;rw[lv]at g2;exact arR g2
      subst jD;subst hbt;have hy:=dA z;rw[f3]at hy;have ey:a.eval z= .int kq (m:Nat):=hy.val;have dK:=run_append_nil_zeros (P:=P) w T U o.type e i zz kq kn fj (M5 f2) lv hz m (by omega) (by omega) (by have:=OP;simp [maxLen]at this;omega) (by omega);have ju:zz.cells.size=i.size:=by rw[<-ar5];exact qZ
      have gO:(List.replicate m (zz.cells.toList.map λu=>AV.d (.v u))).length=m:=ar8;obtain⟨cap,j0⟩:∃cap,cap=grownCap w m 0 e:=⟨_,rfl⟩;have kG:m<=cap:=by rw[j0];exact grownCap_ge _ _ _ _
      have hle:cap<=maxLen:=by rw[j0];exact grownCap_le_maxLen _ _ _ _ OP
      rw[<-j0]at dK;obtain⟨cur,kh⟩:∃cur,cur=Builtin.zeroCells zz.cells m++Builtin.zeroCells zz.cells (cap-m):=⟨_,rfl⟩;rw[<-kh]at dK;have gx:cur.size=cap*i.size:=by
        rw[kh,Array.size_append,size_zeroCells,size_zeroCells,ju,<-Nat.add_mul]
        congr 1
        omega
      obtain⟨G',q1,q2,q3,q4⟩:=Tm (e:=e) (k:=i.size) (cap:=cap) (cs:=List.replicate m (zz.cells.toList.map λu=>AV.d (.v u))) (cur:=cur) hs.inv (by rw[gO];exact kG) hle gx (λc hc=>by
       rw[List.eq_of_mem_replicate hc,arD];exact qZ) w.drew ⟨rfl,rfl,rfl,rfl⟩ (λa' b c x u hc hx hu=>by
       have:=List.eq_of_mem_replicate (arL hc);subst this;rw[arF]at hx;cases hq:zz.cells.toList[b]? with
       |none=>rw[hq]at hx;cases hx
       |some y=>
        rw[hq]at hx;cases hx
        have jf:b<i.size:=by rw[<-qZ];exact(ary.1 hq).1
        have SJ:a'<m:=by have:=(ary.1 hc).1;rwa [gO]at this
        have aS:a'*i.size+b<m*i.size:=mZ SJ jf;rw[kh,Array.getElem?_append_left (by rw[size_zeroCells,ju];exact aS)]at hu;unfold Builtin.zeroCells at hu;rw[Array.getElem?_map,Array.getElem?_range,ju,if_pos aS]at hu;simp only[Option.map_some,Option.some.injEq]at hu;rw[(KT (i:=a') jf).2]at hu;have qv:zz.cells[b]?=some y:=by rw[<-arV];exact hq
        rw[getElem!_pos zz.cells b (by rw[ju];exact jf)]at hu;rw[arU (by rw[ju];exact jf)]at qv;cases qv
        subst hu;exact .d (.v _))
      rw[gO]at q4;refine pk (by rw[ho];simp) hs cB (by rw[Fh c hc e1 e2 ho,nil kp,ey,dK];rfl) q1 q2 q3 (q4 m (arJ _)) hK
     ·cases hx
    ·cases hx
   ·cases hx
  ·cases hx
 next=>cases hx
end
end Go.Proofs.YtdchibpnjpnkoaaGreatDoor
namespace Go.Proofs.YtdchibpnjpnkoaaGreatDoor
open Go.RowKit
section
variable {G:Gh} {w:ass} {h:asn ao}
theorem afe(hi:b9 G w h):b7 G.N G w G w.drew/\b9 G w.drew h:=by
 have hE:b7 G.N G w G w.drew:=⟨arJ _,λ_ _ h=>h,λ_ _ _=>rfl,λ_ _=>rfl,λ_ _=> .inl ⟨rfl,rfl⟩,zsame rfl,λ_ _=>rfl,rfl,rfl,rfl,λ_ _ h=> .inl h⟩;exact⟨hE,hi.len,hi.z,hi.S,λn B hB=>eu.bj (hi.lt hB) hE (arJ _) ⟨rfl,rfl,rfl⟩ (λ_ _=>⟨rfl,λ_ h=>h⟩) (hi.dv n B hB),hi.inj,hi.gl.bj hE⟩
end
def opR(P:asq)(lo:Nat)(op:Op)(ρ:Operand->AV)(h:asn ao):asp (AV×asn ao):=
 match op with
 | .range T m=>match vR P T,ρ m with
   |some _, .mp mb=>match h[mb]? with
    |some (.map [_])=>some (.ptr h.length 0,h++[.it false [.mp mb]])
    |_=>none
   |_,_=>none
 | .next it false=>match ρ it with
   | .ptr n 0=>match h[n]? with
     |some (.it sn [.mp mb])=>match h[mb]? with
      |some (.map [(s,d)])=>match sn with
       |true=>some (.aX [.d (.v (.bool false))],h)
       |false=>bif cp lo n then some (.aX [.d (.v (.bool true)), .d (.v (.string s)), .d d],h.set n (.it true [.mp mb]))else none
      |_=>none
     |_=>none
   |_=>none
 | .entry it=>match ρ it with
   | .ptr n 0=>match h[n]? with
     |some (.it true [.mp mb])=>match h[mb]? with
      |some (.map [(s,d)])=>some (.aX [.d (.v (.string s)), .d d],h)
      |_=>none
     |_=>none
   |_=>none
 |_=>none
section
variable {P:asq} {r:asp Nat} {n N0:Nat} {G:Gh} {w:ass} {a:Act} {s:St} {o:Oper} {K:St->Prop} {Q:Exit->Act->ass->Prop}
end
def jy(ops:Array Oper)(o:Oper)(s:St)(yes no:Prop):Prop:=
 match o.guard with
 |none=>yes
 |some (j,want)=>match (ops[j]?).bind (·.dst)with
  |some d=>match bw s.t d with
   | .d (.v (.bool b))=>(b=want->yes)/\(b= !want->no)
   | .d (.v (.tuple _))=>no
   |_=>False
  |none=>False
structure bJ(P:Program)(r:Option Nat)(N0:Nat)(c:Code)(Q:Exit->St->Prop)(s:St):Prop where
 run:∀(G:Gh)(w:World)(a:Act)(n:Nat),cN G w a s->N0<=G.N->c.wpIn (WF r) n P (λe a' w'=>jv N0 G w (Q e) a' w') a w
def ik(K:St->Prop)(Q:Exit->St->Prop):Exit->St->Prop
 | .normal,s=>K s
 |e,s=>Q e s
def mg:Nat->asn AV->asn (Nat×AV)
 |_,[]=>[]
 |k,x::l=>(k,x)::mg (k+1) l
theorem Oh:∀(l:asn AV)(k i:Nat),bw (mg k l) i=if k<=i then(l[i-k]?).getD .dead else .dead
 |[],k,i=>by simp [mg,bw]
 |x::l,k,i=>by
  rw[mg,kY,Oh l (k+1) i];by_cases h:i=k
  ·subst h;simp
  ·rw[if_neg h];by_cases h2:k<=i
   ·rw[if_pos (by omega),if_pos h2,show i-k=i-(k+1)+1 by omega,ar9]
   ·rw[if_neg (by omega),if_neg h2]
def YS(P:asq)(k:Nat)(x:AV)(h:asn ao)(C:Bool->asn ao->Prop):Prop:=
 ∀(G:Gh)(w:ass)(v:asr)(r:asp Nat)(n:Nat),b9 G w h->aJ G w v x->k<G.N/\∃(p:Nat)(as bd:Code)(fn:FuncId)(tm:Array asr)(D:Nat),
  w.heap[G.bg k]?=some (.loop {state:= .ready,pending:=none,fn:=fn,tmps:=tm,params:= #[p],assign:=as,body:=bd,defers:=D})/\
  RoundIn (WF r) n P (G.bg k) fn (tm.setIfInBounds p v) as bd w λe w'=>∃(b:Bool)(G':Gh)(h':asn ao),e= .returned (.bool b)/\b7 G.N G w G' w'/\G.N<=G'.N/\b9 G' w' h'/\C b h'
def ah6(C:Bool->asn ao->Prop)(k:Nat):Exit->St->Prop
 | .normal,s2=>∃p as bd kL,s2.h[k]?=some (.lp .busy p as bd kL)/\C true (s2.h.set k (.lp .ready p as bd kL))
 | .ret,s2=>∃p as bd kL,s2.h[k]?=some (.lp .busy p as bd kL)/\C false (s2.h.set k (.lp (.done .ret) p as bd kL))
 | .exit i,s2=>∃p as bd kL,s2.h[k]?=some (.lp .busy p as bd kL)/\C false (s2.h.set k (.lp (.done (.exit i)) p as bd kL))
 |_,_=>False
def NY(P:asq)(o:Oper)(K:St->Prop)(s:St):Prop:=
 match o.op with
 | .call c=>match c.callee with
   | .value f=>match ev s f,c.args.toList.map (ev s)with
     | .dc k,[x]=>YS P k x s.h λb h'=>K ((s.wh h').put o.dst (.d (.v (.bool b))))
     |_,_=>False
   |_=>False
 |_=>False
def alF(P:asq)(o:Oper)(K:St->Prop)(s:St):Prop:=∃x h',Bw P o.op (ev s) s.h=some (x,h')/\K ((s.wh h').put o.dst x)
def o9(P:asq)(o:Oper)(K:St->Prop)(s:St):Prop:=JP P o K s\/Hu P o K s\/qH P o K s\/NY P o K s\/alF P o K s
def rY(P:asq)(ops:Array Oper):asn Oper->(St->Prop)->St->Prop
 |[],K,s=>K s
 |o::rest,K,s=>jy ops o s (o9 P o (rY P ops rest K) s) (rY P ops rest K (s.put o.dst (.d (.v undef))))
def qB(id:Nat)(Q:Exit->St->Prop):Exit->St->Prop
 | .exit rC,s=>bif rC==id then Q .normal s else Q (.exit rC) s
 |e,s=>Q e s
section
variable {P:asq} {r:asp Nat} {n N0:Nat} {G:Gh} {w:ass} {a:Act} {s:St} {o:Oper} {Q:Exit->St->Prop}
theorem jv.mono{K K':St->Prop}(h:∀s,K s->K' s){a':Act}{w':ass}(hn:jv N0 G w K a' w'):jv N0 G w K' a' w':=
 let ⟨G',s',h1,h2,h3,h4⟩:=hn;⟨G',s',h1,h2,h3,h _ h4⟩
theorem jv.trans{K:St->Prop}{G1:Gh}{w1:ass}(hE:b7 N0 G w G1 w1){a':Act}{w':ass}(hn:jv N0 G1 w1 K a' w'):jv N0 G w K a' w':=
 let ⟨G',s',h1,h2,h3,h4⟩:=hn;⟨G',s',hE.trans h1,h2,h3,h4⟩
theorem bJ.mono{c:Code}{Q':Exit->St->Prop}(h:bJ P r N0 c Q s)(hq:∀e s,Q e s->Q' e s):bJ P r N0 c Q' s:=
 ⟨λG w a n hs hN=>wpIn_mono (h.run G w a n hs hN) λe _ _ hn=>hn.mono (hq e)⟩
theorem QF{ops:Array Oper}{yes no:Prop}(hs:cN G w a s)(h:jy ops o s yes no):if Region.wanted o (yielded ops a.tmps)then yes else no:=by
 unfold jy at h;split at h
 ·rename_i hg
  rw[if_pos (by simp [Region.wanted,hg])];exact h
 ·rename_i j want hg
  split at h
  ·rename_i d hd
   have hv:=hs.tmp d;split at h
   ·rename_i b hb
    rw[hb]at hv;have e:=hv.bool;have hy:yielded ops a.tmps j=some b:=by
      unfold yielded;rw[hd,arx];by_cases aS:d<a.tmps.size
      ·rw[arU aS];have:a.tmps.getD d undef=a.tmps[d]:=by simp [Array.getD,aS]
       rw[this]at e;rw[e]
      ·have:a.tmps.getD d undef=undef:=by simp [Array.getD,aS]
       rw[this]at e;cases e
    by_cases xh:b=want
    ·rw[if_pos (by simp [Region.wanted,hg,hy,xh])];exact h.1 xh
    ·rw[if_neg (by simp [Region.wanted,hg,hy,xh])];exact h.2 (by cases b<;>cases want<;>simp_all)
   ·rename_i vs hb
    rw[hb]at hv;have e:=hv.val;have hy:yielded ops a.tmps j=none:=by
      unfold yielded;rw[hd,arx];by_cases aS:d<a.tmps.size
      ·rw[arU aS];have:a.tmps.getD d undef=a.tmps[d]:=by simp [Array.getD,aS]
       rw[this]at e;rw[e]
      ·rw[Array.getElem?_eq_none (Nat.le_of_not_lt aS)]
    rw[if_neg (by simp [Region.wanted,hg,hy])];exact h
   ·exact h.elim
  ·exact h.elim
theorem YS.mono{k:Nat}{x:AV}{h:asn ao}{C C':Bool->asn ao->Prop}(hy:YS P k x h C)(hc:∀b h',C b h'->C' b h'):YS P k x h C':=λG w v r n hi hv=>
 let ⟨h0,p,as,bd,fn,tm,D,h1,h2⟩:=hy G w v r n hi hv
 ⟨h0,p,as,bd,fn,tm,D,h1,h2.mono λ_ _ ⟨b,G',h',a1,a2,a3,a4,a5⟩=>⟨b,G',h',a1,a2,a3,a4,hc _ _ a5⟩⟩
theorem aeG{k:Nat}{x:AV}{h:asn ao}{C:Bool->asn ao->Prop}
 (hA:∃p as bd cs,h[k]?=some (.lp .ready p as bd cs)/\p<cs.length/\∀(l:Nat),bJ P (some l) h.length as (ik (λs1=>∃p1 tt sB xr,s1.h[k]?=some (.lp .ready p1 tt sB xr)/\bJ P (some l) h.length bd (ah6 C k) ⟨s1.n,s1.t,s1.h.set k (.lp .busy p1 tt sB xr)⟩) (λ_ _=>False)) ⟨cs.length,(p,x)::mg 0 cs,h⟩):YS P k x h C:=by
 intro G w v r n hi TB;obtain⟨p,as,bd,cs,hk,hp,hA⟩:=hA;have As:k<G.N:=hi.lt hk;obtain⟨hS,fn,tm,D,h3,h4,h5,arj⟩:=H3 hi hk;refine⟨As,p,as,bd,fn,tm,D,h3,?_⟩;refine roundIn_of_wpIn (F:=WF r) trivial ?_;have Un:cN G w {tmps:=tm.setIfInBounds p v,defers:=[]} ⟨cs.length,(p,x)::mg 0 cs,h⟩:=by
  refine⟨by simp [h4],λi=> ?_,hi,rV.nil _ _⟩;show aJ _ _ _ (bw ((p,x)::mg 0 cs) i);rw[kY];split
  ·next e=>
   subst e;have:(tm.setIfInBounds i v).getD i undef=v:=by simp [Array.getD,h4,hp]
   rw[this];exact TB
  ·next e=>
   rw[Oh];simp only[Nat.zero_le,if_true,Nat.sub_zero];cases j6:cs[i]? with
   |none=>exact .dead _
   |some y=>
    have aS:i<tm.size:=by rw[h4];exact(ary.1 j6).1
    have:(tm.setIfInBounds p v).getD i undef=tm[i]:=by
     simp [Array.getD,aS,Ne.symm e]
    rw[this];exact h5 i _ y (arU aS) j6
 have Lg:=hA (G.bg k);rw[hi.len]at Lg;refine wpIn_mono (Lg.run G w _ n Un (arJ _)) λe1 a1 w1 Gc=> ?_;obtain⟨G1,s1,j9,gd,eQ,q9⟩:=Gc;cases e1 with
 |normal=>
  obtain⟨p1,tt,sB,xr,tY,kp⟩:=q9;have uQ:G1.bg k=G.bg k:=j9.bg k As;obtain⟨_,fn1,tm1,D1,g3,g4,g5,aa2⟩:=H3 eQ.inv tY;obtain⟨gE,gI⟩:=aa2 .busy;rw[uQ]at g3 gE gI;refine⟨_,run_beginRound g3 rfl,?_⟩;have Ce:cN G1 (w1.putObj (G.bg k) (.loop {state:= .busy,pending:=none,fn:=fn1,tmps:=tm1,params:= #[p1],assign:=tt,body:=sB,defers:=D1})) a1 ⟨s1.n,s1.t,s1.h.set k (.lp .busy p1 tt sB xr)⟩:=eQ.move gE (arJ _) gI;refine wpIn_mono (kp.run G1 _ a1 n Ce gd) λe3 a3 w3 hn3=> ?_;obtain⟨G3,s3,Wm,Xy,hs3,vx⟩:=hn3;have fin:∀(jump:asp Code)(ls:LS)(b:Bool)(p:Nat)(as bd:Code)(kL:asn AV),s3.h[k]?=some (.lp .busy p as bd kL)->ls.pd=jump->ls.st=(if jump.isNone then .ready else .done)->jump.isNone=b->C b (s3.h.set k (.lp ls p as bd kL))->
   ∃v w',(Instr.endRound (G.bg k) jump).run P w3= .ok v w'/\∃(b:Bool)(G':Gh)(h':asn ao),(Ending.returned v:Ending)= .returned (.bool b)/\b7 G.N G w G' w'/\G.N<=G'.N/\b9 G' w' h'/\C b h':=λjump ls b p as bd kL KC q1 q2 q3 hK=>by
   have hr3:G3.bg k=G.bg k:=(Wm.bg k As).trans uQ;obtain⟨_,fn3,tm3,D3,z3,z4,z5,ahj⟩:=H3 hs3.inv KC;obtain⟨zE,zI⟩:=ahj ls;rw[hr3]at z3 zE zI;subst q1;have G5:=run_endRound (P:=P) ls.pd z3;rw[<-q2]at G5;refine⟨_,_,G5,b,G3,_,by rw[q3],?_,Xy,zI,hK⟩;exact(j9.trans ((gE.less gd).trans Wm)).trans (zE.less Xy)
  cases e3 with
  |normal=>obtain⟨p2,EI,EL,kL,y1,y2⟩:=vx;exact fin none .ready true p2 EI EL kL y1 rfl rfl rfl y2
  |ret=>obtain⟨p2,EI,EL,kL,y1,y2⟩:=vx;exact fin (some .ret) (.done .ret) false p2 EI EL kL y1 rfl rfl rfl y2
  |exit i=>obtain⟨p2,EI,EL,kL,y1,y2⟩:=vx;exact fin (some (.exit i)) (.done (.exit i)) false p2 EI EL kL y1 rfl rfl rfl y2
  |_=>exact vx.elim
 |_=>exact q9.elim
theorem akx{K:St->Prop}{Q:Exit->Act->ass->Prop}(hs:cN G w a s)(hN:N0<=G.N)(h:NY P o K s):o.wpIn (WF r) n P a w (jv N0 G w K) Q:=by
 unfold NY at h;split at h
 ·next c ho=>
  split at h
  ·next f hc=>
   split at h
   ·next k x hf hx=>
    have hv:=hs.ev f;rw[hf]at hv;have ea:a.eval f= .func (.yield (G.bg k)) #[] #[]:=by
     generalize a.eval f=u at hv;cases hv;rfl
    obtain⟨p1,p2⟩:=FY hs c.args;obtain⟨v,xE⟩:∃v,c.args.map a.eval= #[v]:=by
     have:(c.args.map a.eval).size=1:=by rw[p1,hx];rfl
     exact⟨(c.args.map a.eval)[0],Array.ext (by simp [this]) λi h1 h2=>by
      have:i=0:=by simp at h2;exact h2
      subst this;rfl⟩
    have TB:aJ G w v x:=p2 0 v x (by rw[xE];rfl) (by rw[hx];rfl);obtain⟨As,p,as,bd,fn,tm,D,h3,hA⟩:=h G w v r (n-1) hs.inv TB;have lD:∀c',o.op≠ .defer c':=λc' e=>by rw[ho]at e;cases e
    have hy:=run_yield (P:=P) (args:= #[v]) h3 rfl;have dK:(o.semAt (WF r).round a.eval).run P w= .ok (.round (G.bg k) fn (tm.setIfInBounds p v) as bd) w:=by
     rw[Oper.semAt_eq _ _ _ lD];unfold execOp;simp only[ho,resolve,hc,ea];simp [Deferred.ofValue,invoke,xE,hy]
    unfold Oper.wpIn;refine⟨λg hg=>trivial,?_⟩;rw[dK,Oper.uponIn_round];refine⟨λh=>(by simp [WF,Fence.wide]at h),hA.mono λe w' hp=> ?_⟩;obtain⟨b,G',h',rfl,hE,lZ,dN,hK⟩:=hp;exact⟨G',_,hE.less hN,arQ hN lZ,(hs.move hE lZ dN).put (.d (.v _)) o.dst,hK⟩
   ·exact h.elim
  ·exact h.elim
 ·exact h.elim
theorem apP{K:St->Prop}{Q:Exit->Act->ass->Prop}(hs:cN G w a s)(hN:N0<=G.N)(h:o9 P o K s):o.wpIn (WF r) n P a w (jv N0 G w K) Q:=by
 rcases h with h|h|h|h|⟨x,h',h,hK⟩
 ·exact SE hs hN (.inl h)
 ·exact SE hs hN (.inr (.inl h))
 ·exact SE hs hN (.inr (.inr h))
 ·exact akx hs hN h
 ·exact ak0 hs hN h hK
theorem Pm{ops:Array Oper}{K:St->Prop}{Q':Exit->Act->ass->Prop}(hQ:∀a' w',jv N0 G w K a' w'->Q' .normal a' w'):∀(l:asn Oper)(k:Nat),(∀j,l[j]?=ops[k+j]?)->∀(G1:Gh)(w1:ass)(a:Act)(s:St),
 b7 N0 G w G1 w1->N0<=G1.N->cN G1 w1 a s->rY P ops l K s->wpOpsIn (WF r) n P ops Q' (List.range' k l.length) a w1
 |[],k,_,G1,w1,a,s,hE,hN,hs,h=>hQ _ _ ⟨G1,s,hE,hN,hs,h⟩
 |o::l,k,hl,G1,w1,a,s,hE,hN,hs,h=>by
  have h0:ops[k]?=some o:=by simpa using (hl 0).symm
  have qm:∀j,l[j]?=ops[k+1+j]?:=λj=>by have:=hl (j+1);simpa [Nat.add_assoc,Nat.add_comm 1 j]using this
  have hg:=QF hs h;simp only[arB,List.range'_succ,wpOpsIn,h0];split
  ·rename_i hw
   rw[if_pos hw]at hg;exact Oper.wpIn_mono (λa' w' hn=>by
     obtain⟨G2,s2,e2,n2,yx,k2⟩:=hn;exact Pm hQ l (k+1) qm G2 w' a' s2 (hE.trans e2) n2 yx k2) (apP hs hN hg)
  ·rename_i hw
   rw[if_neg hw]at hg;exact⟨λ_ _=>trivial,Pm hQ l (k+1) qm G1 w1 _ _ hE hN (hs.put (.d (.v undef)) o.dst) hg⟩
theorem fD{id:Nat}{ops:Array Oper}(h:rY P ops ops.toList (Q .normal) s):bJ P r N0 (.region id ops false) Q s:=by
 constructor
 intro G w a n hs hN;refine wpIn_region ?_;rw[List.range_eq_range',<-ar5];exact Pm (G:=G) (w:=w) (K:=Q .normal) (λ_ _ h=>h) ops.toList 0 (by simp) G w a s (b7.refl _ _ _) hN hs h
theorem fU(h:Q .normal s):bJ P r N0 .skip Q s:=⟨λG _ _ _ hs hN=>wpIn_skip ⟨G,s,b7.refl _ _ _,hN,hs,h⟩⟩
theorem eG(h:Q .ret s):bJ P r N0 .ret Q s:=⟨λG _ _ _ hs hN=>wpIn_ret ⟨G,s,b7.refl _ _ _,hN,hs,h⟩⟩
theorem n4{id:Nat}(h:Q (.exit id) s):bJ P r N0 (.exit id) Q s:=⟨λG _ _ _ hs hN=>wpIn_exit ⟨G,s,b7.refl _ _ _,hN,hs,h⟩⟩
theorem bk{x y:Code}(h:bJ P r N0 x (ik (λs'=>bJ P r N0 y Q s') Q) s):bJ P r N0 (.seq x y) Q s:=by
 constructor
 intro G w a n hs hN;refine wpIn_seq (wpIn_mono (h.run G w a n hs hN) λe a1 w1 hn=> ?_);obtain⟨G1,s1,hE,gd,eQ,hq⟩:=hn;cases e with
 |normal=>exact wpIn_mono (hq.run G1 w1 a1 n eQ gd) λ_ _ _ hn=>hn.trans hE
 |_=>exact⟨G1,s1,hE,gd,eQ,hq⟩
theorem PX{c:Operand}{x y:Code}{t:Bool}(hc:ev s c= .d (.v (.bool t)))(h1:t=true->bJ P r N0 x Q s)(h2:t=false->bJ P r N0 y Q s):bJ P r N0 (.cond c x y) Q s:=by
 constructor
 intro G w a n hs hN;have hb:=hs.ev c;rw[hc]at hb;exact wpIn_cond_split hb.bool (λe=>(h1 e).run G w a n hs hN) (λe=>(h2 e).run G w a n hs hN)
theorem gP{id:Nat}{c:Code}(h:bJ P r N0 c (qB id Q) s):bJ P r N0 (.block id c) Q s:=by
 constructor
 intro G w a n hs hN;refine wpIn_block (wpIn_mono (h.run G w a n hs hN) λe a1 w1 hn=> ?_);obtain⟨G1,s1,hE,gd,eQ,hq⟩:=hn;cases e with
 |exit rC=>
  by_cases he:rC=id
  ·simp only[qB,he,BEq.rfl,cond_true]at hq;simp only[Exit.inBlock,if_pos he];exact⟨G1,s1,hE,gd,eQ,hq⟩
  ·have hbe:(rC==id)=false:=by simpa using he
   simp only[qB,hbe,cond_false]at hq;simp only[Exit.inBlock,if_neg he];exact⟨G1,s1,hE,gd,eQ,hq⟩
 |_=>exact⟨G1,s1,hE,gd,eQ,hq⟩
theorem SL{F:Fence}{c:Code}{Q:Exit->Act->ass->Prop}{ι:Type}(I:ι->Act->ass->Prop)(μ:ι->Nat)(i0:ι)(h₀:I i0 a w)
 (round:∀i a w,I i a w->c.wpIn F n P (Exit.then (λa' w'=>∃i',I i' a' w'/\μ i'<μ i) Q) a w):(Code.loop c).wpIn F n P Q a w:=by
 intro b k cs BP hb hr;have key:∀j i a w,μ i=j->I i a w->
  ∃e a' w',Q e a' w'/\ArrivesIn (Machine.fenced P F) P (lone (b.atR a (.code c:: .inLoop c::k)) cs w) b k cs e a' w':=by
  intro j
  induction j using Nat.strongRecOn with
  |_ j ih=>
   intro i a w hn hI;obtain⟨e,a₁,w₁,hq,uJ⟩:=round i a w hI b (.inLoop c::k) cs BP hb hr;cases e with
   |normal=>
    obtain⟨i',hI₁,aS⟩:=hq;obtain⟨e₂,a₂,w₂,hq₂,aeQ⟩:=ih (μ i') (hn▸aS) i' a₁ w₁ rfl hI₁;exact⟨e₂,a₂,w₂,hq₂, .of_steps (StepsIn.trans uJ (.one (fenced_calm hb hr rfl) stepR_inLoop)) aeQ⟩
   |exit id=>exact⟨_,a₁,w₁,hq, .pass (x:= .inLoop c) rfl (λ_ _=> .inl (by simp)) uJ⟩
   |goto l=>exact⟨_,a₁,w₁,hq, .pass (x:= .inLoop c) rfl (λ_ _=> .inl (by simp)) uJ⟩
   |ret=>exact⟨_,a₁,w₁,hq, .pass (x:= .inLoop c) rfl (λ_ _=> .inl (by simp)) uJ⟩
   |panic ch=>exact⟨_,a₁,w₁,hq, .pass (x:= .inLoop c) rfl (λ_ _=> .inl (by simp)) uJ⟩
   |outgrown=>exact⟨_,a₁,w₁,hq, .pass (x:= .inLoop c) rfl (λ_ _=> .inl (by simp)) uJ⟩
 obtain⟨e,a',w',hq,uJ⟩:=key _ i0 a w rfl h₀;exact⟨e,a',w',hq, .of_steps (.one (fenced_calm hb hr rfl) stepR_loop) uJ⟩
end
mutual
def AV.bG(m:Nat):AV->AV
 | .own n xs=>bif cp m n then .d (.sl xs)else .own n xs
 | .agg cs=> .agg (AV.pY m cs)
 | .aX cs=> .aX (AV.pY m cs)
 | .fn f cs=> .fn f (AV.pY m cs)
 |x=>x
def AV.pY(m:Nat):asn AV->asn AV
 |[]=>[]
 |x::l=>x.bG m::AV.pY m l
end
mutual
def AV.aQ(m:Nat):AV->Bool
 | .own n _| .ptr n _| .row n _ _ _ _| .mp n| .dc n| .vec n _ _ _ _| .dx n _ _ _ _=> !cp m n
 | .agg cs=>AV.nH m cs
 | .aX cs=>AV.nH m cs
 | .fn _ cs=>AV.nH m cs
 |_=>true
def AV.nH(m:Nat):asn AV->Bool
 |[]=>true
 |x::l=>x.aQ m&&AV.nH m l
end
theorem G6(m:Nat):∀l,AV.pY m l=l.map (AV.bG m)
 |[]=>by simp [AV.pY]
 |x::l=>by simp [AV.pY,G6 m l]
theorem nR(m:Nat):∀l,AV.nH m l=l.all (AV.aQ m)
 |[]=>by simp [AV.nH]
 |x::l=>by simp [AV.nH,nR m l]
def ao.bG(m:Nat):ao->ao
 | .cells cs=> .cells (cs.map (AV.bG m))
 | .lp ls p as bd cs=> .lp ls p as bd (cs.map (AV.bG m))
 | .it sn cs=> .it sn (cs.map (AV.bG m))
 | .vec e k cs=> .vec e k (cs.map (·.map (AV.bG m)))
 |B=>B
def ao.aQ(m:Nat):ao->Bool
 | .cells cs=>cs.all (AV.aQ m)
 | .lp _ _ _ _ cs=>cs.all (AV.aQ m)
 | .it _ cs=>cs.all (AV.aQ m)
 | .vec _ _ cs=>cs.all (·.all (AV.aQ m))
 |_=>true
theorem aJ.bG{G:Gh}{w:ass}(m:Nat){u:asr}{x:AV}(h:aJ G w u x):aJ G w u (x.bG m):=by
 have gz:∀(vs:Array asr)(cs:asn AV),(∀(i:Nat)(u:asr)(c:AV),vs[i]?=some u->cs[i]?=some c->aJ G w u (c.bG m))->∀(i:Nat)(u:asr)(c:AV),vs[i]?=some u->(AV.pY m cs)[i]?=some c->aJ G w u c:=by
  intro vs cs ih i u c hu hc;rw[G6,arF]at hc;cases hx:cs[i]? with
  |none=>rw[hx]at hc;cases hc
  |some x=>rw[hx]at hc;cases hc;exact ih i u x hu hx
 induction h with
 |agg vs cs hl _ ih=>rw[AV.bG];exact .agg vs _ (by rw[G6,arD];exact hl) (gz vs cs ih)
 |aX vs cs hl _ ih=>rw[AV.bG];exact .aX vs _ (by rw[G6,arD];exact hl) (gz vs cs ih)
 |fn f vs cs hl _ ih=>rw[AV.bG];exact .fn f vs _ (by rw[G6,arD];exact hl) (gz vs cs ih)
 |own n xs h hp hle hf=>
  rw[AV.bG,cond_eq_ite];split
  ·exact .d hp
  ·exact .own n xs h hp hle hf
 |d h=>simp only[AV.bG];exact .d h
 |ptr n off h=>simp only[AV.bG];exact .ptr n off h
 |bP xs i off b o u x hx hS hu=>simp only[AV.bG];exact .bP xs i off b o u x hx hS hu
 |full xs hp hf=>simp only[AV.bG];exact .full xs hp hf
 |row n off len cap k h hl hm=>simp only[AV.bG];exact .row n off len cap k h hl hm
 |mp n h=>simp only[AV.bG];exact .mp n h
 |dc n h=>simp only[AV.bG];exact .dc n h
 |vec n o len L k h hs hL hf=>simp only[AV.bG];exact .vec n o len L k h hs hL hf
 |dx n i j L k h hs hL hf=>simp only[AV.bG];exact .dx n i j L k h hs hL hf
 |hid h h1=>simp only[AV.bG];exact .hid h h1
 |dead u=>simp only[AV.bG];exact .dead u
def Gh.cut(G:Gh)(m:Nat):Gh:={G with N:=m}
theorem aJ.cut{G:Gh}{w:ass}{m:Nat}{u:asr}{x:AV}(h:aJ G w u x)(hb:x.aQ m=true):aJ (G.cut m) w u x:=by
 induction h with
 |agg vs cs hl _ ih=>
  rw[AV.aQ,nR,arY]at hb;exact .agg vs cs hl λi u c hu hc=>ih i u c hu hc (hb c (arL hc))
 |aX vs cs hl _ ih=>
  rw[AV.aQ,nR,arY]at hb;exact .aX vs cs hl λi u c hu hc=>ih i u c hu hc (hb c (arL hc))
 |fn f vs cs hl _ ih=>
  rw[AV.aQ,nR,arY]at hb;exact .fn f vs cs hl λi u c hu hc=>ih i u c hu hc (hb c (arL hc))
 |own n xs h hp hle hf=>rw[AV.aQ]at hb;exact .own n xs (show n<m by rw[Bool.not_eq_true',<-Bool.not_eq_true,dJ]at hb;omega) hp hle hf
 |ptr n off h=>rw[AV.aQ]at hb;exact .ptr (G:=G.cut m) n off (show n<m by rw[Bool.not_eq_true',<-Bool.not_eq_true,dJ]at hb;omega)
 |row n off len cap k h hl hm=>rw[AV.aQ]at hb;exact .row (G:=G.cut m) n off len cap k (show n<m by rw[Bool.not_eq_true',<-Bool.not_eq_true,dJ]at hb;omega) hl hm
 |mp n h=>rw[AV.aQ]at hb;exact .mp (G:=G.cut m) n (show n<m by rw[Bool.not_eq_true',<-Bool.not_eq_true,dJ]at hb;omega)
 |dc n h=>rw[AV.aQ]at hb;exact .dc (G:=G.cut m) n (show n<m by rw[Bool.not_eq_true',<-Bool.not_eq_true,dJ]at hb;omega)
 |vec n o len L k h hs hL hf=>rw[AV.aQ]at hb;exact .vec (G:=G.cut m) n o len L k (show n<m by rw[Bool.not_eq_true',<-Bool.not_eq_true,dJ]at hb;omega) hs hL hf
 |dx n i j L k h hs hL hf=>rw[AV.aQ]at hb;exact .dx (G:=G.cut m) n i j L k (show n<m by rw[Bool.not_eq_true',<-Bool.not_eq_true,dJ]at hb;omega) hs hL hf
 |hid h h1=>exact .hid (G:=G.cut m) h h1
 |d h=>exact .d h
 |bP xs i off b o u x hx hS hu=>exact .bP xs i off b o u x hx hS hu
 |full xs hp hf=>exact .full xs hp hf
 |dead u=>exact .dead u
def St.mask(s:St)(live:asn Nat)(m:Nat):St:={s with t:=live.map λk=>(k,(bw s.t k).bG m),h:=(s.h.take m).map (ao.bG m)}
def St.AA(s:St)(live:asn Nat)(m:Nat):Prop:=m<=s.h.length/\(live.all λk=>((bw s.t k).bG m).aQ m)=true/\(((s.h.take m).map (ao.bG m)).all (ao.aQ m))=true
theorem rz(f:Nat->AV):∀(live:asn Nat)(i:Nat),bw (live.map λk=>(k,f k)) i=if i∈live then f i else .dead
 |[],i=>by simp [bw]
 |k::l,i=>by
  simp only[arX,kY,rz f l i,ar2];by_cases h:i=k
  ·subst h;simp
  ·simp [h]
theorem OU{G:Gh}{w:ass}{h:asn ao}(hi:b9 G w h){m:Nat}(hm:m<=h.length)(hb:(((h.take m).map (ao.bG m)).all (ao.aQ m))=true):b9 (G.cut m) w ((h.take m).map (ao.bG m)):=by
 have eN:∀(n:Nat)(B:ao),((h.take m).map (ao.bG m))[n]?=some B->n<m/\∃B',h[n]?=some B'/\B=B'.bG m/\(B'.bG m).aQ m=true:=λn B hB=>by
  have zJ:=arY.1 hb B (arL hB);rw[arF,List.getElem?_take]at hB;split at hB
  ·rename_i hn
   cases hx:h[n]? with
   |none=>rw[hx]at hB;cases hB
   |some B'=>rw[hx]at hB;cases hB;exact⟨hn,B',rfl,rfl,zJ⟩
  ·cases hB
 have dV:∀n b,cg ((h.take m).map (ao.bG m)) (G.cut m) n=some b->cg h G n=some b:=λn b hb=>by
  obtain⟨B,hB,hb⟩:=m7 hb;obtain⟨_,B',h1,rfl,_⟩:=eN n B hB;rw[dP h1,<-hb];cases B'<;>rfl
 refine⟨by simp [Gh.cut];omega,hi.z,hi.S,λn B hB=> ?_,λi j b h1 h2=>hi.inj i j b (dV i b h1) (dV j b h2),hi.gl⟩;obtain⟨hn,B',h1,rfl,zJ⟩:=eN n B hB;have eB:=hi.dv n B' h1;cases B' with
 |gone=>trivial
 |front e k len=>exact eB
 |map kv=>exact eB
 |vec e k cs=>
  obtain⟨c1,c2,c3,c4⟩:=eB;refine⟨by rw[arD];exact c1,by rw[arD];exact c2,λc hc=> ?_,?_⟩
  ·obtain⟨x,hx,rfl⟩:=List.mem_map.1 hc;rw[arD];exact c3 x hx
  ·rcases c4 with⟨d1,d2,A,d3⟩|⟨g,cap,cur,d1,d2,d3,d4,d5,d6,d7,d8,d9⟩
   ·exact .inl ⟨d1,by rw[d2];rfl,A,d3⟩
   ·refine .inr ⟨g,cap,cur,d1,by rw[arD];exact d2,d3,d4,by rw[arD];exact d5,d6,d7,d8,λi j c x u hc hx hu=> ?_⟩;simp only[ao.bG,ao.aQ,arY]at zJ;rw[arF]at hc;cases hy:cs[i]? with
    |none=>rw[hy]at hc;cases hc
    |some y=>
     rw[hy]at hc;cases hc
     have hz:=hx;rw[arF]at hx;cases hw:y[j]? with
     |none=>rw[hw]at hx;cases hx
     |some z=>
      rw[hw]at hx;cases hx
      exact((d9 i j y z u hy hw hu).bG m).cut (zJ _ (List.mem_map.2 ⟨y,arL hy,rfl⟩) _ (arL hz))
 |cells cs=>
  obtain⟨c1,c2,vs,T,c3,c4,c5⟩:=eB;refine⟨c1,c2,vs,T,c3,by rw[arD];exact c4,λi u c hu hc=> ?_⟩;have lB:=arL hc;rw[arF]at hc;cases hx:cs[i]? with
  |none=>rw[hx]at hc;cases hc
  |some x=>
   rw[hx]at hc;cases hc
   exact((c5 i u x hu hx).bG m).cut (arY.1 zJ _ lB)
 |lp ls p as bd cs=>
  obtain⟨c1,c2,fn,vs,T,c3,c4,c5⟩:=eB;refine⟨c1,c2,fn,vs,T,c3,by rw[arD];exact c4,λi u c hu hc=> ?_⟩;have lB:=arL hc;rw[arF]at hc;cases hx:cs[i]? with
  |none=>rw[hx]at hc;cases hc
  |some x=>
   rw[hx]at hc;cases hc
   exact((c5 i u x hu hx).bG m).cut (arY.1 zJ _ lB)
 |it sn cs=>
  obtain⟨c1,c2,fn,vs,T,c3,c4,c5⟩:=eB;refine⟨c1,c2,fn,vs,T,c3,by rw[arD];exact c4,λi u c hu hc=> ?_⟩;have lB:=arL hc;rw[arF]at hc;cases hx:cs[i]? with
  |none=>rw[hx]at hc;cases hc
  |some x=>
   rw[hx]at hc;cases hc
   exact((c5 i u x hu hx).bG m).cut (arY.1 zJ _ lB)
theorem p5(N:Nat)(G:Gh)(w:ass)(m:Nat):b7 N G w (G.cut m) w:=
 ⟨arJ _,λ_ _ h=>h,λ_ _ _=>rfl,λ_ _=>rfl,λ_ _=> .inl ⟨rfl,rfl⟩,zsame rfl,λ_ _=>rfl,rfl,rfl,rfl,λ_ _ h=> .inl h⟩
section
variable {P:asq} {r:asp Nat} {n N0:Nat} {G:Gh} {w:ass} {a:Act} {s:St} {o:Oper} {Q:Exit->St->Prop}
theorem cN.mask(hs:cN G w a s){live:asn Nat}{m:Nat}(h:s.AA live m):cN (G.cut m) w a (s.mask live m):=by
 obtain⟨h1,h2,h3⟩:=h;refine⟨hs.size,λi=> ?_,OU hs.inv h1 h3,hs.df⟩;show aJ _ _ _ (bw (live.map λk=>(k,(bw s.t k).bG m)) i);rw[rz (λk=>(bw s.t k).bG m)];split
 ·rename_i hi
  exact((hs.tmp i).bG m).cut (arY.1 h2 i hi)
 ·exact .dead _
theorem Uv{c:Code}{ι:Type}(live:asn Nat)(m:Nat)(st:ι->St)(I:ι->Prop)(μ:ι->Nat)(i0:ι)(hm:N0<=m)(cf:s.AA live m)(h0:s.mask live m=st i0)(hI:I i0)
 (round:∀i,I i->bJ P r N0 c (ik (λs'=>s'.AA live m/\∃i',s'.mask live m=st i'/\I i'/\μ i'<μ i) Q) (st i)):bJ P r N0 (.loop c) Q s:=by
 constructor
 intro G w a n hs _;refine SL (λ(i:ι) a' w'=>∃G',I i/\b7 N0 G w G' w'/\N0<=G'.N/\cN G' w' a' (st i)) μ i0 ⟨G.cut m,hI,p5 _ _ _ _,hm,h0▸hs.mask cf⟩ ?_;rintro i a' w' ⟨G',hi,hE,hN,ct⟩;refine wpIn_mono ((round i hi).run G' w' a' n ct hN) λe a1 w1 hn=> ?_;obtain⟨G1,s1,j9,gd,eQ,hq⟩:=hn;cases e with
 |normal=>
  obtain⟨am0,i',h1,h2,h3⟩:=hq;exact⟨i',⟨G1.cut m,h2,(hE.trans j9).trans (p5 _ _ _ _),hm,h1▸eQ.mask am0⟩,h3⟩
 |_=>exact⟨G1,s1,hE.trans j9,gd,eQ,hq⟩
def nr(P:asq)(s:St):asn ResultVar->(asn AV->Prop)->Prop
 |[],C=>C []
 | .tmp t::l,C=>nr P s l λxs=>C (bw s.t t::xs)
 | .cell p t::l,C=>oK P t s.h (bw s.t p) λx=>nr P s l λxs=>C (x::xs)
def jK:asn AV->AV
 |[x]=>x
 |l=> .aX l
def rK(P:asq)(fn:Func)(m:Nat)(K:AV->asn ao->Prop)(s:St):Prop:=
 nr P s fn.results.toList λl=>m<=s.h.length/\((jK l).bG m).aQ m=true/\(((s.h.take m).map (ao.bG m)).all (ao.aQ m))=true/\K ((jK l).bG m) ((s.h.take m).map (ao.bG m))
def Mu(P:asq)(fn:Func)(m:Nat)(K:AV->asn ao->Prop):Exit->St->Prop
 | .normal,s=>rK P fn m K s
 | .ret,s=>rK P fn m K s
 |_,_=>False
theorem afa{C:asn AV->Prop}(hs:cN G w a s)(g:ResultVar->Sem asr)(hg1:∀t,g (.tmp t)=pure (a.tmps.getD t undef))(Dj:∀p t,g (.cell p t)=(do loadVar t (<-asAddr (a.tmps.getD p undef)))):
 ∀(l:asn ResultVar),nr P s l C->∃(vs:asn asr)(xs:asn AV),(l.mapM g).run P w= .ok vs w/\vs.length=xs.length/\(∀(i:Nat)(u:asr)(c:AV),vs[i]?=some u->xs[i]?=some c->aJ G w u c)/\C xs:=by
 intro l
 induction l generalizing C with
 |nil=>exact λh=>⟨[],[],by simp,rfl,λi u c hu=>by simp at hu,h⟩
 |cons x l ih=>
  intro h;cases x with
  |tmp t=>
   obtain⟨vs,xs,h1,h2,h3,h4⟩:=ih h;refine⟨a.tmps.getD t undef::vs,bw s.t t::xs,by simp only[List.mapM_cons,hg1,Sem.run_bind,Sem.run_pure,Result.andThen_ok,h1],by simp [h2],λi u c hu hc=> ?_,h4⟩
   match i with
   |0=>simp only[List.getElem?_cons_zero,Option.some.injEq]at hu hc;subst hu;subst hc;exact hs.tmp t
   |i+1=>exact h3 i u c (by simpa using hu) (by simpa using hc)
  |cell p t=>
   obtain⟨u0,x0,r1,r2,r3⟩:=adT (P:=P) hs.inv (hs.tmp p) h;obtain⟨vs,xs,h1,h2,h3,h4⟩:=ih r3;have hv:=hs.tmp p;have e:∃ad,a.tmps.getD p undef= .pointer (some ad):=by
    have h':oK P t s.h (bw s.t p) λx=>nr P s l λxs=>C (x::xs):=h;generalize a.tmps.getD p undef=v at hv r1;generalize bw s.t p=y at hv h';cases hv with
    |ptr=>exact⟨_,rfl⟩
    |bP=>exact⟨_,rfl⟩
    |_=>exact(show False from h').elim
   obtain⟨ad,e⟩:=e;rw[e]at r1;have r1':(loadVar t ad).run P w= .ok u0 w:=by simpa [Instr.loadAt,Instr.sureAddr]using r1
   have ha:(asAddr (a.tmps.getD p undef)).run P w= .ok ad w:=by rw[e];rfl
   refine⟨u0::vs,x0::xs,by simp only[List.mapM_cons,Dj,Sem.run_bind,Sem.run_pure,Result.andThen_ok,h1,ha,r1'],by simp [h2],λi u c hu hc=> ?_,h4⟩
   match i with
   |0=>simp only[List.getElem?_cons_zero,Option.some.injEq]at hu hc;subst hu;subst hc;exact r2
   |i+1=>exact h3 i u c (by simpa using hu) (by simpa using hc)
theorem aeh:∀(vs:asn asr)(xs:asn AV),vs.length=xs.length->(∀(i:Nat)(u:asr)(c:AV),vs[i]?=some u->xs[i]?=some c->aJ G w u c)->aJ G w (if h:vs.toArray.size=1 then vs.toArray[0]else .tuple vs.toArray) (jK xs)
 |[v],[x],_,h=>h 0 v x rfl rfl
 |[],[],_,_=> .aX _ _ rfl λi u c hu=>by simp at hu
 |v::u::vs,x::y::xs,hl,h=>by
  have:¬(v::u::vs).toArray.size=1:=by simp
  rw[dif_neg this];exact .aX _ _ (by simpa using hl) λi p q hp hq=>h i p q (by simpa using hp) hq
 |[],_::_,hl,_=>by simp at hl
 |_::_,[],hl,_=>by simp at hl
 |[_],_::_::_,hl,_=>by simp at hl
 |_::_::_,[_],hl,_=>by simp at hl
theorem apl{fn:Func}{m:Nat}{K:AV->asn ao->Prop}(hs:cN G w a s)(h:rK P fn m K s):∃v G' r h',(results fn a.tmps).run P w= .ok v w/\b7 N0 G w G' w/\m<=G'.N/\b9 G' w h'/\aJ G' w v r/\K r h':=by
 obtain⟨g,hg⟩:∃g:ResultVar->Sem asr,results fn a.tmps=(do let vs <-fn.results.mapM g;pure (if h:vs.size=1 then vs[0]else .tuple vs))/\(∀t,g (.tmp t)=pure (a.tmps.getD t undef))/\(∀p t,g (.cell p t)=(do loadVar t (<-asAddr (a.tmps.getD p undef)))):=
  ⟨_,rfl,λ_=>rfl,λ_ _=>rfl⟩
 obtain⟨vs,xs,h1,h2,h3,h4,h5,h6,h7⟩:=afa hs g hg.2.1 hg.2.2 fn.results.toList h;have hr:(results fn a.tmps).run P w= .ok (if h:vs.toArray.size=1 then vs.toArray[0]else .tuple vs.toArray) w:=by
  rw[hg.1,Sem.run_bind,Array.mapM_eq_mapM_toList];have e:∀X:Sem (asn asr),(Functor.map List.toArray X:Sem _)=X>>=λl=>pure l.toArray:=λ_=>rfl;rw[e,Sem.run_bind,h1];rfl
 have hv:=aeh vs xs h2 h3;exact⟨_,G.cut m,_,_,hr,p5 _ _ _ _,arJ _,OU hs.inv h4 h6,(hv.bG m).cut h5,h7⟩
theorem zZ{f:FuncId}{fn:Func}{c:Code}{args:asn AV}{h:asn ao}{K:AV->asn ao->Prop}(m:Nat)(hf:P.funcs[f]?=some fn)(hb:fn.body=some c)(hn:(fn.name== "runtime.NumGoroutine")=false)(hm:h.length<=m)
 (hw:bJ P none h.length c (Mu P fn m K) {n:=args.length+(fn.ntmps-args.length),t:=mg 0 args,h:=h}):cG P f args h K:=by
 refine⟨by unfold I6;rw[hf];simp [hb];simpa using hn,λG w vs hi hl hr=> ?_⟩;refine callsIn_wide (n:=8).1 (callsIn_of_wp_marks (F:=Fence.wide) hf hb trivial ?_);have hs:cN {G with M:=w.heap.size} w {tmps:=vs++Array.replicate (fn.ntmps-vs.size) undef,defers:=[]} {n:=args.length+(fn.ntmps-args.length),t:=mg 0 args,h:=h}:=by
  refine⟨by simp [hl],λi=> ?_,hi.zm G.Z _ (λ_ h=>h) (arJ _),rV.nil _ _⟩;show aJ _ _ _ (bw (mg 0 args) i);rw[Oh];simp only[Nat.zero_le,if_true,Nat.sub_zero];cases hx:args[i]? with
  |none=>exact .dead _
  |some x=>
   have aS:i<vs.size:=by rw[hl];exact(ary.1 hx).1
   have:(vs++Array.replicate (fn.ntmps-vs.size) undef).getD i undef=vs[i]:=by
    simp [Array.getElem?_append_left aS,arU aS]
   simp only[this,Option.getD_some];exact(hr i _ x (arU aS) hx).zm G.Z _
 refine wpIn_mono (hw.run _ w _ 8 hs (by rw[hi.len];exact arJ _)) λe a' w' hn=> ?_;obtain⟨G1,s1,hE,gd,eQ,hq⟩:=hn;have key:rK P fn m K s1->LeavesInM Fence.wide 8 P fn a'.tmps (λe w'=>∃v G' r h',e= .returned v/\b7 G.N G w G' w'/\G.N<=G'.N/\b9 G' w' h'/\aJ G' w' v r/\K r h') a'.defers .returning w':=λhq=>by
  obtain⟨w2,G2,k1,k2,k3,k4⟩:=ag7 hE gd hi.z hi.gl.2 eQ;obtain⟨v,G',r,h',r1,r2,r3,r4,r5,r6⟩:=apl (N0:=h.length) k4 hq;exact k1 _ _ _ _ _ ⟨v,r1,v,G',r,h',rfl,by rw[<-hi.len];exact k2.trans r2,by rw[<-hi.len];exact arQ hm r3,r4,r5,r6⟩
 cases e with
 |normal=>exact key hq
 |ret=>exact key hq
 |_=>exact hq.elim
end
end Go.Proofs.YtdchibpnjpnkoaaGreatDoor
namespace Go.Proofs.YtdchibpnjpnkoaaGreatDoor
open Go.RowKit
section
variable {P:asq} {r:asp Nat} {N0:Nat} {s:St} {Q:Exit->St->Prop}
end
theorem cG.frame{P:asq}{f:FuncId}{args:asn AV}{K:AV->Prop}(hc:cG P f args [] λr h=>h=[]/\K r)(ha:args.all (AV.aQ 0)=true)(hK:∀r,K r->r.aQ 0=true)(h:asn ao):
 cG P f args h λr h'=>h'=h/\K r:=by
 refine⟨hc.1,λG w vs hi hl hr=> ?_⟩;have sC:b9 {G with N:=0,Z:=λb=>b<w.heap.size} w []:=⟨rfl,λb hb=>hb,hi.S,λn B hB=>by simp at hB,λm n b h1=>by simp [cg]at h1,hi.gl⟩;refine(hc.2 {G with N:=0,Z:=λb=>b<w.heap.size} w vs sC hl λi u c hu hx=> ?_).mono λe w' hp=> ?_
 ·have:=(hr i u c hu hx).cut (arY.1 ha c (arL hx));clear hc;generalize hG:({G with N:=0,Z:=λb=>b<w.heap.size}:Gh)=G0;have e:∀{v y},aJ (G.cut 0) w v y->aJ G0 w v y:=by
   intro v y hv;subst hG
   induction hv with
   |agg vs cs hl _ ih=>exact .agg vs cs hl ih
   |aX vs cs hl _ ih=>exact .aX vs cs hl ih
   |fn f vs cs hl _ ih=>exact .fn f vs cs hl ih
   |own n xs h hp hle hf=>exact absurd h (ar0 _)
   |ptr n off h=>exact absurd h (ar0 _)
   |row n off len cap k h hl hm=>exact absurd h (ar0 _)
   |mp n h=>exact absurd h (ar0 _)
   |dc n h=>exact absurd h (ar0 _)
   |vec n o len L k h=>exact absurd h (ar0 _)
   |dx n i j L k h=>exact absurd h (ar0 _)
   |hid h h1=>exact .hid h h1
   |d h=>exact .d h
   |bP xs i off b o u x hx hS hu=>exact .bP xs i off b o u x hx hS hu
   |full xs hp hf=>exact .full xs hp hf
   |dead u=>exact .dead u
  exact e this
 ·obtain⟨v,G',r,h',rfl,hE,hN,dN,hv,rfl,hk⟩:=hp;have arw:G'.N=0:=dN.len.symm;have fX:∀b o,G'.S b o->G.S b o\/w.heap.size<=b:=λb o hs=>(hE.new b o hs).imp id Nat.le_of_not_lt;have kA:b7 G.N G w {G with S:=G'.S} w':=
   ⟨hE.size,hE.S,hE.cell,λ_ _=>rfl,λ_ _=> .inl ⟨rfl,rfl⟩,zsame rfl,λb hb=>hE.old b (hi.z b hb),hE.os,hE.tape,hE.output,λb o hs=>(fX b o hs).imp id λkG hz=>by have:=hi.z b hz;omega⟩
  refine⟨v,{G with S:=G'.S},r,h,rfl,kA,arJ _,⟨hi.len,λb hb=>arW (hi.z b hb) hE.size,dN.S,λn B hB=> ?_,λm n b h1 h2=>hi.inj m n b h1 h2,hi.gl.bj kA⟩,?_,rfl,hk⟩
  ·refine eu.bj (hi.lt hB) kA (arJ _) ⟨rfl,rfl,rfl⟩ (λb hb=> ?_) (hi.dv n B hB);have aS:=hi.jq (n:=n) (b:=b) ((dP hB).trans hb);refine⟨hE.old _ aS,λo k8 hs=> ?_⟩;rcases fX _ o hs with hs|hs
   ·exact k8 hs
   ·omega
  ·have hr:=hK r hk;clear hk kA
   induction hv with
   |agg vs cs hl _ ih=>
    rw[AV.aQ,nR,arY]at hr;exact .agg vs cs hl λi u c hu hc=>ih i u c hu hc (hr c (arL hc))
   |aX vs cs hl _ ih=>
    rw[AV.aQ,nR,arY]at hr;exact .aX vs cs hl λi u c hu hc=>ih i u c hu hc (hr c (arL hc))
   |fn f vs cs hl _ ih=>
    rw[AV.aQ,nR,arY]at hr;exact .fn f vs cs hl λi u c hu hc=>ih i u c hu hc (hr c (arL hc))
   |own n xs h hp hle hf=>simp [AV.aQ,cp]at hr
   |ptr n off h=>simp [AV.aQ,cp]at hr
   |row n off len cap k h hl hm=>simp [AV.aQ,cp]at hr
   |mp n h=>simp [AV.aQ,cp]at hr
   |dc n h=>simp [AV.aQ,cp]at hr
   |vec n o len L k h=>simp [AV.aQ,cp]at hr
   |dx n i j L k h=>simp [AV.aQ,cp]at hr
   |hid h h1=>exact .hid h h1
   |d h=>exact .d h
   |bP xs i off b o u x hx hS hu=>exact .bP xs i off b o u x hx hS hu
   |full xs hp hf=>exact .full xs hp hf
   |dead u=>exact .dead u
def gD(P:asq)(f:FuncId)(args:asn AV)(K:AV->Prop):Prop:=cG P f args [] λr h=>h=[]/\K r
theorem gD.use{P:asq}{f:FuncId}{args:asn AV}{r:AV}{h:asn ao}{C:AV->asn ao->Prop}(hc:gD P f args (·=r))(ha:args.all (AV.aQ 0)=true)(hr:r.aQ 0=true)(hC:C r h):cG P f args h C:=
 (hc.frame ha (λ_ e=>e▸hr) h).mono λ_ _ ⟨e1,e2⟩=>by subst e1;subst e2;exact hC
def akz:asn FuncId:=[35,62,96,97,98]
def pv:Operand->Bool
 | .func g=>akz.any (·==g)
 |_=>false
def cu(o:Oper):Nat:=
 match o.op with
 | .move _| .assign _| .pick .. | .nilCheck _| .fieldAddr .. | .field .. | .indexAddr .. | .index .. | .build .. | .buildSlice .. | .slice .. | .extract .. | .makeFunc .. | .binOp .. | .unOp .. | .convert .. =>0
 | .load .. | .lookup .. =>1
 | .alloc _| .box .. =>2
 | .store .. | .makeMap .. | .mapUpdate .. =>3
 | .call c=>match c.callee with
   | .builtin .len| .builtin .max| .builtin .min=>0
   | .builtin .append=>5
   | .value f=>bif pv f then 6 else 4
   |_=>9
 |_=>9
def adB(P:asq)(g:FuncId)(args:asn AV)(h:asn ao)(C:AV->Prop):Prop:=∃r,C r/\∀e,cG P g args (h++e) λr' h'=>r'=r/\h'=h++e
def CD(P:asq)(o:Oper)(K:St->Prop)(s:St):Prop:=
 match o.op with
 | .call c=>match c.callee with
   | .value f=>match ev s f with
     | .fn g dF=>adB P g (c.args.toList.map (ev s)++dF) s.h λr=>K (s.put o.dst r)
     | .hid q=>∃g cs,q= .fn g cs/\adB P g (c.args.toList.map (ev s)++cs.map iq.av) s.h λr=>K (s.put o.dst r)
     |_=>False
   |_=>qH P o K s
 |_=>qH P o K s
def jN(o:Oper):Bool:=
 match o.op with
 | .indexAddr .. | .fieldAddr .. | .nilCheck .. | .load .. | .store .. =>true
 | .call c=>match c.callee with
   | .builtin .len=>true
   |_=>false
 |_=>false
def pj(m:Bool)(o:Oper):Bool:=m&&match o.op with
 | .call c=>match c.callee with
   | .value (.tmp _)=>true
   |_=>false
 |_=>false
def CT(m:Bool)(P:asq)(o:Oper)(K:St->Prop)(s:St):Prop:=
 CD P o K s\/(pj m o=true/\∃x h1,K ((s.wh h1).put o.dst x)/\∀C:AV->asn ao->Prop,C x h1->cC P o (ev s) s.h C)\/(jN o=true/\JP P o K s)\/(cu o=6/\∃x e0,K ((s.wh (s.h++e0)).put o.dst x)/\∀C:AV->asn ao->Prop,C x (s.h++e0)->cC P o (ev s) s.h C)
def jn(P:asq)(o:Oper)(ρ:Operand->AV)(h:asn ao)(C:AV->asn ao->Prop):Prop:=
 cC P o ρ h C\/(jN o=true/\∃a x h' p,iS P o.op ρ h a=some (x,h',p)/\p/\C x h')
def wc(m:Bool)(P:asq)(ops:Array Oper):asn Oper->(St->Prop)->St->Prop
 |[],K,s=>K s
 |o::rest,K,s=>jy ops o s (CT m P o (wc m P ops rest K) s) (wc m P ops rest K (s.put o.dst (.d (.v undef))))
abbrev WX(P:asq)(o:Oper)(K:St->Prop)(s:St):Prop:=CT false P o K s
abbrev G9(P:asq)(ops:Array Oper)(l:asn Oper)(K:St->Prop)(s:St):Prop:=wc false P ops l K s
section
variable {P:asq} {o:Oper} {ρ ρ':Operand->AV} {h:asn ao} {C:AV->asn ao->Prop}
theorem PH(x:asp Operand)(hx:∀y∈x.toArray,ρ y=ρ' y)(d:Nat)(F:Nat->Prop):jH ρ x d F=jH ρ' x d F:=by
 cases x with
 |none=>rfl
 |some y=>simp only[jH,hx y (by simp)]
theorem aoU(hρ:∀x∈o.op.operands,ρ x=ρ' x):cC P o ρ h C=cC P o ρ' h C:=by
 obtain⟨dst,op,type,pos,after,guard⟩:=o;have abR:∀ps:Array (Nat×Operand),(∀x∈ps.map (·.2),ρ x=ρ' x)->(ps.toList.map λp=>(p.1,ρ p.2))=(ps.toList.map λp=>(p.1,ρ' p.2)):=λps hp=>
  ar3 λp hm=>by rw[hp p.2 (Array.mem_map.2 ⟨p,Array.mem_toList_iff.1 hm,rfl⟩)]
 have gz:∀l:Array Operand,(∀x∈l,ρ x=ρ' x)->l.toList.map ρ=l.toList.map ρ':=λl hl=>ar3 λx hm=>hl x (Array.mem_toList_iff.1 hm);cases op with
 |build t ps=>simp only[cC,abR ps λx hx=>hρ x (by simpa [Op.operands]using hx)]
 |buildSlice t n ps=>simp only[cC,abR ps λx hx=>hρ x (by simpa [Op.operands]using hx)]
 |makeFunc fn first captured=>
  cases fn with
  |func f=>simp only[cC,gz captured λx hx=>hρ x (by simp [Op.operands,hx])]
  |_=>rfl
 |slice t x lo hi mx=>
  have e1:ρ x=ρ' x:=hρ x (by simp [Op.operands]);have e2:=λd F=>PH (ρ:=ρ) (ρ':=ρ') lo (λy hy=>hρ y (by simp at hy;simp [Op.operands,hy])) d F;have e3:=λd F=>PH (ρ:=ρ) (ρ':=ρ') hi (λy hy=>hρ y (by simp at hy;simp [Op.operands,hy])) d F;have e4:=λd F=>PH (ρ:=ρ) (ρ':=ρ') mx (λy hy=>hρ y (by simp at hy;simp [Op.operands,hy])) d F;cases lo<;>cases hi<;>cases mx<;>simp only[cC,vS,e1,e2,e3,e4]
 |call c=>
  have ha:c.args.toList.map ρ=c.args.toList.map ρ':=gz c.args λx hx=>hρ x (by simp [Op.operands,Call.operands,hx]);have hm:∀x,x∈c.args.toList->ρ x=ρ' x:=λx hx=>hρ x (by simp [Op.operands,Call.operands];right;exact Array.mem_toList_iff.1 hx);cases hc:c.callee with
  |value f=>
   have hf:ρ f=ρ' f:=hρ f (by simp [Op.operands,Call.operands,hc]);simp only[cC,hc,hf,ha]
  |invoke=>simp only[cC,hc]
  |builtin b=>
   cases b with
   |len=>
    simp only[cC,hc];split
    ·rename_i x _ heq _
     rw[hm x (by rw[heq];simp)]
    ·rfl
   |append=>
    simp only[cC,hc];split
    ·rename_i x y _ _ heq _
     rw[hm x (by rw[heq];simp),hm y (by rw[heq];simp)]
    ·rfl
   |max=>simp only[cC,hc,ha]
   |min=>simp only[cC,hc,ha]
   |_=>simp only[cC,hc]
 |makeMap t r=>cases r<;>rfl
 |lookup t a b ok=>simp only[cC,pG,hρ a (by simp [Op.operands]),hρ b (by simp [Op.operands])]
 |mapUpdate t a b c=>simp only[cC,pG,hρ a (by simp [Op.operands]),hρ b (by simp [Op.operands]),hρ c (by simp [Op.operands])]
 |pick c a b=>simp only[cC,hρ c (by simp [Op.operands]),hρ a (by simp [Op.operands]),hρ b (by simp [Op.operands])]
 |store t a b=>simp only[cC,hρ a (by simp [Op.operands]),hρ b (by simp [Op.operands])]
 |binOp op t a b u=>simp only[cC,hρ a (by simp [Op.operands]),hρ b (by simp [Op.operands])]
 |indexAddr t a b=>simp only[cC,hρ a (by simp [Op.operands]),hρ b (by simp [Op.operands])]
 |index t a b=>simp only[cC,hρ a (by simp [Op.operands]),hρ b (by simp [Op.operands])]
 |move a|assign a|box t a|load t a|nilCheck a|fieldAddr t a f|field t a f|extract a i|unOp op t a|convert t u a=>simp only[cC,hρ a (by simp [Op.operands])]
 |_=>rfl
theorem aft(hv:jN o=true)(hρ:∀x∈o.op.operands,ρ x=ρ' x)(a:VA):iS P o.op ρ h a=iS P o.op ρ' h a:=by
 obtain⟨dst,op,type,pos,after,guard⟩:=o;cases op with
 |store t a b=>simp only[iS,hρ a (by simp [Op.operands]),hρ b (by simp [Op.operands])]
 |indexAddr t a b=>simp only[iS,hρ a (by simp [Op.operands]),hρ b (by simp [Op.operands])]
 |load t a|nilCheck a|fieldAddr t a f=>simp only[iS,hρ a (by simp [Op.operands])]
 |call c=>
  have hm:∀x,x∈c.args.toList->ρ x=ρ' x:=λx hx=>hρ x (by simp [Op.operands,Call.operands];right;exact Array.mem_toList_iff.1 hx);cases hc:c.callee with
  |builtin b=>
   cases b with
   |len=>
    simp only[iS,hc];split
    ·rename_i x _ heq _
     rw[hm x (by rw[heq];simp)]
    ·rfl
   |_=>simp [jN,hc]at hv
  |_=>simp [jN,hc]at hv
 |_=>simp [jN]at hv
theorem TI(hρ:∀x∈o.op.operands,ρ x=ρ' x):jn P o ρ h C=jn P o ρ' h C:=by
 unfold jn;rw[aoU hρ];by_cases hv:jN o=true
 ·simp only[aft hv hρ]
 ·simp only[hv,Bool.false_eq_true,false_and]
end
def ai3:ao->Bool
 | .cells _| .map _| .vec .. =>true
 |_=>false
def nD:asp ao->asp (Nat×Nat)
 |some (.vec _ k cs)=>some (k,cs.length)
 |_=>none
def iQ(h h':asn ao):Prop:=∀(m:Nat)(q:Nat×Nat),nD h[m]?=some q->nD h'[m]?=some q
def iJ(h h':asn ao):Prop:=∀m:Nat,nD h[m]?=nD h'[m]?
theorem iJ.i{h h':asn ao}(e:iJ h h'):iQ h h':=λm q hq=>by rw[<-e m];exact hq
theorem iJ.j{h h':asn ao}(e:iJ h h'):iQ h' h:=λm q hq=>by rw[e m];exact hq
theorem iQ.refl(h:asn ao):iQ h h:=λ_ _ e=>e
theorem iQ.trans{a b c:asn ao}(x:iQ a b)(y:iQ b c):iQ a c:=λm q e=>y m q (x m q e)
theorem iQ.app(h e:asn ao):iQ h (h++e):=λm q hq=>by
 by_cases hl:m<h.length
 ·rw[arI hl];exact hq
 ·rw[ar4 (by omega)]at hq;cases hq
theorem iJ.app{h:asn ao}{B:ao}(hB:nD (some B)=none):iJ h (h++[B]):=λm=>by
 by_cases hl:m<h.length
 ·rw[arI hl]
 ·rw[arO (by omega),ar4 (by omega:h.length<=m)];by_cases h0:m-h.length=0
  ·rw[h0];exact hB.symm
  ·rw[ar4 (by simp;omega)]
theorem iJ.set{h:asn ao}{n:Nat}{B B':ao}(hn:h[n]?=some B)(hB:nD (some B)=nD (some B')):iJ h (h.set n B'):=λm=>by
 by_cases e:n=m
 ·subst e;rw[ar1 (ary.1 hn).1,hn];exact hB
 ·rw[ar6 e]
def iV(h h':asn ao):Prop:=∀(n:Nat)(B:ao),h[n]?=some B->ai3 B=true->h'[n]?=some B
theorem iV.app(h e:asn ao):iV h (h++e):=λn cs hn _=>by
 rw[arI (ary.1 hn).1];exact hn
theorem iV.refl(h:asn ao):iV h h:=λ_ _ hn _=>hn
theorem ajB{P:asq}{ρ:Operand->AV}{h h1:asn ao}{T:TypeId}{m i:Operand}{ok:Bool}{x:AV}{p:Sd}(hx:pG P (.lookup T m i ok) ρ h=some (x,h1,p)):h1=h/\∀h',iV h h'->pG P (.lookup T m i ok) ρ h'=some (x,h',p):=by
 simp only[pG]at hx ⊢;split at hx
 ·next k e hT=>
  split at hx
  ·next z hz=>
   split at hx
   ·next b s' hm hi=>
    split at hx
    ·next kv hn=>
     cases hc:hY P k&&z.oneCell' with
     |false=>rw[hc]at hx;cases hx
     |true=>
      rw[hc]at hx;cases hx
      refine⟨rfl,λh' hh=> ?_⟩;rw[hh b _ hn rfl];simp only[cond_true]
    ·cases hx
   ·cases hx
  ·cases hx
 ·cases hx
theorem W3{h:asn ao}{n e k:Nat}{cs:asn (asn AV)}(hn:h[n]?=some (.vec e k cs)):nD h[n]?=some (k,cs.length):=by rw[hn];rfl
theorem adr{h:asn ao}{n k l:Nat}(hq:nD h[n]?=some (k,l)):∃e cs,h[n]?=some (.vec e k cs)/\cs.length=l:=by
 unfold nD at hq;split at hq
 ·next e k' cs e1=>cases hq;exact⟨e,cs,e1,rfl⟩
 ·cases hq
theorem aht{P:asq}{o:Oper}{ρ:Operand->AV}{h h1:asn ao}{a:VA}{x:AV}{p:Prop}(hv:jN o=true)(hk:cu o=0)(hx:iS P o.op ρ h a=some (x,h1,p))(hp:p):h1=h/\∀h',iQ h h'->∃p',iS P o.op ρ h' a=some (x,h',p')/\p':=by
 obtain⟨dst,op,type,pos,after,guard⟩:=o;cases op with
 |indexAddr T y i=>
  simp only[iS]at hx ⊢;split at hx
  ·next n o len L k z e k' i' e1 e2 e3=>
   split at hx
   ·next e4 k2 cs hn=>
    obtain⟨hb,he⟩:=mF hx;cases he
    rw[arA,beq_iff_eq,beq_iff_eq]at hb;obtain⟨rfl,rfl⟩:=hb;refine⟨rfl,λh' hh=> ?_⟩;obtain⟨e5,cs5,q1,q2⟩:=adr (hh n _ (W3 hn));simp only[q1,ash,Bool.and_self,cond_true];exact⟨_,rfl,by rw[q2];exact hp.1,hp.2⟩
   ·cases hx
  ·cases hx
 |fieldAddr T y f=>
  simp only[iS]at hx ⊢;split at hx
  ·next e1 e2=>cases hx;exact⟨rfl,λh' _=>⟨_,rfl,trivial⟩⟩
  ·cases hx
 |nilCheck y=>
  simp only[iS]at hx ⊢;split at hx
  ·next e1=>cases hx;exact⟨rfl,λh' _=>⟨_,rfl,trivial⟩⟩
  ·cases hx
 |call c=>
  cases hc:c.callee with
  |builtin b=>
   cases b with
   |len=>
    simp only[iS,hc]at hx ⊢;split at hx
    ·split at hx
     ·next n o len L k e1=>
      split at hx
      ·next e2 k2 cs hn=>
       obtain⟨hb,he⟩:=mF hx;cases he
       rw[arA,beq_iff_eq]at hb;obtain⟨kp,rfl⟩:=hb;refine⟨rfl,λh' hh=> ?_⟩;obtain⟨e5,cs5,q1,q2⟩:=adr (hh n _ (W3 hn));simp only[q1,kp,ash,Bool.and_self,cond_true];exact⟨_,rfl,by rw[q2];exact hp⟩
      ·cases hx
     ·cases hx
    ·cases hx
   |_=>simp [jN,hc]at hv
  |_=>simp [jN,hc]at hv
 |load t y=>simp [cu]at hk
 |store t y z=>simp [cu]at hk
 |_=>simp [jN]at hv
theorem anU{P:asq}{o:Oper}{ρ:Operand->AV}{h h1:asn ao}{a:VA}{x:AV}{p:Prop}(hv:jN o=true)(hk:cu o=1)(hx:iS P o.op ρ h a=some (x,h1,p))(hp:p):h1=h/\∀h',iV h h'->∃p',iS P o.op ρ h' a=some (x,h',p')/\p':=by
 obtain⟨dst,op,type,pos,after,guard⟩:=o;cases op with
 |load t y=>
  simp only[iS]at hx ⊢;split at hx
  ·next n i j L k c e1=>
   split at hx
   ·next e2 k' cs z hn hz=>
    obtain⟨hb,he⟩:=mF hx;cases he
    refine⟨rfl,λh' hh=> ?_⟩;simp only[hh n _ hn rfl,hz,hb,cond_true];exact⟨_,rfl,hp⟩
   ·cases hx
  ·cases hx
 |indexAddr T y i=>simp [cu]at hk
 |fieldAddr T y f=>simp [cu]at hk
 |nilCheck y=>simp [cu]at hk
 |call c=>
  cases hc:c.callee with
  |builtin b=>cases b<;>simp [cu,hc]at hk
  |value f=>cases mm:pv f<;>simp [cu,hc,mm]at hk
  |invoke=>simp [cu,hc]at hk
 |store t y z=>simp [cu]at hk
 |_=>simp [jN]at hv
theorem anq{P:asq}{o:Oper}{ρ:Operand->AV}{h h1:asn ao}{a:VA}{x:AV}{p:Prop}(hv:jN o=true)(hk:cu o=3)(hx:iS P o.op ρ h a=some (x,h1,p))(hp:p):iJ h h1:=by
 obtain⟨dst,op,type,pos,after,guard⟩:=o;cases op with
 |store t y z=>
  simp only[iS]at hx;split at hx
  ·next n i j L k c cm e1=>
   split at hx
   ·next e k' cs q hn hz=>
    obtain⟨hb,he⟩:=mF hx;cases he
    simp only[arA,beq_iff_eq]at hb;refine iJ.set hn ?_;simp only[nD,List.length_set,hp.2.2,hb.1.1.1.1]
   ·cases hx
  ·cases hx
 |load t y=>simp [cu]at hk
 |indexAddr T y i=>simp [cu]at hk
 |fieldAddr T y f=>simp [cu]at hk
 |nilCheck y=>simp [cu]at hk
 |call c=>
  cases hc:c.callee with
  |builtin b=>cases b<;>simp [cu,hc]at hk
  |value f=>cases mm:pv f<;>simp [cu,hc,mm]at hk
  |invoke=>simp [cu,hc]at hk
 |_=>simp [jN]at hv
def nJ(m:Bool)(o:Oper):Nat:=bif pj m o then 7 else cu o
def eE(m:Bool)(P:asq)(o:Oper)(ρ:Operand->AV)(h:asn ao)(x:AV)(h1:asn ao):Prop:=
 match nJ m o with
 |0=>h1=h/\∀h',iQ h h'->∀C:AV->asn ao->Prop,C x h'->jn P o ρ h' C
 |1=>h1=h/\∀h',iV h h'->∀C:AV->asn ao->Prop,C x h'->jn P o ρ h' C
 |2=>∃B,nD (some B)=none/\x= .ptr h.length 0/\h1=h++[B]/\∀h'(C:AV->asn ao->Prop),C (.ptr h'.length 0) (h'++[B])->jn P o ρ h' C
 |3=>iJ h h1/\∀C:AV->asn ao->Prop,C x h1->jn P o ρ h C
 |4=>h1=h/\∀e(C:AV->asn ao->Prop),C x (h++e)->jn P o ρ (h++e) C
 |5=>(iV h h1/\iV h1 h/\iJ h h1)/\∀C:AV->asn ao->Prop,C x h1->jn P o ρ h C
 |6=>∃e0,h1=h++e0/\∀C:AV->asn ao->Prop,C x h1->jn P o ρ h C
 |7=>∀C:AV->asn ao->Prop,C x h1->jn P o ρ h C
 |_=>False
section
variable {P:asq} {o:Oper} {ρ ρ':Operand->AV} {h:asn ao} {C:AV->asn ao->Prop}
theorem apC{p:AV}{K:asn AV->Nat->Prop}(hp:sA h p K):∃cs off,K cs off/\∀h',iV h h'->∀K':asn AV->Nat->Prop,K' cs off->sA h' p K':=by
 unfold sA at hp ⊢;split at hp
 ·rename_i n off
  split at hp
  ·rename_i cs gx
   refine⟨cs,off,hp,λh' hh K' hk=> ?_⟩;rw[hh n _ gx rfl];exact hk
  ·exact hp.elim
 ·rename_i xs i off
  split at hp
  ·rename_i cs gx
   refine⟨_,off,hp,λh' _ K' hk=> ?_⟩;exact hk
  ·exact hp.elim
 ·exact hp.elim
theorem ahG{t:Nat}{p:AV}{K:AV->Prop}(hp:oK P t h p K):∃x,K x/\∀h',iV h h'->∀K':AV->Prop,K' x->oK P t h' p K':=by
 unfold oK at hp ⊢;obtain⟨cs,off,h1,h2⟩:=apC hp;split at h1
 ·rw[b6]at h1;refine⟨_,h1.2,λh' hh K' jA=>h2 h' hh _ ?_⟩;exact b6.2 ⟨h1.1,jA⟩
 ·split at h1
  ·rename_i c hc
   refine⟨c,h1,λh' hh K' jA=>h2 h' hh _ ?_⟩;simp only[hc];exact jA
  ·exact h1.elim
 ·exact h1.elim
theorem vy{x:asp Operand}{d:Nat}{F:Nat->Prop}(hx:jH ρ x d F):∃m,F m/\∀F':Nat->Prop,F' m->jH ρ x d F':=by
 cases x with
 |none=>exact⟨d,hx,λ_ h=>h⟩
 |some y=>
  simp only[jH]at hx;split at hx
  ·rename_i z hz
   exact⟨_,hx.2,λF' hF=>by simp only[jH,hz];exact⟨hx.1,hF⟩⟩
  ·exact hx.elim
theorem aqi(hk:cu o=0)(hc:cC P o ρ h C):∃x,C x h/\∀h'(C':AV->asn ao->Prop),C' x h'->cC P o ρ h' C':=by
 have vZ:∀(F:(AV->Prop)->Prop),(∀K,F K->∃x,K x/\∀K',K' x->F K')->F (λx=>C x h)->(∀h' C',cC P o ρ h' C'=F (λx=>C' x h'))->∃x,C x h/\∀h'(C':AV->asn ao->Prop),C' x h'->cC P o ρ h' C':=λF hF h0 he=>by
  obtain⟨x,h1,h2⟩:=hF _ h0;exact⟨x,h1,λh' C' dB=>by rw[he];exact h2 _ dB⟩
 obtain⟨dst,op,type,pos,after,guard⟩:=o;cases op with
 |move a=>exact⟨ρ a,hc,λ_ _ h=>h⟩
 |assign a=>exact⟨ρ a,hc,λ_ _ h=>h⟩
 |pick c a b=>
  simp only[cC]at hc;split at hc
  ·rename_i t ht
   cases t with
   |true=>exact⟨ρ a,hc.1 rfl,λh' C' dB=>by simp only[cC,ht];exact⟨λ_=>dB,λe=>by cases e⟩⟩
   |false=>exact⟨ρ b,hc.2 rfl,λh' C' dB=>by simp only[cC,ht];exact⟨λe=>(by cases e),λ_=>dB⟩⟩
  ·exact hc.elim
 |nilCheck a=>
  simp only[cC]at hc;split at hc
  ·rename_i m off e;exact⟨_,hc,λh' C' dB=>by simp only[cC,e];exact dB⟩
  ·rename_i xs i off e;exact⟨_,hc,λh' C' dB=>by simp only[cC,e];exact dB⟩
  ·rename_i f cs e;exact⟨_,hc,λh' C' dB=>by simp only[cC,e];exact dB⟩
  ·exact hc.elim
 |fieldAddr t a f=>
  simp only[cC]at hc;split at hc
  ·rename_i fo k g hf
   split at hc
   ·rename_i m off e;exact⟨_,hc,λh' C' dB=>by simp only[cC,hf,e];exact dB⟩
   ·rename_i xs i off e;exact⟨_,hc,λh' C' dB=>by simp only[cC,hf,e];exact dB⟩
   ·exact hc.elim
  ·exact hc.elim
 |field t a f=>
  refine vZ (xX P t (ρ a) f) (λK hK=> ?_) hc (λ_ _=>rfl);unfold xX at hK ⊢;split at hK
  ·rw[b6]at hK;exact⟨_,hK.2,λK' dW=>b6.2 ⟨hK.1,dW⟩⟩
  ·split at hK
   ·rename_i c j6;exact⟨c,hK,λK' dW=>dW⟩
   ·exact hK.elim
  ·exact hK.elim
 |indexAddr t a b=>
  refine vZ (sq P t (ρ a) (ρ b)) (λK hK=> ?_) hc (λ_ _=>rfl);unfold sq at hK ⊢;split at hK
  ·rename_i e k hT
   split at hK
   ·rename_i n off len cap k'
    split at hK
    ·rename_i z hz
     rw[b6]at hK;obtain⟨h1,h2,h3,h4⟩:=hK;exact⟨_,h4,λK' dW=>b6.2 ⟨h1,h2,h3,dW⟩⟩
    ·exact hK.elim
   ·split at hK
    ·rename_i xs z lK hz
     obtain⟨h0,hK⟩:=hK;split at hK
     ·rename_i c j6
      exact⟨_,hK.2,λK' dW=>⟨h0,hK.1,dW⟩⟩
     ·exact hK.elim
    ·exact hK.elim
  ·split at hK
   ·rename_i n e k b' off z hT hz
    obtain⟨h1,h2,h3⟩:=hK;exact⟨_,h3,λK' dW=>⟨h1,h2,dW⟩⟩
   ·rename_i n e k xs i' off z hT hz
    rw[b6]at hK;obtain⟨h0,h1,h2,h3⟩:=hK;split at h3
    ·rename_i c j6
     split at h3
     ·rename_i d hd
      exact⟨_,h3,λK' dW=>b6.2 ⟨h0,h1,h2,dW⟩⟩
     ·exact h3.elim
    ·exact h3.elim
   ·exact hK.elim
 |index t a b=>
  simp only[cC]at hc;split at hc
  ·rename_i bb z e1 e2
   rw[b6]at hc;obtain⟨h1,h2,h3⟩:=hc;split at h3
   ·rename_i c j6
    exact⟨_,h3,λh' C' dB=>by simp only[cC,e1,e2];exact b6.2 ⟨h1,h2,by simp only[j6];exact dB⟩⟩
   ·exact h3.elim
  ·exact hc.elim
 |build t ps=>
  refine vZ (yQ P t (ps.toList.map λp:Nat×Operand=>(p.1,ρ p.2))) (λK hK=> ?_) hc (λ_ _=>rfl);unfold yQ at hK ⊢;split at hK
  ·split at hK
   ·rename_i cs gx
    rw[b6]at hK;exact⟨_,hK.2,λK' dW=>b6.2 ⟨hK.1,dW⟩⟩
   ·exact hK.elim
  ·exact hK.elim
 |buildSlice t n ps=>
  refine vZ (xo P t n (ps.toList.map λp:Nat×Operand=>(p.1,ρ p.2))) (λK hK=> ?_) hc (λ_ _=>rfl);unfold xo at hK ⊢;split at hK
  ·split at hK
   ·split at hK
    ·rename_i cs gx
     split at hK
     ·rename_i ds uw
      rw[b6]at hK;exact⟨_,hK.2,λK' dW=>b6.2 ⟨hK.1,dW⟩⟩
     ·exact hK.elim
    ·exact hK.elim
   ·exact hK.elim
  ·exact hK.elim
 |slice t a lo hi mx=>
  refine vZ (vS P t ρ (ρ a) lo hi mx) (λK hK=> ?_) hc (λ_ _=>rfl);unfold vS at hK ⊢;split at hK
  ·split at hK
   ·rw[b6]at hK;obtain⟨h0,hK⟩:=hK;obtain⟨m1,hK,j1⟩:=vy hK;obtain⟨h1,hK⟩:=hK;obtain⟨m2,hK,j2⟩:=vy hK;obtain⟨h2,hK⟩:=hK;exact⟨_,hK,λK' dW=>b6.2 ⟨h0,j1 _ ⟨h1,j2 _ ⟨h2,dW⟩⟩⟩⟩
   ·split at hK
    ·rw[b6]at hK;obtain⟨h0,hK⟩:=hK;obtain⟨m1,hK,j1⟩:=vy hK;rw[b6]at hK;obtain⟨h1,hK⟩:=hK;obtain⟨m2,hK,j2⟩:=vy hK;rw[b6]at hK;obtain⟨h2,hK⟩:=hK;exact⟨_,hK,λK' dW=>by rw[b6];exact⟨h0,j1 _ (by rw[b6];exact⟨h1,j2 _ (by rw[b6];exact⟨h2,dW⟩)⟩)⟩⟩
    ·exact hK.elim
   ·split at hK
    ·obtain⟨h0,hK⟩:=hK;obtain⟨m1,hK,j1⟩:=vy hK;obtain⟨h1,hK⟩:=hK;obtain⟨m2,hK,j2⟩:=vy hK;obtain⟨h2,hK⟩:=hK;exact⟨_,hK,λK' dW=>⟨h0,j1 _ ⟨h1,j2 _ ⟨h2,dW⟩⟩⟩⟩
    ·exact hK.elim
  ·split at hK
   ·split at hK
    ·obtain⟨h0,hK⟩:=hK;obtain⟨m1,hK,j1⟩:=vy hK;obtain⟨h1,hK⟩:=hK;obtain⟨m2,hK,j2⟩:=vy hK;obtain⟨h2,hK⟩:=hK;exact⟨_,hK,λK' dW=>⟨h0,j1 _ ⟨h1,j2 _ ⟨h2,dW⟩⟩⟩⟩
    ·exact hK.elim
   ·exact hK.elim
 |extract a i=>
  simp only[cC]at hc;split at hc
  ·rename_i cs e
   split at hc
   ·rename_i c j6;exact⟨c,hc,λh' C' dB=>by simp only[cC,e,j6];exact dB⟩
   ·exact hc.elim
  ·exact hc.elim
 |makeFunc fn first dF=>
  cases fn with
  |func f=>
   simp only[cC]at hc;split at hc
   ·rename_i e;exact⟨_,hc,λh' C' dB=>by simp only[cC,e];exact dB⟩
   ·exact hc.elim
  |_=>exact hc.elim
 |binOp op t a b u=>
  refine vZ (xQ P t op (ρ a) (ρ b)) (λK hK=> ?_) hc (λ_ _=>rfl);unfold xQ at hK ⊢;split at hK
  ·split at hK
   ·rw[b6]at hK;exact⟨_,hK.2.2,λK' dW=>b6.2 ⟨hK.1,hK.2.1,dW⟩⟩
   ·split at hK
    ·exact⟨_,hK.2,λK' dW=>⟨hK.1,dW⟩⟩
    ·split at hK
     ·rw[b6]at hK;exact⟨_,hK.2,λK' dW=>b6.2 ⟨hK.1,dW⟩⟩
     ·exact hK.elim
  ·split at hK
   ·exact⟨_,hK,λK' dW=>dW⟩
   ·split at hK
    ·exact⟨_,hK.2,λK' dW=>⟨hK.1,dW⟩⟩
    ·exact hK.elim
  ·split at hK
   ·rw[b6]at hK;exact⟨_,hK.2,λK' dW=>b6.2 ⟨hK.1,dW⟩⟩
   ·exact hK.elim
  ·split at hK
   ·split at hK
    ·exact⟨_,hK,λK' dW=>dW⟩
    ·exact hK.elim
   ·exact hK.elim
  ·exact hK.elim
 |unOp op t a=>
  refine vZ (yM op (ρ a)) (λK hK=> ?_) hc (λ_ _=>rfl);unfold yM at hK ⊢;split at hK
  ·split at hK
   ·exact⟨_,hK,λK' dW=>dW⟩
   ·exact hK.elim
  ·exact hK.elim
 |convert t u a=>
  refine vZ (yK P t u (ρ a)) (λK hK=> ?_) hc (λ_ _=>rfl);unfold yK at hK ⊢;split at hK
  ·split at hK
   ·exact⟨_,hK,λK' dW=>dW⟩
   ·exact hK.elim
  ·rw[b6]at hK;exact⟨_,hK.2,λK' dW=>b6.2 ⟨hK.1,dW⟩⟩
  ·split at hK
   ·rw[b6]at hK;obtain⟨h1,ns,h2,h3⟩:=hK;exact⟨_,h3,λK' dW=>b6.2 ⟨h1,ns,h2,dW⟩⟩
   ·exact hK.elim
 |call c=>
  simp only[cu]at hk;cases eO:c.callee with
  |value f=>cases mm:pv f<;>simp [eO,mm]at hk
  |invoke=>simp [eO]at hk
  |builtin b=>
   cases b with
   |len=>
    simp only[cC,eO]at hc;split at hc
    ·rename_i x T e1 e2
     have key:∀F:Nat->Prop,tk P T (ρ x) F->∃m,F m/\∀F':Nat->Prop,F' m->tk P T (ρ x) F':=λF hF=>by
      unfold tk at hF ⊢;split at hF
      ·rw[b6]at hF;exact⟨_,hF.2,λF' lq=>b6.2 ⟨hF.1,lq⟩⟩
      ·rw[b6]at hF;exact⟨_,hF.2,λF' lq=>b6.2 ⟨hF.1,lq⟩⟩
      ·split at hF
       ·rw[b6]at hF;exact⟨_,hF.2,λF' lq=>b6.2 ⟨hF.1,lq⟩⟩
       ·exact hF.elim
     obtain⟨m,h1,h2⟩:=key _ hc;exact⟨_,h1,λh' C' dB=>by simp only[cC,eO,e1,e2];exact h2 _ dB⟩
    ·exact hc.elim
   |max=>
    simp only[cC,eO]at hc;split at hc
    ·rename_i e1
     exact⟨_,hc,λh' C' dB=>by simp only[cC,eO,e1];exact dB⟩
    ·exact hc.elim
   |min=>
    simp only[cC,eO]at hc;split at hc
    ·rename_i e1
     exact⟨_,hc,λh' C' dB=>by simp only[cC,eO,e1];exact dB⟩
    ·exact hc.elim
   |_=>simp [eO]at hk
 |_=>simp [cu]at hk
theorem akd(hk:cu o=2)(hc:cC P o ρ h C):∃B,nD (some B)=none/\C (.ptr h.length 0) (h++[B])/\∀h'(C':AV->asn ao->Prop),C' (.ptr h'.length 0) (h'++[B])->cC P o ρ h' C':=by
 obtain⟨dst,op,type,pos,after,guard⟩:=o;cases op with
 |alloc e=>
  simp only[cC]at hc;split at hc
  ·rename_i z hz;exact⟨_,rfl,hc,λh' C' dB=>by simp only[cC,hz];exact dB⟩
  ·exact hc.elim
 |box e x=>
  simp only[cC]at hc;rw[b6]at hc;exact⟨_,rfl,hc.2,λh' C' dB=>by simp only[cC];rw[b6];exact⟨hc.1,dB⟩⟩
 |call c=>
  simp only[cu]at hk;cases eO:c.callee with
  |value f=>cases mm:pv f<;>simp [eO,mm]at hk
  |invoke=>simp [eO]at hk
  |builtin b=>cases b<;>simp [eO]at hk
 |_=>simp [cu]at hk
theorem aij(hk:cu o=3)(hc:cC P o ρ h C):∃x h1,C x h1/\iJ h h1/\∀C':AV->asn ao->Prop,C' x h1->cC P o ρ h C':=by
 obtain⟨dst,op,type,pos,after,guard⟩:=o;cases op with
 |store t a b=>
  simp only[cC]at hc;have key:∀F:asn ao->Prop,zR P t h (ρ a) (ρ b) F->∃h1,F h1/\iJ h h1/\∀F':asn ao->Prop,F' h1->zR P t h (ρ a) (ρ b) F':=λF hF=>by
   unfold zR at hF ⊢;split at hF
   ·split at hF
    ·next hn=>
     split at hF
     ·rw[b6]at hF;exact⟨_,hF.2,iJ.set hn rfl,λF' lq=>b6.2 ⟨hF.1,lq⟩⟩
     ·exact hF.elim
    ·exact hF.elim
   ·exact hF.elim
  obtain⟨h1,k1,kv,k2⟩:=key _ hc;exact⟨_,h1,k1,kv,λC' dB=>by simp only[cC];exact k2 _ dB⟩
 |makeMap t r=>
  simp only[cC]at hc;split at hc
  ·rename_i x h' p hx
   refine⟨x,h',hc.2,?_,λC' dB=>by simp only[cC,hx];exact⟨hc.1,dB⟩⟩;unfold pG at hx;cases r with
   |none=>
    simp only at hx;split at hx
    ·cases hx;exact iJ.app rfl
    ·cases hx
   |some r=>cases hx
  ·exact hc.elim
 |mapUpdate t a b c=>
  simp only[cC]at hc;split at hc
  ·rename_i x h' p hx
   refine⟨x,h',hc.2,?_,λC' dB=>by simp only[cC,hx];exact⟨hc.1,dB⟩⟩;unfold pG at hx;simp only at hx;split at hx
   ·split at hx
    ·split at hx
     ·next hn=>
      obtain⟨hb,he⟩:=mF hx;cases he
      exact iJ.set hn rfl
     ·cases hx
    ·cases hx
   ·cases hx
  ·exact hc.elim
 |call c=>
  simp only[cu]at hk;cases eO:c.callee with
  |value f=>cases mm:pv f<;>simp [eO,mm]at hk
  |invoke=>simp [eO]at hk
  |builtin b=>cases b<;>simp [eO]at hk
 |_=>simp [cu]at hk
theorem YC{n:Nat}{e:TypeId}{k l e' k' l':Nat}(hn:h[n]?=some (.front e' k' l')):iV h (h.set n (.front e k l))/\iV (h.set n (.front e k l)) h:=by
 refine⟨λm cs hm hc=> ?_,λm cs hm hc=> ?_⟩
 ·have:n≠m:=λe=>by subst e;rw[hn]at hm;cases hm;cases hc
  rw[ar6 this];exact hm
 ·by_cases e:n=m
  ·subst e;rw[ar1 (ary.1 hn).1]at hm;cases hm;cases hc
  ·rw[ar6 e]at hm;exact hm
theorem IQ{e:TypeId}{k l:Nat}:iV h (h++[.front e k l])/\iV (h++[.front e k l]) h:=by
 refine⟨iV.app _ _,λm cs hm hc=> ?_⟩;by_cases hl:m<h.length
 ·rw[arI hl]at hm;exact hm
 ·rw[arO (by omega)]at hm;by_cases h0:m-h.length=0
  ·rw[h0]at hm;cases hm;cases hc
  ·rw[ar4 (by simp;omega)]at hm;cases hm
theorem ah8(hk:cu o=5)(hc:cC P o ρ h C):∃x h1,C x h1/\(iV h h1/\iV h1 h/\iJ h h1)/\∀C':AV->asn ao->Prop,C' x h1->cC P o ρ h C':=by
 obtain⟨dst,op,type,pos,after,guard⟩:=o;cases op with
 |call c=>
  simp only[cu]at hk;cases eO:c.callee with
  |value f=>cases mm:pv f<;>simp [eO,mm]at hk
  |invoke=>simp [eO]at hk
  |builtin b=>
   cases b with
   |append=>
    simp only[cC,eO]at hc;split at hc
    ·rename_i x y T U e1 e2
     rw[b6]at hc;have ahr:∀(k:Nat)(y:AV)(F:asn (asn D)->Prop),ux h k y F->∃ys,F ys/\∀F':asn (asn D)->Prop,F' ys->ux h k y F':=λk y F hF=>by
       unfold ux at hF ⊢;split at hF
       ·split at hF
        ·split at hF
         ·rw[b6]at hF;exact⟨_,hF.2,λF' lq=>b6.2 ⟨hF.1,lq⟩⟩
         ·exact hF.elim
        ·exact hF.elim
       ·split at hF
        ·exact⟨_,hF.2,λF' lq=>⟨hF.1,lq⟩⟩
        ·exact hF.elim
     have key:∀F:AV->asn ao->Prop,uh P T h (ρ x) (ρ y) F->∃v h1,F v h1/\(iV h h1/\iV h1 h/\iJ h h1)/\∀F':AV->asn ao->Prop,F' v h1->uh P T h (ρ x) (ρ y) F':=λF hF=>by
      unfold uh at hF ⊢;split at hF
      ·split at hF
       ·rw[b6]at hF;obtain⟨h0,hF⟩:=hF;obtain⟨ys,hF,hs⟩:=ahr _ _ _ hF;split at hF
        ·split at hF
         ·rename_i hn
          rw[b6]at hF;obtain⟨g1,g2,g3,g4,g5,g6⟩:=hF;exact⟨_,_,g6,⟨(YC hn).1,(YC hn).2,iJ.set hn rfl⟩,λF' lq=>b6.2 ⟨h0,hs _ (b6.2 ⟨g1,g2,g3,g4,g5,lq⟩)⟩⟩
         ·exact hF.elim
        ·obtain⟨g4,g5,g6⟩:=hF;exact⟨_,_,g6,⟨IQ.1,IQ.2,iJ.app rfl⟩,λF' lq=>b6.2 ⟨h0,hs _ ⟨g4,g5,lq⟩⟩⟩
        ·obtain⟨g3,g4,g5,g6⟩:=hF;exact⟨_,_,g6,⟨IQ.1,IQ.2,iJ.app rfl⟩,λF' lq=>b6.2 ⟨h0,hs _ ⟨g3,g4,g5,lq⟩⟩⟩
        ·exact hF.elim
       ·exact hF.elim
      ·exact hF.elim
     obtain⟨v,h1,k1,c1,k2⟩:=key _ hc.2;exact⟨v,h1,k1,c1,λC' dB=>by simp only[cC,eO,e1,e2];rw[b6];exact⟨hc.1,k2 _ dB⟩⟩
    ·exact hc.elim
   |_=>simp [eO]at hk
 |_=>simp [cu]at hk
theorem Xk{m:Bool}(iD:pj m o=false){s:St}{K:St->Prop}(hd:CD P o K s):∃x h1,eE m P o (ev s) s.h x h1/\K ((s.wh h1).put o.dst x):=by
 have km:nJ m o=cu o:=by unfold nJ;rw[iD];rfl
 have plain:qH P o K s->cu o≠4->cu o≠6->∃x h1,eE m P o (ev s) s.h x h1/\K ((s.wh h1).put o.dst x):=λha hk4 DZ=>by
  unfold qH at ha;by_cases h0:cu o=0
  ·obtain⟨x,h1,h2⟩:=aqi h0 ha;exact⟨x,s.h,by unfold eE;rw[km,h0];exact⟨rfl,λh' _ C' dB=> .inl (h2 h' C' dB)⟩,h1⟩
  ·by_cases h1:cu o=1
   ·obtain⟨dst,op,type,pos,after,guard⟩:=o;cases op with
    |load t a=>
     simp only[cC]at ha;obtain⟨x,k1,k2⟩:=ahG ha;exact⟨x,s.h,by unfold eE;rw[km,h1];exact⟨rfl,λh' hh C' dB=> .inl (by simp only[cC];exact k2 h' hh _ dB)⟩,k1⟩
    |lookup t a b ok=>
     simp only[cC]at ha;split at ha
     ·rename_i x h' p hx
      obtain⟨rfl,k2⟩:=ajB hx;exact⟨x,s.h,by unfold eE;rw[km,h1];exact⟨rfl,λh' hh C' dB=> .inl (by simp only[cC,k2 h' hh];exact⟨ha.1,dB⟩)⟩,ha.2⟩
     ·exact ha.elim
    |call c=>
     simp only[cu]at h1;cases eO:c.callee with
     |value f=>cases mm:pv f<;>simp [eO,mm]at h1
     |invoke=>simp [eO]at h1
     |builtin b=>cases b<;>simp [eO]at h1
    |_=>simp [cu]at h1
   ·by_cases h2:cu o=2
    ·obtain⟨B,kB,k1,k2⟩:=akd h2 ha;exact⟨_,_,by unfold eE;rw[km,h2];exact⟨B,kB,rfl,rfl,λh' C' dB=> .inl (k2 h' C' dB)⟩,k1⟩
    ·by_cases h3:cu o=3
     ·obtain⟨x,pV,k1,kv,k2⟩:=aij h3 ha;exact⟨x,pV,by unfold eE;rw[km,h3];exact⟨kv,λC' dB=> .inl (k2 C' dB)⟩,k1⟩
     ·by_cases h5:cu o=5
      ·obtain⟨x,pV,k1,c1,k2⟩:=ah8 h5 ha;exact⟨x,pV,by unfold eE;rw[km,h5];exact⟨c1,λC' dB=> .inl (k2 C' dB)⟩,k1⟩
      exfalso;obtain⟨dst,op,type,pos,after,guard⟩:=o;cases op with
      |call c=>
       simp only[cu]at h0 h3 hk4 DZ h5;simp only[cC]at ha;cases eO:c.callee with
       |value f=>cases mm:pv f<;>simp [eO,mm]at hk4 DZ
       |invoke=>simp only[eO]at ha
       |builtin b=>cases b<;>simp only[eO]at ha h0 h3 h5<;>first|exact ha|exact absurd rfl h0|exact absurd rfl h3|exact absurd rfl h5|exact h3 trivial|exact h0 trivial|exact h5 trivial
      |_=>first|exact absurd rfl h0|exact absurd rfl h1|exact absurd rfl h2|exact absurd rfl h3|exact ha
 unfold CD at hd;split at hd
 ·rename_i c fJ
  split at hd
  ·rename_i f eO
   have fin:∀x:AV,(∀e,∀C':AV->asn ao->Prop,C' x (s.h++e)->cC P o (ev s) (s.h++e) C')->eE m P o (ev s) s.h x s.h:=λx hx=>by
    have hk:cu o=4\/cu o=6:=by
     unfold cu;simp only[fJ,eO];cases pv f<;>simp
    unfold eE;rw[km];rcases hk with hk|hk
    ·rw[hk];exact⟨rfl,λe C' dB=> .inl (hx e C' dB)⟩
    ·rw[hk];refine⟨[],(arT _).symm,λC' dB=> .inl ?_⟩;have:=hx [] C' (by rw[arT];exact dB)
     rwa [arT]at this
   split at hd
   ·rename_i g dF hg
    obtain⟨x,hK,ku⟩:=hd;refine⟨x,s.h,fin x λe C' dB=> ?_,hK⟩;unfold cC;simp only[fJ,eO,hg];exact(ku e).mono λr' h' ⟨e1,e2⟩=>by subst e1;subst e2;exact dB
   ·rename_i q hg
    obtain⟨g,cs,rfl,x,hK,ku⟩:=hd;refine⟨x,s.h,fin x λe C' dB=> ?_,hK⟩;unfold cC;simp only[fJ,eO,hg];exact⟨g,cs,rfl,(ku e).mono λr' h' ⟨e1,e2⟩=>by subst e1;subst e2;exact dB⟩
   ·exact hd.elim
  ·rename_i eO
   exact plain hd (by
    unfold cu;simp only[fJ];cases hc:c.callee with
    |value f=>exact absurd hc (eO f)
    |invoke=>simp
    |builtin b=>cases b<;>simp) (by
    unfold cu;simp only[fJ];cases hc:c.callee with
    |value f=>exact absurd hc (eO f)
    |invoke=>simp
    |builtin b=>cases b<;>simp)
 ·rename_i fJ
  exact plain hd (by
   unfold cu;split<;>first|(rename_i c hc;exact(fJ c hc).elim)|simp) (by
   unfold cu;split<;>first|(rename_i c hc;exact(fJ c hc).elim)|simp)
theorem U3{m:Bool}{h1:asn ao}{x:AV}(h0:eE m P o ρ h x h1):∀C:AV->asn ao->Prop,C x h1->jn P o ρ h C:=λC hC=>by
 unfold eE at h0;split at h0
 ·obtain⟨e,h0⟩:=h0;subst e;exact h0 _ (iQ.refl _) _ hC
 ·obtain⟨e,h0⟩:=h0;subst e;exact h0 _ (iV.refl _) _ hC
 ·obtain⟨B,_,rfl,rfl,h0⟩:=h0;exact h0 _ _ hC
 ·exact h0.2 _ hC
 ·obtain⟨e,h0⟩:=h0;subst e;have:=h0 [] C (by rw[arT];exact hC)
  rwa [arT]at this
 ·exact h0.2 _ hC
 ·obtain⟨e0,_,h0⟩:=h0;exact h0 _ hC
 ·exact h0 _ hC
 ·exact h0.elim
theorem SW{m:Bool}{s:St}{K:St->Prop}(hd:CT m P o K s):∃x h1,eE m P o (ev s) s.h x h1/\K ((s.wh h1).put o.dst x):=by
 cases iD:pj m o with
 |true=>
  have k7:nJ m o=7:=by unfold nJ;rw[iD];rfl
  rcases hd with hd|⟨_,x,h1,hK,hc⟩|⟨hv,_⟩|⟨_,x,e0,hK,hc⟩
  ·obtain⟨x,h1,h2,hK⟩:=Xk (m:=false) rfl hd;refine⟨x,h1,?_,hK⟩;have:=U3 h2;unfold eE;rw[k7];exact this
  ·exact⟨x,h1,by unfold eE;rw[k7];exact λC hC=> .inl (hc C hC),hK⟩
  ·exfalso;unfold pj at iD;rw[arA]at iD;unfold jN at hv;have iD:=iD.2;split at iD
   ·next c e=>
    rw[e]at hv;split at iD
    ·next f e2=>simp only[e2]at hv;cases hv
    ·cases iD
   ·cases iD
  ·exact⟨x,_,by unfold eE;rw[k7];exact λC hC=> .inl (hc C hC),hK⟩
 |false=>
 have km:nJ m o=cu o:=by unfold nJ;rw[iD];rfl
 rcases hd with hd|⟨hb,_⟩|⟨hv,a,x,h',p,hx,hp,hK⟩|⟨hk,x,e0,hK,hc⟩
 ·exact Xk iD hd
 ·rw[iD]at hb;cases hb
 ·have hk:cu o=0\/cu o=1\/cu o=3:=by
   unfold jN at hv;unfold cu;split at hv
   all_goals first|(next e=>simp only[e];simp)|skip
   ·next c e=>
    split at hv
    ·next e2=>simp only[e,e2];simp
    ·cases hv
   ·cases hv
  rcases hk with hk|hk|hk
  ·obtain⟨rfl,h2⟩:=aht hv hk hx hp;refine⟨x,_,?_,hK⟩;unfold eE;rw[km,hk];exact⟨rfl,λh' hh C hC=> .inr ⟨hv,a,x,h',by obtain⟨p',q1,q2⟩:=h2 h' hh;exact⟨p',q1,q2,hC⟩⟩⟩
  ·obtain⟨rfl,h2⟩:=anU hv hk hx hp;refine⟨x,_,?_,hK⟩;unfold eE;rw[km,hk];exact⟨rfl,λh' hh C hC=> .inr ⟨hv,a,x,h',by obtain⟨p',q1,q2⟩:=h2 h' hh;exact⟨p',q1,q2,hC⟩⟩⟩
  ·refine⟨x,h',?_,hK⟩;unfold eE;rw[km,hk];exact⟨anq hv hk hx hp,λC hC=> .inr ⟨hv,a,x,h',p,hx,hp,hC⟩⟩
 ·refine⟨x,_,?_,hK⟩;unfold eE;rw[km,hk];exact⟨e0,rfl,λC hC=> .inl (hc C hC)⟩
end
structure jc(s s':St):Prop where
 n:s.n=s'.n
 h:s.h=s'.h
 t:∀i,bw s.t i=bw s'.t i
theorem jc.refl(s:St):jc s s:=⟨rfl,rfl,λ_=>rfl⟩
theorem jc.symm{s s':St}(h:jc s s'):jc s' s:=⟨h.n.symm,h.h.symm,λi=>(h.t i).symm⟩
theorem jc.trans{a b c:St}(h:jc a b)(k:jc b c):jc a c:=⟨h.n.trans k.n,h.h.trans k.h,λi=>(h.t i).trans (k.t i)⟩
theorem sR(s:St)(d:asp Nat)(x:AV)(i:Nat):bw (s.put d x).t i=if d=some i/\i<s.n then x else bw s.t i:=by
 cases d with
 |none=>simp [St.put]
 |some k=>
  by_cases hk:k<s.n
  ·rw[ru hk,kY];by_cases hi:i=k
   ·subst hi;simp [hk]
   ·rw[if_neg hi,if_neg (by simp;intro e;exact absurd e.symm hi)]
  ·rw[DA hk];rw[if_neg (by rintro⟨e,aS⟩;cases e;exact hk aS)]
theorem rF(s:St)(d:asp Nat)(x:AV):(s.put d x).n=s.n:=by
 cases d with
 |none=>rfl
 |some k=>
  by_cases hk:k<s.n
  ·rw[ru hk]
  ·rw[DA hk]
theorem Dr(s:St)(d:asp Nat)(x:AV):(s.put d x).h=s.h:=by
 cases d with
 |none=>rfl
 |some k=>
  by_cases hk:k<s.n
  ·rw[ru hk]
  ·rw[DA hk]
theorem jc.put{s s':St}(h:jc s s')(h1:asn ao)(d:asp Nat)(x:AV):jc ((s.wh h1).put d x) ((s'.wh h1).put d x):=
 ⟨by rw[rF,rF];exact h.n,by rw[Dr,Dr];rfl,λi=>by
  rw[sR,sR];show(if d=some i/\i<s.n then x else bw s.t i)=(if d=some i/\i<s'.n then x else bw s'.t i);rw[h.n,h.t]⟩
theorem ajC(s:St)(h1 pV h2:asn ao){d d':asp Nat}(x x':AV)(cP:∀k,d=some k->d'≠some k):jc ((((s.wh h1).put d x).wh h2).put d' x') ((((s.wh pV).put d' x').wh h2).put d x):=by
 refine⟨by simp only[rF];show((s.wh h1).put d x).n=((s.wh pV).put d' x').n;simp only[rF];rfl,by simp only[Dr];rfl,λi=> ?_⟩;rw[sR,sR];show(if d'=some i/\i<((s.wh h1).put d x).n then x' else bw ((s.wh h1).put d x).t i)=(if d=some i/\i<((s.wh pV).put d' x').n then x else bw ((s.wh pV).put d' x').t i);rw[rF,rF,sR,sR];show(if d'=some i/\i<s.n then x' else(if d=some i/\i<s.n then x else bw s.t i))=(if d=some i/\i<s.n then x else(if d'=some i/\i<s.n then x' else bw s.t i));by_cases a:d=some i
 ·have:=cP i a;simp [a,this]
 ·simp [a]
section
variable {P:asq} {ops:Array Oper}
def nI(m:Bool)(P:asq)(ops:Array Oper)(o:Oper)(s:St)(x:AV)(h1:asn ao):Prop:=
 (jy ops o s True False/\eE m P o (ev s) s.h x h1)\/(jy ops o s False True/\x= .d (.v undef)/\h1=s.h)
theorem TZ{o:Oper}{s:St}{yes no:Prop}(h:jy ops o s yes no):(jy ops o s True False/\yes)\/(jy ops o s False True/\no):=by
 unfold jy at h ⊢;split at h
 ·exact .inl ⟨trivial,h⟩
 ·rename_i j want hg
  split at h
  ·rename_i d hd
   split at h
   ·rename_i b hb
    by_cases xh:b=want
    ·exact .inl ⟨⟨λ_=>trivial,λe=>by subst xh;cases b<;>cases e⟩,h.1 xh⟩
    ·have hbn:b= !want:=by cases b<;>cases want<;>simp_all
     exact .inr ⟨⟨λe=>(xh e).elim,λ_=>trivial⟩,h.2 hbn⟩
   ·exact .inr ⟨trivial,h⟩
   ·exact h.elim
  ·exact h.elim
theorem CY{o:Oper}{s s':St}{yes no:Prop}(ht:∀d,d∈o.looksAt ops->bw s'.t d=bw s.t d)(h:jy ops o s yes no):jy ops o s' yes no:=by
 unfold jy at h ⊢;split at h
 ·exact h
 ·rename_i j want hg
  split at h
  ·rename_i d hd
   have:bw s'.t d=bw s.t d:=ht d (by unfold Oper.looksAt;rw[hg];simp [hd]);rw[this];exact h
  ·exact h.elim
theorem Pz{m:Bool}{o:Oper}{s s':St}{x:AV}{h1:asn ao}(ht:∀d,d∈o.looksAt ops->bw s'.t d=bw s.t d)(hh:s'.h=s.h)(h:nI m P ops o s x h1):nI m P ops o s' x h1:=by
 have dA:∀y∈o.op.operands,ev s y=ev s' y:=λy hy=>by
  cases y with
  |tmp t=>exact(ht t (by unfold Oper.looksAt;refine asa.2 (.inl (List.mem_filterMap.2 ⟨.tmp t,Array.mem_toList_iff.2 hy,rfl⟩)))).symm
  |_=>rfl
 rcases h with⟨g,hc⟩|⟨g,e1,e2⟩
 ·refine .inl ⟨CY ht g,?_⟩;rw[hh];have vt:∀h C,jn P o (ev s) h C=jn P o (ev s') h C:=λh C=>TI dA;unfold eE at hc ⊢;split at hc
  ·exact⟨hc.1,λh' hh C hC=>vt h' C▸hc.2 h' hh C hC⟩
  ·exact⟨hc.1,λh' hh C hC=>vt _ C▸hc.2 h' hh C hC⟩
  ·obtain⟨B,kB,a,b,c⟩:=hc;exact⟨B,kB,a,b,λh' C hC=>vt h' C▸c h' C hC⟩
  ·exact⟨hc.1,λC hC=>vt _ C▸hc.2 C hC⟩
  ·exact⟨hc.1,λe C hC=>vt _ C▸hc.2 e C hC⟩
  ·exact⟨hc.1,λC hC=>vt _ C▸hc.2 C hC⟩
  ·obtain⟨e0,a,b⟩:=hc;exact⟨e0,a,λC hC=>vt _ C▸b C hC⟩
  ·exact λC hC=>vt _ C▸hc C hC
  ·exact hc.elim
 ·exact .inr ⟨CY ht g,e1,e2.trans hh.symm⟩
theorem Yf{o:Oper}(h:cu o=7):False:=by
 unfold cu at h
 repeat' (first|(split at h)|cases h)
 all_goals (cases hg:pv _<;>rw[hg]at h<;>cases h)
theorem ai8{m:Bool}{o:Oper}{ρ:Operand->AV}{h h1:asn ao}{x:AV}(h7:pj m o=false)(h0:eE m P o ρ h x h1):iQ h h1:=by
 unfold eE at h0;unfold nJ at h0;rw[h7]at h0;simp only[cond_false]at h0;split at h0
 ·rw[h0.1];exact iQ.refl _
 ·rw[h0.1];exact iQ.refl _
 ·obtain⟨B,kB,_,e,_⟩:=h0;rw[e];exact(iJ.app kB).i
 ·exact h0.1.i
 ·rw[h0.1];exact iQ.refl _
 ·exact h0.1.2.2.i
 ·obtain⟨e0,e,_⟩:=h0;rw[e];exact iQ.app _ _
 ·next e=>exact(Yf e).elim
 ·exact h0.elim
theorem ak8{m:Bool}{o:Oper}{ρ:Operand->AV}{h h1:asn ao}{x:AV}(h7:pj m o=false)(hk:cu o≠6)(h0:eE m P o ρ h x h1):iQ h1 h:=by
 unfold eE at h0;unfold nJ at h0;rw[h7]at h0;simp only[cond_false]at h0;split at h0
 ·rw[h0.1];exact iQ.refl _
 ·rw[h0.1];exact iQ.refl _
 ·obtain⟨B,kB,_,e,_⟩:=h0;rw[e];exact(iJ.app kB).j
 ·exact h0.1.j
 ·rw[h0.1];exact iQ.refl _
 ·exact h0.1.2.2.j
 ·next e=>exact(hk e).elim
 ·next e=>exact(Yf e).elim
 ·exact h0.elim
def CC(m:Bool)(a b:Oper):Bool:= !pj m a&& !pj m b&&(cu a==0||(cu b==0&& !(cu a==6))||((cu a==1||cu a==4)&&(cu b==1||cu b==4||cu b==2||cu b==6))||(cu a==1&&cu b==5)||(cu a==5&&cu b==1))
theorem swap{m:Bool}{oi oj:Oper}{s:St}{xi xj:AV}{hi hj:asn ao}(Mw:oi.apart ops oj=true)(lE:CC m oi oj=true)(h1:nI m P ops oi s xi hi)(h2:nI m P ops oj ((s.wh hi).put oi.dst xi) xj hj):
 ∃jz,nI m P ops oj s xj jz/\nI m P ops oi ((s.wh jz).put oj.dst xj) xi hj:=by
 obtain⟨a1,a2,a3⟩:=Oper.apart_spec Mw;unfold CC at lE;rw[arA,arA,Bool.not_eq_true',Bool.not_eq_true']at lE;obtain⟨⟨li,lj⟩,lE⟩:=lE;have p9:nJ m oi=cu oi:=by unfold nJ;rw[li];rfl
 have sE:nJ m oj=cu oj:=by unfold nJ;rw[lj];rfl
 have tj:∀d,d∈oj.looksAt ops->bw s.t d=bw ((s.wh hi).put oi.dst xi).t d:=λd hd=>by
  rw[sR,if_neg (λe=>a1 d e.1 hd)];rfl
 have ti:∀(h':asn ao) d,d∈oi.looksAt ops->bw ((s.wh h').put oj.dst xj).t d=bw s.t d:=λh' d hd=>by
  rw[sR,if_neg (λe=>a3 d e.1 hd)];rfl
 have eQ:((s.wh hi).put oi.dst xi).h=hi:=by rw[Dr];rfl
 have s6:∀h',((s.wh h').put oj.dst xj).h=h':=λh'=>by rw[Dr];rfl
 have same:hi=s.h->nI m P ops oj s xj hj:=λe=>Pz tj (by rw[eQ,e]) h2;have evi:∀h',∀y∈oi.op.operands,ev ((s.wh h').put oj.dst xj) y=ev s y:=λh' y hy=>by
  cases y with
  |tmp t=>exact ti h' t (by unfold Oper.looksAt;refine asa.2 (.inl (List.mem_filterMap.2 ⟨.tmp t,Array.mem_toList_iff.2 hy,rfl⟩)))
  |_=>rfl
 have evj:∀y∈oj.op.operands,ev ((s.wh hi).put oi.dst xi) y=ev s y:=λy hy=>by
  cases y with
  |tmp t=>exact(tj t (by unfold Oper.looksAt;refine asa.2 (.inl (List.mem_filterMap.2 ⟨.tmp t,Array.mem_toList_iff.2 hy,rfl⟩)))).symm
  |_=>rfl
 have ci:∀h' h C,jn P oi (ev ((s.wh h').put oj.dst xj)) h C=jn P oi (ev s) h C:=λh' h C=>TI (evi h');have cj:∀h C,jn P oj (ev ((s.wh hi).put oi.dst xi)) h C=jn P oj (ev s) h C:=λh C=>TI evj;rcases h1 with⟨g1,o1⟩|⟨g1,e1,e2⟩
 ·rcases h2 with⟨g2,o2⟩|⟨g2,f1,f2⟩
  ·
   have Dv:∀h',jy ops oi ((s.wh h').put oj.dst xj) True False:=λh'=>CY (ti h') g1;have g2':jy ops oj s True False:=CY tj g2;by_cases k0:cu oi=0
   ·unfold eE at o1;rw[p9,k0]at o1;simp only at o1;obtain⟨e,o1⟩:=o1;refine⟨hj,same e, .inl ⟨Dv hj,?_⟩⟩;unfold eE;rw[p9,k0];have hv:iQ s.h hj:=by
     have:=ai8 lj o2;rw[eQ,e]at this;exact this
    exact⟨(s6 hj).symm,λh' hh C hC=>by rw[s6]at hh;rw[ci];exact o1 h' (hv.trans hh) C hC⟩
   ·by_cases k1:cu oj=0
    ·unfold eE at o2;rw[sE,k1]at o2;simp only at o2;obtain⟨e,o2⟩:=o2;rw[eQ]at e o2;have k6:cu oi≠6:=λk6=>by
      simp [k6,k1]at lE
     have hv:=ak8 li k6 o1;refine⟨s.h, .inl ⟨g2',?_⟩, .inl ⟨Dv s.h,?_⟩⟩
     ·unfold eE;rw[sE,k1];exact⟨rfl,λh' hh C hC=>by rw[<-cj];exact o2 h' (hv.trans hh) C hC⟩
     ·rw[e];unfold eE at o1 ⊢;rw[s6];simp only[ci];exact o1
    ·by_cases k15:cu oi=1/\cu oj=5
     ·obtain⟨ka,kb⟩:=k15;unfold eE at o1 o2;rw[p9,ka]at o1;rw[sE,kb]at o2;simp only at o1 o2;obtain⟨e,o1⟩:=o1;obtain⟨⟨c1,c2,_⟩,o2⟩:=o2;rw[eQ,e]at c1 c2;refine⟨hj,same e, .inl ⟨Dv hj,?_⟩⟩;unfold eE;rw[p9,ka];simp only;refine⟨(s6 hj).symm,λh' hh C hC=> ?_⟩;rw[s6]at hh;rw[ci];exact o1 h' (λn cs hn hq=>hh n cs (c1 n cs hn hq) hq) C hC
     by_cases W8:cu oi=5/\cu oj=1
     ·obtain⟨ka,kb⟩:=W8;unfold eE at o1 o2;rw[p9,ka]at o1;rw[sE,kb]at o2;simp only at o1 o2;obtain⟨⟨c1,c2,c3⟩,o1⟩:=o1;obtain⟨e,o2⟩:=o2;rw[eQ]at e o2;refine⟨s.h, .inl ⟨g2',?_⟩, .inl ⟨Dv s.h,?_⟩⟩
      ·unfold eE;rw[sE,kb];simp only;exact⟨trivial,λh' hh C hC=>by rw[<-cj];exact o2 h' (λn cs hn hq=>hh n cs (c2 n cs hn hq) hq) C hC⟩
      ·rw[e];unfold eE;rw[p9,ka];simp only;rw[s6];exact⟨⟨c1,c2,c3⟩,λC hC=>by rw[ci];exact o1 C hC⟩
     have hc:(cu oi=1\/cu oi=4)/\(cu oj=1\/cu oj=4\/cu oj=2\/cu oj=6):=by
      simp only[Bool.or_eq_true,arA,beq_iff_eq,k0,k1,false_or,false_and]at lE;rcases lE with(lE|lE)|lE
      ·refine⟨lE.1,?_⟩;rcases lE.2 with((h|h)|h)|h
       ·exact .inl h
       ·exact .inr (.inl h)
       ·exact .inr (.inr (.inl h))
       ·exact .inr (.inr (.inr h))
      ·exact absurd lE k15
      ·exact absurd lE W8
     have q1:hi=s.h/\∀e(C:AV->asn ao->Prop),C xi (s.h++e)->jn P oi (ev s) (s.h++e) C:=by
      unfold eE at o1;rcases hc.1 with k|k
      ·rw[p9,k]at o1;exact⟨o1.1,λe C hC=>o1.2 _ (iV.app _ _) C hC⟩
      ·rw[p9,k]at o1;exact o1
     have q2:∃e0,hj=s.h++e0:=by
      have sa:=o2;unfold eE at sa;rcases hc.2 with k|k|k|k
      ·rw[sE,k]at sa;exact⟨[],by rw[sa.1,eQ,q1.1,arT]⟩
      ·rw[sE,k]at sa;exact⟨[],by rw[sa.1,eQ,q1.1,arT]⟩
      ·rw[sE,k]at sa;obtain⟨B,_,_,b,_⟩:=sa;exact⟨[B],by rw[b,eQ,q1.1]⟩
      ·rw[sE,k]at sa;obtain⟨e0,b,_⟩:=sa;exact⟨e0,by rw[b,eQ,q1.1]⟩
     obtain⟨e0,E8⟩:=q2;refine⟨hj,same q1.1, .inl ⟨Dv hj,?_⟩⟩;have:∀e(C:AV->asn ao->Prop),C xi (hj++e)->jn P oi (ev ((s.wh hj).put oj.dst xj)) (hj++e) C:=λe C hC=>by
      rw[ci,E8,arP];rw[E8,arP]at hC;exact q1.2 _ C hC
     unfold eE;rw[s6];rcases hc.1 with k|k
     ·rw[p9,k];simp only;refine⟨trivial,λh' hh C hC=> ?_⟩;rw[ci];unfold eE at o1;rw[p9,k]at o1;exact o1.2 h' (λn cs hn hq=>hh n cs (by rw[E8];exact iV.app _ _ n cs hn hq) hq) C hC
     ·rw[p9,k];exact⟨rfl,this⟩
  ·
   subst f1;rw[eQ]at f2;refine⟨s.h, .inr ⟨CY tj g2,rfl,rfl⟩,?_⟩;rw[f2];exact Pz (ti s.h) (by rw[s6]) (.inl ⟨g1,o1⟩)
 ·
  subst e1;refine⟨hj,same e2, .inr ⟨CY (ti hj) g1,rfl,(s6 hj).symm⟩⟩
def vC(K:St->Prop):Prop:=∀s s',jc s s'->K s->K s'
def oH(m:Bool)(P:asq)(ops:Array Oper)(K:St->Prop):Nat->Array Bool->St->Prop
 |0,listed,s=>Region.ready .any ops listed=[]/\K s
 |fuel+1,listed,s=>
  (Region.ready .any ops listed=[]->K s)/\
  ∀i∈Region.ready .any ops listed,∀o,ops[i]?=some o->∃x h1,nI m P ops o s x h1/\oH m P ops K fuel (listed.setIfInBounds i true) ((s.wh h1).put o.dst x)
theorem YY{m:Bool}{K:St->Prop}(hK:vC K):∀(fuel:Nat)(listed:Array Bool)(s s':St),jc s s'->oH m P ops K fuel listed s->oH m P ops K fuel listed s'
 |0,_,s,s',hs,h=>⟨h.1,hK s s' hs h.2⟩
 |fuel+1,_,s,s',hs,h=>⟨λh0=>hK s s' hs (h.1 h0),λi hi o ho=>by
  obtain⟨x,h1,h2,h3⟩:=h.2 i hi o ho;exact⟨x,h1,Pz (λd _=>(hs.t d).symm) hs.h.symm h2,YY hK fuel _ _ _ (hs.put h1 o.dst x) h3⟩⟩
def tM(M:Array Nat)(ops:Array Oper):Bool:=
 (List.range ops.size).all λj=>(List.range ops.size).all λi=> !(M.getD j 0).testBit i||match ops[j]? with
  |some o=>o.after.any λe=>Region.binds .any e&&decide (e.on<j)&&(e.on==i||(M.getD e.on 0).testBit i)
  |none=>false
def Dn(ops:Array Oper)(listed:Array Bool):Prop:=∀(j:Nat)(o:Oper),ops[j]?=some o->listed.getD j false=true->∀e∈o.after,Region.binds .any e=true->listed.getD e.on false=true
theorem ane{M:Array Nat}(hM:tM M ops=true){listed:Array Bool}(hD:Dn ops listed):∀(j i:Nat)(o:Oper),i<ops.size->ops[j]?=some o->(∀e∈o.after,Region.binds .any e=true->listed.getD e.on false=true)->(M.getD j 0).testBit i=true->listed.getD i false=true:=by
 intro j
 induction j using Nat.strongRecOn with
 |_ j ih=>
  intro i o hi ho hp hb;unfold tM at hM;simp only[arY,List.mem_range]at hM;have h1:=hM j (arN.1 ho).1 i hi;rw[hb,ho]at h1;simp only[Bool.not_true,Bool.false_or]at h1;rw[Array.any_eq_true']at h1;obtain⟨e,he,h2⟩:=h1;simp only[arA,decide_eq_true_eq,Bool.or_eq_true,beq_iff_eq]at h2;obtain⟨⟨KK,aS⟩,h3⟩:=h2;have hl:=hp e he KK;rcases h3 with h3|h3
  ·rw[<-h3];exact hl
  ·have IN:e.on<ops.size:=Nat.lt_trans aS (arN.1 ho).1;exact ih e.on aS i ops[e.on] hi (arU IN) (hD e.on _ (arU IN) hl) h3
theorem Dn.set{listed:Array Bool}(hD:Dn ops listed){i:Nat}(hr:i∈Region.ready .any ops listed):Dn ops (listed.setIfInBounds i true):=by
 intro j o ho hj e he hb;refine getD_set_true ?_;by_cases rf:i=j
 ·subst rf;obtain⟨_,o',gu,fq⟩:=mem_ready.1 hr;rw[ho]at gu;cases gu;exact fq e he hb
 ·rw[getD_set_ne false rf]at hj;exact hD j o ho hj e he hb
theorem Qy{m:Bool}{K:St->Prop}(hK:vC K){M:Array Nat}(hM:tM M ops=true){i:Nat}{oi:Oper}{x:AV}{h1:asn ao}(hi:ops[i]?=some oi):
 ∀(fuel:Nat)(listed:Array Bool)(s:St),Dn ops listed->
  (∀j oj,ops[j]?=some oj->j≠i->listed.getD j true=false->(M.getD j 0).testBit i=false->oi.apart ops oj=true/\CC m oi oj=true)->
  i∈Region.ready .any ops listed->nI m P ops oi s x h1->oH m P ops K fuel (listed.setIfInBounds i true) ((s.wh h1).put oi.dst x)->oH m P ops K (fuel+1) listed s:=by
 intro fuel
 induction fuel generalizing x h1 with
 |zero=>
  intro listed s _ _ hr hy H;refine⟨λh=>(by rw[h]at hr;cases hr),λj hj o ho=> ?_⟩;by_cases uf:j=i
  ·subst uf;rw[hi]at ho;cases ho;exact⟨x,h1,hy,H⟩
  ·have:=ready_mono hj uf;rw[H.1]at this;cases this
 |succ fuel ih=>
  intro listed s hD ZO hr hy H;refine⟨λh=>(by rw[h]at hr;cases hr),λj hj oj BU=> ?_⟩;by_cases uf:j=i
  ·subst uf;rw[hi]at BU;cases BU;exact⟨x,h1,hy,H⟩
  ·obtain⟨xj,hj1,KW,H2⟩:=H.2 j (ready_mono hj uf) oj BU;obtain⟨ZN,oj',YH,fq⟩:=mem_ready.1 hj;rw[BU]at YH;cases YH;have uK:=(arN.1 hi).1;have tE:listed.getD i false=false:=by
    have h0:=(mem_ready.1 hr).1;rcases Nat.lt_or_ge i listed.size with h'|h'
    ·simpa [h']using h0
    ·simp [Array.getElem?_eq_none h']at h0
   have lD:(M.getD j 0).testBit i=false:=by
    cases hb:(M.getD j 0).testBit i with
    |false=>rfl
    |true=>rw[ane hM hD j i oj uK BU fq hb]at tE;cases tE
   obtain⟨Mw,lE⟩:=ZO j oj BU uf ZN lD;obtain⟨jz,s1,s2⟩:=swap Mw lE hy KW;obtain⟨_,a2,_⟩:=Oper.apart_spec Mw;refine⟨xj,jz,s1,ih (listed.setIfInBounds j true) _ (hD.set hj) (λk ok hk UA abD y5=> ?_) (ready_mono hr (Ne.symm uf)) s2 ?_⟩
   ·refine ZO k ok hk UA ?_ y5;by_cases Ib:j=k
    ·subst Ib;exact ZN
    ·rw[getD_set_ne true Ib]at abD;exact abD
   ·rw[Array.setIfInBounds_comm _ _ uf];exact YY hK _ _ _ _ (ajC s h1 jz hj1 x xj (λk hk=>a2 k hk)) H2
def WE(M:Array Nat)(ops:Array Oper)(k:Nat):Bool:=
 match ops[k]? with
 |none=>false
 |some oi=>(List.range ops.size).all λj=>decide (j<=k)||(M.getD j 0).testBit k||match ops[j]? with
  |some oj=>oi.apart ops oj&&CC false oi oj
  |none=>true
def Dy(M:Array Nat)(ops:Array Oper):Nat->Nat->Array Bool->Bool
 |0,_,listed=>(Region.ready .any ops listed).isEmpty
 |fuel+1,k,listed=>(Region.ready .any ops listed).contains k&&WE M ops k&&Dy M ops fuel (k+1) (listed.setIfInBounds k true)
def om(ops:Array Oper):Bool:=tM (Region.before ops) ops&&Dy (Region.before ops) ops ops.size 0 (Array.replicate ops.size false)
theorem UW{K K':St->Prop}(hK:vC K')(Dw:∀s,K s->K' s){M:Array Nat}(hM:tM M ops=true):∀(l:asn Oper)(k:Nat)(listed:Array Bool)(s:St),(∀j,l[j]?=ops[k+j]?)->(∀j,j<k->listed.getD j true=true)->Dn ops listed->
 Dy M ops l.length k listed=true->G9 P ops l K s->oH false P ops K' l.length listed s
 |[],_,_,_,_,_,_,hB,h=>⟨by simpa [Dy]using hB,Dw _ h⟩
 |o::l,k,listed,s,hl,qe,hD,hB,h=>by
  have h0:ops[k]?=some o:=by simpa using (hl 0).symm
  simp only[arB,Dy,arA]at hB;obtain⟨⟨hr,hf⟩,eB⟩:=hB;have nW:k∈Region.ready .any ops listed:=by simpa using hr
  have qm:∀j,l[j]?=ops[k+1+j]?:=λj=>by have:=hl (j+1);simpa [Nat.add_assoc,Nat.add_comm 1 j]using this
  have ah1:∀j,j<k+1->(listed.setIfInBounds k true).getD j true=true:=λj hj=>by
   by_cases e:k=j
   ·subst e;rcases Nat.lt_or_ge k listed.size with h'|h'
    ·simp [h']
    ·have:(listed.setIfInBounds k true)[k]?=none:=Array.getElem?_eq_none (by simpa using h');rw[Array.getD_eq_getD_getElem?,this];rfl
   ·rw[getD_set_ne true e];exact qe j (by omega)
  obtain⟨x,h1,hy,BL⟩:∃x h1,nI false P ops o s x h1/\G9 P ops l K ((s.wh h1).put o.dst x):=by
   rcases TZ h with⟨g,hd⟩|⟨g,hd⟩
   ·obtain⟨x,h1,h2,h3⟩:=SW hd;exact⟨x,h1, .inl ⟨g,h2⟩,h3⟩
   ·exact⟨_,s.h, .inr ⟨g,rfl,rfl⟩,hd⟩
  refine Qy hK hM h0 l.length listed s hD (λj oj hj cP tE y5=> ?_) nW hy (UW hK Dw hM l (k+1) _ _ qm ah1 (hD.set nW) eB BL);unfold WE at hf;rw[h0]at hf;simp only[arY,List.mem_range]at hf;have:=hf j (arN.1 hj).1;rw[y5,hj]at this;simp only[Bool.or_false,Bool.or_eq_true,arA,decide_eq_true_eq]at this;rcases this with this|this
  ·exfalso;have:=qe j (by omega);rw[this]at tE;cases tE
  ·exact this
def Zb(ops:Array Oper):Nat->Array Bool->asn Nat
 |0,_=>[]
 |f+1,listed=>match (Region.ready .any ops listed).find? (λk=>match ops[k]? with|some o=> !(cu o==6)&& !pj true o|none=>false)with
  |some k=>k::Zb ops f (listed.setIfInBounds k true)
  |none=>match Region.ready .any ops listed with
   |k::_=>k::Zb ops f (listed.setIfInBounds k true)
   |[]=>[]
def FB(m:Bool)(M:Array Nat)(ops:Array Oper):asn Nat->Array Bool->Bool
 |[],listed=>(Region.ready .any ops listed).isEmpty
 |k::l,listed=>(Region.ready .any ops listed).contains k&&(match ops[k]? with
  |none=>false
  |some oi=>(List.range ops.size).all λj=>j==k||listed.getD j true||(M.getD j 0).testBit k||match ops[j]? with
   |some oj=>oi.apart ops oj&&CC m oi oj
   |none=>true)&&FB m M ops l (listed.setIfInBounds k true)
def Ns(m:Bool)(ops:Array Oper)(p:asn Nat):Bool:=tM (Region.before ops) ops&&FB m (Region.before ops) ops p (Array.replicate ops.size false)
def tw(ops:Array Oper):asn Nat->asn Oper
 |[]=>[]
 |k::l=>match ops[k]? with
  |some o=>o::tw ops l
  |none=>tw ops l
theorem acS{m:Bool}{K K':St->Prop}(hK:vC K')(Dw:∀s,K s->K' s){M:Array Nat}(hM:tM M ops=true):∀(l:asn Nat)(listed:Array Bool)(s:St),Dn ops listed->
 FB m M ops l listed=true->wc m P ops (tw ops l) K s->oH m P ops K' l.length listed s
 |[],_,_,_,hB,h=>⟨by simpa [FB]using hB,Dw _ h⟩
 |k::l,listed,s,hD,hB,h=>by
  simp only[FB,arA]at hB;obtain⟨⟨hr,hf⟩,eB⟩:=hB;have nW:k∈Region.ready .any ops listed:=by simpa using hr
  obtain⟨_,o,h0,_⟩:=mem_ready.1 nW;rw[h0]at hf;simp only[arY,List.mem_range]at hf;simp only[tw,h0]at h;obtain⟨x,h1,hy,BL⟩:∃x h1,nI m P ops o s x h1/\wc m P ops (tw ops l) K ((s.wh h1).put o.dst x):=by
   rcases TZ h with⟨g,hd⟩|⟨g,hd⟩
   ·obtain⟨x,h1,h2,h3⟩:=SW hd;exact⟨x,h1, .inl ⟨g,h2⟩,h3⟩
   ·exact⟨_,s.h, .inr ⟨g,rfl,rfl⟩,hd⟩
  refine Qy hK hM h0 l.length listed s hD (λj oj hj cP tE y5=> ?_) nW hy (acS hK Dw hM l _ _ (hD.set nW) eB BL);have:=hf j (arN.1 hj).1;rw[y5,tE,hj]at this;simp only[Bool.or_false,Bool.or_eq_true,arA,beq_iff_eq]at this;rcases this with this|this
  ·exact absurd this cP
  ·exact this
end
section
variable {P:asq} {r:asp Nat} {n N0:Nat} {G:Gh} {w:ass} {a:Act} {s:St} {o:Oper} {Q:Exit->St->Prop}
theorem cN.drew(hs:cN G w a s):b7 G.N G w G {w with drawn:=w.drawn+1}/\cN G {w with drawn:=w.drawn+1} a s:=by
 have hE:b7 G.N G w G {w with drawn:=w.drawn+1}:=⟨arJ _,λ_ _ h=>h,λ_ _ _=>rfl,λ_ _=>rfl,λ_ _=> .inl ⟨rfl,rfl⟩,zsame rfl,λ_ _=>rfl,rfl,rfl,rfl,λ_ _ h=> .inl h⟩;have hi:b9 G {w with drawn:=w.drawn+1} s.h:=⟨hs.inv.len,hs.inv.z,hs.inv.S,λn B hB=>eu.bj (hs.inv.lt hB) hE (arJ _) ⟨rfl,rfl,rfl⟩ (λ_ _=>⟨rfl,λ_ h=>h⟩) (hs.inv.dv n B hB),hs.inv.inj,hs.inv.gl.bj hE⟩;exact⟨hE,hs.move hE (arJ _) hi⟩
theorem agn{m:Bool}{x:AV}{h1:asn ao}(h:eE m P o (ev s) s.h x h1):jn P o (ev s) s.h (λx' h'=>(s.wh h').put o.dst x'=(s.wh h1).put o.dst x):=U3 h _ rfl
theorem Gk{m:Bool}{ops:Array Oper}{K:St->Prop}{Q':Exit->Act->ass->Prop}(hQ:∀a' w',jv N0 G w K a' w'->Q' .normal a' w'):∀(fuel:Nat)(listed:Array Bool)(G1:Gh)(w1:ass)(a:Act)(s:St),
 b7 N0 G w G1 w1->N0<=G1.N->cN G1 w1 a s->oH m P ops K fuel listed s->wpAnyIn (WF r) n P .any ops Q' fuel listed a w1
 |0,_,G1,w1,a,s,hE,hN,hs,h=>⟨h.1,hQ _ _ ⟨G1,s,hE,hN,hs,h.2⟩⟩
 |fuel+1,listed,G1,w1,a,s,hE,hN,hs,h=>by
  refine⟨λh0=>hQ _ _ ⟨G1,s,hE,hN,hs,h.1 h0⟩,λi hi=> ?_⟩;obtain⟨_,o,ho,_⟩:=mem_ready.1 hi;obtain⟨x,h1,hy,BL⟩:=h.2 i hi o ho;unfold wpOpIn;rw[ho];simp only;rcases hy with⟨g,hc⟩|⟨g,rfl,rfl⟩
  ·have hg:=QF hs g;split at hg
   ·rename_i hw
    rw[if_pos hw];refine Oper.wpIn_mono (λa' w' hn=> ?_) ((agn hc).elim (λk=>adJ (K:=λs'=>s'=(s.wh h1).put o.dst x) (r:=r) (n:=n) (N0:=N0) (Q:=Q') hs hN k) fun⟨_,va,x',h',p,k1,k2,k3⟩=>ZM (K:=λs'=>s'=(s.wh h1).put o.dst x) (r:=r) (n:=n) (N0:=N0) (Q:=Q') hs hN ⟨va,x',h',p,k1,k2,k3⟩);obtain⟨G2,s2,e2,n2,yx,rfl⟩:=hn;exact Gk hQ fuel _ G2 w' a' _ (hE.trans e2) n2 yx BL
   ·exact hg.elim
  ·have hg:=QF hs g;split at hg
   ·exact hg.elim
   ·rename_i hw
    rw[if_neg hw];exact⟨λ_ _=>trivial,Gk hQ fuel _ G1 w1 _ _ hE hN (hs.put (.d (.v undef)) o.dst) BL⟩
theorem L8{id:Nat}{l:asn Oper}(hm:P.follows .mixedOrders=true)(hl:om l.toArray=true)(h:G9 P l.toArray l (Q .normal) s):bJ P r N0 (.region id l.toArray true) Q s:=by
 constructor
 intro G w a n hs hN;unfold om at hl;rw[arA]at hl;obtain⟨d1,d2⟩:=hs.drew;refine wpIn_region_any hm ?_;have hC:vC (λs=>∃s',jc s' s/\Q .normal s'):=λs s' e ⟨s0,e0,h0⟩=>⟨s0,e0.trans e,h0⟩;have:=UW (K:=Q .normal) hC (λs h=>⟨s,jc.refl s,h⟩) hl.1 l 0 (Array.replicate l.toArray.size false) s (by simp) (λj hj=>absurd hj (ar0 _)) (λj o ho hj=>by
  exfalso;rw[Array.getD_eq_getD_getElem?]at hj;rw[Array.getElem?_replicate]at hj;split at hj<;>simp at hj) (by simpa using hl.2) h
 refine Gk (G:=G) (w:=w) (N0:=N0) (K:=λs=>∃s',jc s' s/\Q .normal s') (λa' w' hn=> ?_) l.toArray.size _ G _ a s (d1.less hN) hN d2 (by simpa using this);obtain⟨G',s',x1,x2,x3,s0,e0,x4⟩:=hn;refine⟨G',s0,x1,x2,⟨x3.size.trans e0.n.symm,λi=>by rw[e0.t i];exact x3.tmp i,by rw[e0.h];exact x3.inv,x3.df⟩,x4⟩
theorem afV{m:Bool}{id:Nat}{ops:Array Oper}(p:asn Nat)(hm:P.follows .mixedOrders=true)(hz:p.length=ops.size)(hl:Ns m ops p=true)(h:wc m P ops (tw ops p) (Q .normal) s):bJ P r N0 (.region id ops true) Q s:=by
 constructor
 intro G w a n hs hN;unfold Ns at hl;rw[arA]at hl;obtain⟨d1,d2⟩:=hs.drew;refine wpIn_region_any hm ?_;have hC:vC (λs=>∃s',jc s' s/\Q .normal s'):=λs s' e ⟨s0,e0,h0⟩=>⟨s0,e0.trans e,h0⟩;have:=acS (K:=Q .normal) hC (λs h=>⟨s,jc.refl s,h⟩) hl.1 p (Array.replicate ops.size false) s (λj o ho hj=>by
  exfalso;rw[Array.getD_eq_getD_getElem?]at hj;rw[Array.getElem?_replicate]at hj;split at hj<;>simp at hj) hl.2 h
 rw[hz]at this;refine Gk (G:=G) (w:=w) (N0:=N0) (K:=λs=>∃s',jc s' s/\Q .normal s') (λa' w' hn=> ?_) ops.size _ G _ a s (d1.less hN) hN d2 this;obtain⟨G',s',x1,x2,x3,s0,e0,x4⟩:=hn;refine⟨G',s0,x1,x2,⟨x3.size.trans e0.n.symm,λi=>by rw[e0.t i];exact x3.tmp i,by rw[e0.h];exact x3.inv,x3.df⟩,x4⟩
end
def art(want:Bool):AV->Bool
 | .d (.v (.bool b))=>b==want
 |_=>false
def gNo(want:Bool):AV->Bool
 | .d (.v (.bool b))=>b== !want
 | .d (.v (.tuple _))=>true
 |_=>false
def akD(t:asn (Nat×AV)):asp Nat->AV
 |some d=>bw t d
 |none=> .dead
def wg(ops:Array Oper)(j:Nat)(t:asn (Nat×AV)):AV:=akD t ((ops[j]?).bind (·.dst))
section
variable {P:asq} {ops:Array Oper} {dst:asp Nat} {op:Op} {ty:TypeId} {pos:String} {after:Array Edge} {j:Nat} {w:Bool} {s:St} {rest:asn Oper} {K:St->Prop} {y n:Prop}
theorem NN:jy ops ⟨dst,op,ty,pos,after,some (j,w)⟩ s y n=(match wg ops j s.t with
 | .d (.v (.bool b))=>(b=w->y)/\(b= !w->n)
 | .d (.v (.tuple _))=>n
 |_=>False):=by
 show(match (ops[j]?).bind (·.dst)with
  |some d=>match bw s.t d with
   | .d (.v (.bool b))=>(b=w->y)/\(b= !w->n)
   | .d (.v (.tuple _))=>n
   |_=>False
  |none=>False)=_
 unfold wg;cases (ops[j]?).bind (·.dst)<;>rfl
end
section
variable {P:asq} {r:asp Nat} {n N0:Nat} {G:Gh} {w:ass} {a:Act} {s:St} {o:Oper} {Q:Exit->St->Prop}
theorem cy{K:St->Prop}(h:K s):ik K Q .normal s:=h
theorem jB{K:St->Prop}{i:Nat}(h:Q (.exit i) s):ik K Q (.exit i) s:=h
theorem fV{K:St->Prop}(h:Q .ret s):ik K Q .ret s:=h
theorem lC{id:Nat}(h:Q .normal s):qB id Q .normal s:=h
theorem gW{id:Nat}(h:Q .ret s):qB id Q .ret s:=h
theorem pR{id i:Nat}(e:(i==id)=true)(h:Q .normal s):qB id Q (.exit i) s:=by simpa only[qB,e,cond_true]using h
theorem ajl{id i:Nat}(e:(i==id)=false)(h:Q (.exit i) s):qB id Q (.exit i) s:=by simpa only[qB,e,cond_false]using h
theorem nq{c:Operand}{x y:Code}(hc:ev s c= .d (.v (.bool true)))(h:bJ P r N0 x Q s):bJ P r N0 (.cond c x y) Q s:=PX hc (λ_=>h) λh=>Bool.noConfusion h
theorem nk{c:Operand}{x y:Code}(hc:ev s c= .d (.v (.bool false)))(h:bJ P r N0 y Q s):bJ P r N0 (.cond c x y) Q s:=PX hc (λh=>Bool.noConfusion h) λ_=>h
theorem jJ{c:Operand}{x y:Code}{t:Bool}(hc:ev s c= .d (.v (.bool t)))(e:t=true)(h:bJ P r N0 x Q s):bJ P r N0 (.cond c x y) Q s:=nq (by rw[hc,e]) h
theorem jx{c:Operand}{x y:Code}{t:Bool}(hc:ev s c= .d (.v (.bool t)))(e:t=false)(h:bJ P r N0 y Q s):bJ P r N0 (.cond c x y) Q s:=nk (by rw[hc,e]) h
theorem abp{c:Code}(k:Nat)(e:TypeId)(sz:Nat)(xs:asn (asn D))(hx:bw s.t k= .full xs\/(bw s.t k= .d (.v (.slice none 0 0))/\xs=[]))
 (h:bJ P r N0 c Q ⟨s.n,(k, .own s.h.length xs)::s.t,s.h++[.front e sz xs.length]⟩):bJ P r N0 c Q s:=by
 constructor
 intro G w a n hs hN;have hp:dD G.S w (a.tmps.getD k undef) (.sl xs)/\∃A,a.tmps.getD k undef= .slice A xs.length xs.length:=by
  have hv:=hs.tmp k;revert hv;generalize a.tmps.getD k undef=u;intro hv;rcases hx with hx|⟨hx,rfl⟩
  ·rw[hx]at hv;cases hv with|full _ hp hf=>exact⟨hp,hf⟩
  ·rw[hx]at hv;rw[hv.val];exact⟨Gf,none,rfl⟩
 obtain⟨a1,a2,a3,a4⟩:=Ud hs.inv hp.1 hp.2 e sz;have ct:cN (G.addF (a.tmps.getD k undef) xs.length) w a ⟨s.n,(k, .own s.h.length xs)::s.t,s.h++[.front e sz xs.length]⟩:=by
  refine⟨hs.size,λi=> ?_,a3,hs.df.bj a1⟩;show aJ _ _ _ (bw ((k, .own s.h.length xs)::s.t) i);rw[kY];split
  ·next e=>exact e▸a4
  ·exact(hs.tmp i).bj a1 a2
 exact wpIn_mono (h.run _ w a n ct (arQ hN a2)) λ_ _ _ hn=>hn.trans (a1.less hN)
end
theorem adx{G:Gh}{w:ass}{h:asn ao}{b:Nat}{cs cm:asn AV}(hi:b9 G w h)(hb:h[b]?=some (.cells cs))(hl:cm.length=cs.length)
 (hc:∀(vs:Array asr)(T:TypeId),w.heap[G.bg b]?=some (.cells vs T (0,0))->∀(i:Nat)(u:asr)(c:AV),vs[i]?=some u->cm[i]?=some c->aJ G w u c):b9 G w (h.set b (ao.cells cm)):=by
 have ho:∀n,cg (h.set b (ao.cells cm)) G n=cg h G n:=λn=>by
  have aS:=(ary.1 hb).1;unfold cg;by_cases e:b=n
  ·subst e;rw[ar1 aS,hb];rfl
  ·rw[ar6 e]
 refine⟨by rw[List.length_set];exact hi.len,hi.z,hi.S,λn B hB=> ?_,λm n x hm hn=>hi.inj m n x (by rw[<-ho];exact hm) (by rw[<-ho];exact hn),hi.gl⟩;have aS:=(ary.1 hb).1;by_cases e:b=n
 ·subst e;rw[ar1 aS]at hB;cases hB
  obtain⟨h1,h2,vs,T,h3,h4,_⟩:=hi.dv _ _ hb;exact⟨h1,h2,vs,T,h3,h4.trans hl.symm,hc vs T h3⟩
 ·rw[ar6 e]at hB;exact hi.dv n B hB
theorem NA{P:asq}{r:asp Nat}{N0:Nat}{s:St}{Q:Exit->St->Prop}{c:Code}(b i:Nat)(e:TypeId)(sz:Nat)(xs:asn (asn D)){cs:asn AV}(hb:s.h[b]?=some (.cells cs))(hx:cs[i]?=some (.full xs)\/(cs[i]?=some (.d (.v (.slice none 0 0)))/\xs=[]))
 (h:bJ P r N0 c Q ⟨s.n,s.t,(s.h++[ao.front e sz xs.length]).set b (ao.cells (cs.set i (AV.own s.h.length xs)))⟩):bJ P r N0 c Q s:=by
 constructor
 intro G w a n hs hN;obtain⟨h1,h2,vs,T,h3,h4,h5⟩:=hs.inv.dv _ _ hb;have hi:i<cs.length:=by rcases hx with hx|⟨hx,_⟩<;>exact(ary.1 hx).1
 have hv:vs[i]?=some vs[i]:=arU (by omega);have hp:dD G.S w vs[i] (.sl xs)/\∃A,vs[i]= .slice A xs.length xs.length:=by
  rcases hx with hx|⟨hx,rfl⟩
  ·have:=h5 i _ _ hv hx;generalize vs[i]=u at this;cases this with|full _ hp hf=>exact⟨hp,hf⟩
  ·have:=h5 i _ _ hv hx;rw[this.val];exact⟨Gf,none,rfl⟩
 obtain⟨a1,a2,a3,a4⟩:=Ud hs.inv hp.1 hp.2 e sz;have aS:=(ary.1 hb).1;have ct:cN (G.addF vs[i] xs.length) w a ⟨s.n,s.t,(s.h++[ao.front e sz xs.length]).set b (ao.cells (cs.set i (AV.own s.h.length xs)))⟩:=by
  refine⟨hs.size,λj=>(hs.tmp j).bj a1 a2,adx a3 (by rw[arI aS];exact hb) (by rw[List.length_set]) λgp T' Hx j u c hu hc=> ?_,hs.df.bj a1⟩;have e1:(G.addF vs[i] xs.length).bg b=G.bg b:=by
   have:b≠G.N:=by have:=hs.inv.len;omega
   simp [Gh.addF]
  rw[e1,h3]at Hx;cases Hx
  by_cases e2:i=j
  ·subst e2;rw[ar1 hi]at hc;cases hc
   rw[hv]at hu;cases hu
   exact a4
  ·rw[ar6 e2]at hc;exact(h5 j u c hu hc).bj a1 a2
 exact wpIn_mono (h.run _ w a n ct (arQ hN a2)) λ_ _ _ hn=>hn.trans (a1.less hN)
def AV.Le(x y:AV):Prop:=∀(G:Gh)(w:ass)(u:asr),aJ G w u x->aJ G w u y
theorem AV.Le.refl(x:AV):AV.Le x x:=λ_ _ _ h=>h
theorem AV.Le.full(xs:asn (asn D)):AV.Le (.full xs) (.d (.sl xs)):=λ_ _ _ h=>by
 cases h with|full _ hp _=>exact .d hp
theorem AV.Le.nil:AV.Le (.d (.v (.slice none 0 0))) (.d (.sl [])):=λ_ _ _ h=>by
 rw[h.val];exact .d Gf
theorem AV.Le.agg{cs ds:asn AV}(hl:cs.length=ds.length)(h:∀(i:Nat)(c d:AV),cs[i]?=some c->ds[i]?=some d->AV.Le c d):AV.Le (.agg cs) (.agg ds):=λG w u hu=>by
 cases hu with
 |agg vs _ qm hv=>
  refine .agg vs ds (qm.trans hl) λi u d hui hd=> ?_;have aS:i<cs.length:=by rw[hl];exact(ary.1 hd).1
  exact h i _ d (arC aS) hd G w u (hv i u _ hui (arC aS))
set_option linter.unusedSimpArgs false
set_option linter.unusedVariables false
def rn:asn Nat->Nat->Nat->Nat
 |[],base,i=>base+i
 |j::_,_,0=>j
 |_::l,base,i+1=>rn l base i
theorem B9:∀(l:asn Nat)(base i:Nat)(j:Nat),l[i]?=some j->rn l base i=j
 |[],_,i,j,h=>by simp at h
 |a::l,base,0,j,h=>by simpa [rn]using h
 |a::l,base,i+1,j,h=>by rw[rn];exact B9 l base i j (by simpa using h)
theorem IW:∀(l:asn Nat)(base i:Nat),l.length<=i->rn l base i=base+(i-l.length)
 |[],base,i,_=>by simp [rn]
 |a::l,base,0,h=>by simp at h
 |a::l,base,i+1,h=>by rw[rn,IW l base i (by simpa using h)];simp
mutual
def AV.aN(σ:Nat->Nat):AV->AV
 | .ptr n off=> .ptr (σ n) off
 | .own n xs=> .own (σ n) xs
 | .row n off len cap k=> .row (σ n) off len cap k
 | .mp n=> .mp (σ n)
 | .dc n=> .dc (σ n)
 | .vec n o len L k=> .vec (σ n) o len L k
 | .dx n i j L k=> .dx (σ n) i j L k
 | .agg cs=> .agg (AV.fP σ cs)
 | .aX cs=> .aX (AV.fP σ cs)
 | .fn f cs=> .fn f (AV.fP σ cs)
 | .d x=> .d x
 | .bP xs i off=> .bP xs i off
 | .full xs=> .full xs
 | .hid c=> .hid c
 | .dead=> .dead
def AV.fP(σ:Nat->Nat):asn AV->asn AV
 |[]=>[]
 |x::l=>x.aN σ::AV.fP σ l
end
theorem ic(σ:Nat->Nat):∀l,AV.fP σ l=l.map (AV.aN σ)
 |[]=>by simp [AV.fP]
 |x::l=>by simp [AV.fP,ic σ l]
def ao.aN(σ:Nat->Nat):ao->ao
 | .cells cs=> .cells (AV.fP σ cs)
 | .lp ls p as bd cs=> .lp ls p as bd (AV.fP σ cs)
 | .it sn cs=> .it sn (AV.fP σ cs)
 | .vec e k cs=> .vec e k (cs.map (AV.fP σ))
 | .front e k len=> .front e k len
 | .map kv=> .map kv
 | .gone=> .gone
def putAll:asn Nat->asn ao->asn ao->asn ao
 |[],Bs,h=>h++Bs
 |_::_,[],h=>h
 |i::l,B::Bs,h=>putAll l Bs (h.set i B)
structure qT(σ:Nat->Nat)(G G2:Gh):Prop where
 lt:∀n,n<G.N->σ n<G2.N
 bg:∀n,n<G.N->G2.bg (σ n)=G.bg n
 sg:∀n,n<G.N->G2.sg (σ n)=G.sg n
 fl:∀n,n<G.N->G2.fl (σ n)=G.fl n
 ow:∀n,n<G.N->G2.ow (σ n)=G.ow n
 S:∀b o,G2.S b o↔G.S b o
theorem dD.ui{S S':Nat->Nat->Prop}{w:ass}(hS:∀b o,S b o->S' b o){u:asr}{x:D}(h:dD S w u x):dD S' w u x:=h.bj hS (λ_ _ _=>rfl)
theorem aJ.aN{σ:Nat->Nat}{G G2:Gh}{w:ass}(hR:qT σ G G2){u:asr}{x:AV}(h:aJ G w u x):aJ G2 w u (x.aN σ):=by
 have hS:∀b o,G.S b o->G2.S b o:=λb o h=>(hR.S b o).2 h;have gz:∀(vs:Array asr)(cs:asn AV),(∀(i:Nat)(u:asr)(c:AV),vs[i]?=some u->cs[i]?=some c->aJ G2 w u (c.aN σ))->∀(i:Nat)(u:asr)(c:AV),vs[i]?=some u->(AV.fP σ cs)[i]?=some c->aJ G2 w u c:=by
  intro vs cs ih i u c hu hc;rw[ic,arF]at hc;cases hx:cs[i]? with
  |none=>rw[hx]at hc;cases hc
  |some x=>rw[hx]at hc;cases hc;exact ih i u x hu hx
 induction h with
 |agg vs cs hl _ ih=>rw[AV.aN];exact .agg vs _ (by rw[ic,arD];exact hl) (gz vs cs ih)
 |aX vs cs hl _ ih=>rw[AV.aN];exact .aX vs _ (by rw[ic,arD];exact hl) (gz vs cs ih)
 |fn f vs cs hl _ ih=>rw[AV.aN];exact .fn f vs _ (by rw[ic,arD];exact hl) (gz vs cs ih)
 |d h=>rw[AV.aN];exact .d (h.ui hS)
 |full xs hp hf=>rw[AV.aN];exact .full xs (hp.ui hS) hf
 |ptr n off h=>rw[AV.aN,<-hR.bg n h];exact .ptr _ off (hR.lt n h)
 |row n off len cap k h hl hm=>rw[AV.aN,<-hR.bg n h];exact .row _ off len cap k (hR.lt n h) hl hm
 |mp n h=>rw[AV.aN,<-hR.bg n h];exact .mp _ (hR.lt n h)
 |dc n h=>rw[AV.aN,<-hR.bg n h];exact .dc _ (hR.lt n h)
 |own n xs h hp hle hf=>rw[AV.aN];exact .own _ xs (hR.lt n h) (hp.ui hS) (by rw[hR.fl n h];exact hle) (by rw[hR.fl n h,hR.sg n h];exact hf)
 |vec n o len L k h hs hL hf=>rw[AV.aN];exact .vec _ o len L k (hR.lt n h) hs (by rw[hR.fl n h];exact hL) (by rw[hR.fl n h,hR.sg n h];exact hf)
 |dx n i j L k h hs hL hf=>rw[AV.aN];exact .dx _ i j L k (hR.lt n h) hs (by rw[hR.fl n h];exact hL) (by rw[hR.fl n h,hR.sg n h];exact hf)
 |bP xs i off b o u x hx rI hu=>rw[AV.aN];exact .bP xs i off b o u x hx (λj hj=>⟨hS _ _ (rI j hj).1,(rI j hj).2⟩) (λj d hd=>(hu j d hd).ui hS)
 |hid h h1=>rw[AV.aN];exact .hid (h.bj hS (λ_ _ _=>rfl)) h1
 |dead u=>rw[AV.aN];exact .dead u
theorem aJ.vr{σ:Nat->Nat}{G G2:Gh}{w:ass}(hR:qT σ G G2){u:asr}{y:AV}(h:aJ G2 w u y):∀x:AV,x.aN σ=y->x.aQ G.N=true->aJ G w u x:=by
 have hS:∀b o,G2.S b o->G.S b o:=λb o h=>(hR.S b o).1 h;have lt:∀n,(!cp G.N n)=true->n<G.N:=λn h=>by rw[Bool.not_eq_true',<-Bool.not_eq_true,dJ]at h;omega
 have gz:∀(vs:Array asr)(cs xs:asn AV),(∀(i:Nat)(u:asr)(c:AV),vs[i]?=some u->cs[i]?=some c->∀x:AV,x.aN σ=c->x.aQ G.N=true->aJ G w u x)->AV.fP σ xs=cs->AV.nH G.N xs=true->∀(i:Nat)(u:asr)(c:AV),vs[i]?=some u->xs[i]?=some c->aJ G w u c:=by
  intro vs cs xs ih e hb i u c hu hc;subst e;rw[nR,arY]at hb;exact ih i u (c.aN σ) hu (by rw[ic,arF,hc];rfl) c rfl (hb c (arL hc))
 induction h with
 |agg vs cs hl _ ih=>
  intro x e hb;cases x<;>simp only[AV.aN,AV.agg.injEq,reduceCtorEq]at e
  next xs=>
   rw[AV.aQ]at hb;exact .agg vs xs (by rw[hl,<-e,ic,arD]) (gz vs cs xs ih e hb)
 |aX vs cs hl _ ih=>
  intro x e hb;cases x<;>simp only[AV.aN,AV.aX.injEq,reduceCtorEq]at e
  next xs=>
   rw[AV.aQ]at hb;exact .aX vs xs (by rw[hl,<-e,ic,arD]) (gz vs cs xs ih e hb)
 |fn f vs cs hl _ ih=>
  intro x e hb;cases x<;>simp only[AV.aN,AV.fn.injEq,reduceCtorEq]at e
  next g xs=>
   obtain⟨rfl,e⟩:=e;rw[AV.aQ]at hb;exact .fn _ vs xs (by rw[hl,<-e,ic,arD]) (gz vs cs xs ih e hb)
 |d h=>
  intro x e hb;cases x<;>simp only[AV.aN,AV.d.injEq,reduceCtorEq]at e
  next y=>subst e;exact .d (h.ui hS)
 |full xs hp hf=>
  intro x e hb;cases x<;>simp only[AV.aN,AV.full.injEq,reduceCtorEq]at e
  next y=>subst e;exact .full y (hp.ui hS) hf
 |ptr n off h=>
  intro x e hb;cases x<;>simp only[AV.aN,AV.ptr.injEq,reduceCtorEq]at e
  next m o=>
   obtain⟨e1,rfl⟩:=e;rw[AV.aQ]at hb;have hm:=lt _ hb;rw[<-e1,hR.bg _ hm];exact .ptr _ _ hm
 |row n off len cap k h hl ma=>
  intro x e hb;cases x<;>simp only[AV.aN,AV.row.injEq,reduceCtorEq]at e
  next m o l c q=>
   obtain⟨e1,rfl,rfl,rfl,rfl⟩:=e;rw[AV.aQ]at hb;have hm:=lt _ hb;rw[<-e1,hR.bg _ hm];exact .row _ _ _ _ _ hm hl ma
 |mp n h=>
  intro x e hb;cases x<;>simp only[AV.aN,AV.mp.injEq,reduceCtorEq]at e
  next m=>
   rw[AV.aQ]at hb;have hm:=lt _ hb;rw[<-e,hR.bg _ hm];exact .mp _ hm
 |dc n h=>
  intro x e hb;cases x<;>simp only[AV.aN,AV.dc.injEq,reduceCtorEq]at e
  next m=>
   rw[AV.aQ]at hb;have hm:=lt _ hb;rw[<-e,hR.bg _ hm];exact .dc _ hm
 |own n xs h hp hle hf=>
  intro x e hb;cases x<;>simp only[AV.aN,AV.own.injEq,reduceCtorEq]at e
  next m l=>
   obtain⟨e1,rfl⟩:=e;rw[AV.aQ]at hb;have hm:=lt _ hb;rw[<-e1]at hle hf;exact .own _ _ hm (hp.ui hS) (by rw[<-hR.fl _ hm];exact hle) (by rw[<-hR.fl _ hm,<-hR.sg _ hm];exact hf)
 |vec n o len L k h hs hL hf=>
  intro x e hb;cases x<;>simp only[AV.aN,AV.vec.injEq,reduceCtorEq]at e
  next m a1 a2 a3 a4=>
   obtain⟨e1,rfl,rfl,rfl,rfl⟩:=e;rw[AV.aQ]at hb;have hm:=lt _ hb;rw[<-e1]at hL hf;exact .vec _ _ _ _ _ hm hs (by rw[<-hR.fl _ hm];exact hL) (by rw[<-hR.fl _ hm,<-hR.sg _ hm];exact hf)
 |dx n i j L k h hs hL hf=>
  intro x e hb;cases x<;>simp only[AV.aN,AV.dx.injEq,reduceCtorEq]at e
  next m a1 a2 a3 a4=>
   obtain⟨e1,rfl,rfl,rfl,rfl⟩:=e;rw[AV.aQ]at hb;have hm:=lt _ hb;rw[<-e1]at hL hf;exact .dx _ _ _ _ _ hm hs (by rw[<-hR.fl _ hm];exact hL) (by rw[<-hR.fl _ hm,<-hR.sg _ hm];exact hf)
 |bP xs i off b o u y hx rI hu=>
  intro x e hb;cases x<;>simp only[AV.aN,AV.bP.injEq,reduceCtorEq]at e
  next a1 a2 a3=>
   obtain⟨rfl,rfl,rfl⟩:=e;exact .bP _ _ _ b o u y hx (λj hj=>⟨hS _ _ (rI j hj).1,(rI j hj).2⟩) (λj d hd=>(hu j d hd).ui hS)
 |hid h h1=>
  intro x e hb;cases x<;>simp only[AV.aN,AV.hid.injEq,reduceCtorEq]at e
  next c=>subst e;exact .hid (h.bj hS (λ_ _ _=>rfl)) h1
 |dead u=>
  intro x e hb;cases x<;>simp only[AV.aN,reduceCtorEq]at e
  exact .dead u
theorem OL{σ:Nat->Nat}{G G2:Gh}(hR:qT σ G G2){n:Nat}(hn:n<G.N)(B:ao):(B.aN σ).dX G2 (σ n)=B.dX G n:=by
 cases B<;>simp only[ao.aN,ao.dX,hR.bg n hn,hR.ow n hn]
theorem eu.aN{σ:Nat->Nat}{G G2:Gh}{w:ass}(hR:qT σ G G2){n:Nat}(hn:n<G.N){B:ao}(hz:∀b,B.dX G n=some b->¬G2.Z b)(h:eu G w n B):eu G2 w (σ n) (B.aN σ):=by
 have hS:∀b o,¬G.S b o->¬G2.S b o:=λb o h h2=>h ((hR.S b o).1 h2);cases B with
 |gone=>trivial
 |cells cs=>
  obtain⟨h1,h2,vs,T,h3,h4,h5⟩:=h;rw[ao.aN];refine⟨by rw[hR.bg n hn];exact hz _ rfl,by rw[hR.bg n hn];exact λo=>hS _ _ (h2 o),vs,T,by rw[hR.bg n hn];exact h3,by rw[ic,arD];exact h4,λi u c hu hc=> ?_⟩;rw[ic,arF]at hc;cases hx:cs[i]? with
  |none=>rw[hx]at hc;cases hc
  |some x=>rw[hx]at hc;cases hc;exact(h5 i u x hu hx).aN hR
 |lp ls p as bd cs=>
  obtain⟨h1,h2,fn,vs,T,h3,h4,h5⟩:=h;rw[ao.aN];refine⟨by rw[hR.bg n hn];exact hz _ rfl,by rw[hR.bg n hn];exact λo=>hS _ _ (h2 o),fn,vs,T,by rw[hR.bg n hn];exact h3,by rw[ic,arD];exact h4,λi u c hu hc=> ?_⟩;rw[ic,arF]at hc;cases hx:cs[i]? with
  |none=>rw[hx]at hc;cases hc
  |some x=>rw[hx]at hc;cases hc;exact(h5 i u x hu hx).aN hR
 |it sn cs=>
  obtain⟨h1,h2,fn,vs,T,h3,h4,h5⟩:=h;rw[ao.aN];refine⟨by rw[hR.bg n hn];exact hz _ rfl,by rw[hR.bg n hn];exact λo=>hS _ _ (h2 o),fn,vs,T,by rw[hR.bg n hn];exact h3,by rw[ic,arD];exact h4,λi u c hu hc=> ?_⟩;rw[ic,arF]at hc;cases hx:cs[i]? with
  |none=>rw[hx]at hc;cases hc
  |some x=>rw[hx]at hc;cases hc;exact(h5 i u x hu hx).aN hR
 |map kv=>
  obtain⟨h1,h2,es,c,h3,h4⟩:=h;exact⟨by rw[hR.bg n hn];exact hz _ rfl,by rw[hR.bg n hn];exact λo=>hS _ _ (h2 o),es,c,by rw[hR.bg n hn];exact h3,h4.bj (λb o h=>(hR.S b o).2 h) (λ_ _ _=>rfl)⟩
 |front e k len=>
  obtain⟨h1,hm,h2⟩:=h;refine⟨(hR.fl n hn).trans h1,hm,?_⟩;rcases h2 with⟨h2,A,h3⟩|⟨g,cap,cur,h2,h3,h4,h5,h6,h7,h8,h9⟩
  ·exact .inl ⟨(hR.ow n hn).trans h2,A,(hR.sg n hn).trans h3⟩
  ·exact .inr ⟨g,cap,cur,(hR.ow n hn).trans h2,(hR.sg n hn).trans h3,hz g h2,h5,h6,h7,h8,λo ho=>hS _ _ (h9 o ho)⟩
 |vec e k cs=>
  obtain⟨h1,hm,hk,h2⟩:=h;rw[ao.aN];refine⟨by rw[arD];exact(hR.fl n hn).trans h1,by rw[arD];exact hm,λc hc=> ?_,?_⟩
  ·obtain⟨x,hx,rfl⟩:=List.mem_map.1 hc;rw[ic,arD];exact hk x hx
  ·rcases h2 with⟨h2,e2,A,h3⟩|⟨g,cap,cur,h2,h3,h4,h5,h6,h7,h8,h9,aK⟩
   ·exact .inl ⟨(hR.ow n hn).trans h2,by rw[e2];rfl,A,(hR.sg n hn).trans h3⟩
   ·refine .inr ⟨g,cap,cur,(hR.ow n hn).trans h2,by rw[arD];exact(hR.sg n hn).trans h3,hz g h2,h5,by rw[arD];exact h6,h7,h8,λo=>hS _ _ (h9 o),λi j c x u hc hx hu=> ?_⟩;rw[arF]at hc;cases hy:cs[i]? with
    |none=>rw[hy]at hc;cases hc
    |some y=>
     rw[hy]at hc;cases hc
     rw[ic,arF]at hx;cases hw:y[j]? with
     |none=>rw[hw]at hx;cases hx
     |some z=>rw[hw]at hx;cases hx;exact(aK i j y z u hy hw hu).aN hR
theorem eu.vr{σ:Nat->Nat}{G G2:Gh}{w:ass}(hR:qT σ G G2){n:Nat}(hn:n<G.N){B:ao}(hb:B.aQ G.N=true)(hz:∀b,B.dX G n=some b->¬G.Z b)(h:eu G2 w (σ n) (B.aN σ)):eu G w n B:=by
 have hS:∀b o,¬G2.S b o->¬G.S b o:=λb o h h2=>h ((hR.S b o).2 h2);cases B with
 |gone=>trivial
 |cells cs=>
  rw[ao.aN]at h;obtain⟨h1,h2,vs,T,h3,h4,h5⟩:=h;rw[hR.bg n hn]at h2 h3;rw[ic,arD]at h4;simp only[ao.aQ,arY]at hb;exact⟨hz _ rfl,λo=>hS _ _ (h2 o),vs,T,h3,h4,λi u c hu hc=>aJ.vr hR (h5 i u (c.aN σ) hu (by rw[ic,arF,hc];rfl)) c rfl (hb c (arL hc))⟩
 |lp ls p as bd cs=>
  rw[ao.aN]at h;obtain⟨h1,h2,fn,vs,T,h3,h4,h5⟩:=h;rw[hR.bg n hn]at h2 h3;rw[ic,arD]at h4;simp only[ao.aQ,arY]at hb;exact⟨hz _ rfl,λo=>hS _ _ (h2 o),fn,vs,T,h3,h4,λi u c hu hc=>aJ.vr hR (h5 i u (c.aN σ) hu (by rw[ic,arF,hc];rfl)) c rfl (hb c (arL hc))⟩
 |it sn cs=>
  rw[ao.aN]at h;obtain⟨h1,h2,fn,vs,T,h3,h4,h5⟩:=h;rw[hR.bg n hn]at h2 h3;rw[ic,arD]at h4;simp only[ao.aQ,arY]at hb;exact⟨hz _ rfl,λo=>hS _ _ (h2 o),fn,vs,T,h3,h4,λi u c hu hc=>aJ.vr hR (h5 i u (c.aN σ) hu (by rw[ic,arF,hc];rfl)) c rfl (hb c (arL hc))⟩
 |map kv=>
  obtain⟨h1,h2,es,c,h3,h4⟩:=h;rw[hR.bg n hn]at h2 h3;exact⟨hz _ rfl,λo=>hS _ _ (h2 o),es,c,h3,h4.bj (λb o h=>(hR.S b o).1 h) (λ_ _ _=>rfl)⟩
 |front e k len=>
  obtain⟨h1,hm,h2⟩:=h;rw[hR.fl n hn]at h1;rw[hR.ow n hn,hR.sg n hn]at h2;refine⟨h1,hm,?_⟩;rcases h2 with⟨h2,A,h3⟩|⟨g,cap,cur,h2,h3,h4,h5,h6,h7,h8,h9⟩
  ·exact .inl ⟨h2,A,h3⟩
  ·exact .inr ⟨g,cap,cur,h2,h3,hz g h2,h5,h6,h7,h8,λo ho=>hS _ _ (h9 o ho)⟩
 |vec e k cs=>
  rw[ao.aN]at h;obtain⟨h1,hm,hk,h2⟩:=h;rw[hR.fl n hn,arD]at h1;rw[arD]at hm;rw[hR.ow n hn,hR.sg n hn,arD]at h2;simp only[ao.aQ,arY]at hb;refine⟨h1,hm,λc hc=> ?_,?_⟩
  ·have:=hk _ (List.mem_map.2 ⟨c,hc,rfl⟩)
   rwa [ic,arD]at this
  ·rcases h2 with⟨h2,e2,A,h3⟩|⟨g,cap,cur,h2,h3,h4,h5,h6,h7,h8,h9,aK⟩
   ·exact .inl ⟨h2,List.map_eq_nil_iff.1 e2,A,h3⟩
   ·refine .inr ⟨g,cap,cur,h2,h3,hz g h2,h5,h6,h7,h8,λo=>hS _ _ (h9 o),λi j c x u hc hx hu=> ?_⟩;exact aJ.vr hR (aK i j (AV.fP σ c) (x.aN σ) u (by rw[arF,hc];rfl) (by rw[ic,arF,hx];rfl) hu) x rfl (hb c (arL hc) x (arL hx))
theorem adU:∀(l:asn Nat)(Bs h:asn ao),l.length<=Bs.length->(putAll l Bs h).length=h.length+(Bs.length-l.length)
 |[],Bs,h,_=>by simp [putAll]
 |j::l,[],h,hl=>by simp at hl
 |j::l,B::Bs,h,hl=>by rw[putAll,adU l Bs _ (by simpa using hl),List.length_set];simp
theorem Q5:∀(l:asn Nat)(Bs h:asn ao)(n:Nat),l.length<=Bs.length->n<h.length->n ∉ l->(putAll l Bs h)[n]?=h[n]?
 |[],Bs,h,n,_,hn,_=>by rw[putAll,arI hn]
 |j::l,[],h,n,hl,_,_=>by simp at hl
 |j::l,B::Bs,h,n,hl,hn,hm=>by
  simp only[ar2,not_or]at hm;rw[putAll,Q5 l Bs _ n (by simpa using hl) (by rw[List.length_set];exact hn) hm.2,ar6 (Ne.symm hm.1)]
theorem aaR:∀(l:asn Nat)(Bs h:asn ao)(i:Nat),l.length<=Bs.length->l.Nodup->(∀j∈l,j<h.length)->i<Bs.length->(putAll l Bs h)[rn l h.length i]?=Bs[i]?
 |[],Bs,h,i,_,_,_,hi=>by rw[putAll,rn,arO (asd _ _),Nat.add_sub_cancel_left]
 |j::l,[],h,i,hl,_,_,_=>by simp at hl
 |j::l,B::Bs,h,0,hl,hd,aS,_=>by
  rw[List.nodup_cons]at hd;rw[putAll,rn,Q5 l Bs _ j (by simpa using hl) (by rw[List.length_set];exact aS j (by simp)) hd.1,ar1 (aS j (by simp))];rfl
 |j::l,B::Bs,h,i+1,hl,hd,aS,hi=>by
  rw[List.nodup_cons]at hd;have:=aaR l Bs (h.set j B) i (by simpa using hl) hd.2 (λx hx=>by rw[List.length_set];exact aS x (by simp [hx])) (by simpa using hi);rw[List.length_set]at this;rw[putAll,rn,this];simp
def xc(l:asn Nat)(base n:Nat):asp Nat:=if n∈l then some (l.idxOf n)else if base<=n then some (l.length+(n-base))else none
theorem Th{l:asn Nat}{base:Nat}(hd:l.Nodup)(aS:∀j∈l,j<base)(i:Nat):xc l base (rn l base i)=some i:=by
 unfold xc;by_cases hi:i<l.length
 ·have e:l[i]?=some l[i]:=arC hi;rw[B9 l base i _ e,if_pos (List.getElem_mem _),List.Nodup.idxOf_getElem hd i hi]
 ·rw[IW l base i (by omega),if_neg (λh=>by have:=aS _ h;omega),if_pos (asd _ _)]
  congr 1;omega
theorem Uf{l:asn Nat}{base n i:Nat}(h:xc l base n=some i):rn l base i=n:=by
 unfold xc at h;split at h
 ·rename_i hm
  cases h
  have aS:=List.idxOf_lt_length_of_mem hm;refine B9 l base _ n ?_;rw[arC aS,List.getElem_idxOf]
 ·split at h
  ·cases h
   rw[IW _ _ _ (by omega)];omega
  ·cases h
theorem aql{l:asn Nat}{base n:Nat}(h:xc l base n=none):n<base/\n ∉ l:=by
 unfold xc at h;split at h
 ·cases h
 ·split at h
  ·cases h
  ·rename_i h1 h2;exact⟨by omega,h1⟩
def rZ{α:Type}(o:asp Nat)(f:Nat->α)(d:α):α:=match o with|some i=>f i|none=>d
theorem aao{H:asn ao}{l:asn Nat}{h:asn ao}
 (hd:l.Nodup) (aS:∀j∈l,j<h.length) (hH:∀(i j:Nat),l[i]?=some j->h[j]?=(H[i]?).map (ao.aN (rn l h.length))) (hk:l.length=H.length)
 (hb:H.all (ao.aQ H.length)=true) {G:Gh} {w:ass} (hi:b9 G w h):
 ∃G0:Gh,G0.N=H.length/\b9 G0 w H/\qT (rn l h.length) G0 G/\∀(G1:Gh)(w':ass)(H':asn ao),b7 H.length G0 w G1 w'->H.length<=G1.N->b9 G1 w' H'->
  ∃G2:Gh,b7 G.N G w G2 w'/\G.N<=G2.N/\b9 G2 w' (putAll l (H'.map (ao.aN (rn l h.length))) h)/\qT (rn l h.length) G1 G2:=by
 obtain⟨σ,hσ⟩:∃σ,σ=rn l h.length:=⟨_,rfl⟩;rw[<-hσ]at hH ⊢;have LK:h.length=G.N:=hi.len;obtain⟨own,dV⟩:∃own:Nat->Prop,own=λb=>∃j∈l,cg h G j=some b:=⟨_,rfl⟩;obtain⟨G0,kV⟩:∃G0:Gh,G0={N:=H.length,Z:=λb=>b<w.heap.size/\¬own b,S:=G.S,bg:=λi=>G.bg (σ i),sg:=λi=>G.sg (σ i),ow:=λi=>G.ow (σ i),fl:=λi=>G.fl (σ i),M:=G.M}:=⟨_,rfl⟩;have Ju:∀i,i<H.length->∃j,l[i]?=some j/\σ i=j/\j∈l:=λi dN=>by
  have jW:i<l.length:=by rw[hk];exact dN
  exact⟨l[i],arC jW,by rw[hσ];exact B9 l _ i _ (arC jW),List.getElem_mem _⟩
 have tB:qT σ G0 G:=by
  subst kV;refine⟨λn hn=> ?_,λ_ _=>rfl,λ_ _=>rfl,λ_ _=>rfl,λ_ _=>rfl,λ_ _=>Iff.rfl⟩;obtain⟨j,_,e,hj⟩:=Ju n hn;rw[e,<-LK];exact aS j hj
 have cB:G0.N=H.length:=by rw[kV]
 have hσH:∀(i:Nat)(B:ao),H[i]?=some B->h[σ i]?=some (B.aN σ):=λi B hB=>by
  obtain⟨j,e1,e2,_⟩:=Ju i (ary.1 hB).1;rw[e2,hH i j e1,hB];rfl
 have RP:∀(i:Nat)(B:ao)(b:Nat),H[i]?=some B->B.dX G0 i=some b->cg h G (σ i)=some b:=λi B b hB fW=>by
  rw[dP (hσH i B hB),OL tB (by rw[cB];exact(ary.1 hB).1) B];exact fW
 have yp:∀(i:Nat)(B:ao)(b:Nat),H[i]?=some B->B.dX G0 i=some b->¬G0.Z b:=λi B b hB fW hz=>by
  rw[kV]at hz;refine hz.2 ?_;rw[dV];obtain⟨j,_,e2,hj⟩:=Ju i (ary.1 hB).1;exact⟨j,hj,by rw[<-e2];exact RP i B b hB fW⟩
 have akV:∀i i',σ i=σ i'->i=i':=λi i' e=>by
  have h1:=Th hd aS i;have h2:=Th hd aS i';rw[hσ]at e;rw[e,h2]at h1;exact(arR h1).symm
 have sC:b9 G0 w H:=by
  refine⟨cB.symm,λb hz=> ?_,λb o hs=> ?_,λi B hB=> ?_,λm n b h1 h2=> ?_,by rw[kV];exact hi.gl⟩
  ·rw[kV]at hz;exact hz.1
  ·rw[kV]at hs;exact hi.S b o hs
  ·have hiN:i<G0.N:=by rw[cB];exact(ary.1 hB).1
   rw[arY]at hb;exact eu.vr tB hiN (by rw[cB];exact hb B (arL hB)) (λb fW=>yp i B b hB fW) (hi.dv (σ i) _ (hσH i B hB))
  ·obtain⟨B1,wJ,kp⟩:=m7 h1;obtain⟨B2,Pp,lI⟩:=m7 h2;exact akV m n (hi.inj _ _ b (RP m B1 b wJ kp) (RP n B2 b Pp lI))
 refine⟨G0,cB,sC,tB,λG1 w' H' hE gd jD=> ?_⟩;have GV:H'.length=G1.N:=jD.len;obtain⟨ps,E4⟩:∃ps,ps=xc l h.length:=⟨_,rfl⟩;obtain⟨G2,iz⟩:∃G2:Gh,G2={N:=G.N+(G1.N-H.length),Z:=G.Z,S:=G1.S,bg:=λn=>rZ (ps n) G1.bg (G.bg n),sg:=λn=>rZ (ps n) G1.sg (G.sg n),ow:=λn=>rZ (ps n) G1.ow (G.ow n),fl:=λn=>rZ (ps n) G1.fl (G.fl n),M:=G.M}:=⟨_,rfl⟩;have Kh:∀i,ps (σ i)=some i:=λi=>by rw[E4,hσ];exact Th hd aS i
 have ME:∀i,H.length<=i->σ i=G.N+(i-H.length):=λi kG=>by rw[hσ,IW l _ i (by omega),LK,hk]
 have aox:∀i,i<H.length->σ i<G.N:=λi IN=>by
  obtain⟨j,_,e,hj⟩:=Ju i IN;rw[e,<-LK];exact aS j hj
 have OH:qT σ G1 G2:=by
  subst iz;refine⟨λn hn=> ?_,λn _=>by simp only[Kh];rfl,λn _=>by simp only[Kh];rfl,λn _=>by simp only[Kh];rfl,λn _=>by simp only[Kh];rfl,λ_ _=>Iff.rfl⟩;show σ n<G.N+(G1.N-H.length);by_cases fB:n<H.length
  ·have:=aox n fB;omega
  ·rw[ME n (by omega)];omega
 have hZ1:∀b,G0.Z b->G1.Z b:=hE.Z.1.1;have Sc:∀b,G.Z b->G0.Z b:=λb hz=>by
  rw[kV];refine⟨hi.z b hz,λho=> ?_⟩;rw[dV]at ho;obtain⟨j,_,ho⟩:=ho;obtain⟨B,hB,fW⟩:=m7 ho;exact(hi.dv j B hB).mO fW hz
 have kA:b7 G.N G w G2 w':=by
  refine⟨hE.size,λb o hs=> ?_,λb o hs=> ?_,λn hn=> ?_,λn hn=> ?_,zsame (by rw[iz]) (by rw[iz]),λb hz=>hE.old b (Sc b hz),hE.os,hE.tape,hE.output,λb o hs=> ?_⟩
  ·rw[iz];exact hE.S b o (by rw[kV];exact hs)
  ·exact hE.cell b o (by rw[kV];exact hs)
  ·rw[iz];show rZ (ps n) G1.bg (G.bg n)=G.bg n;cases hp:ps n with
   |none=>rfl
   |some i=>
    have e:σ i=n:=by rw[hσ];rw[E4]at hp;exact Uf hp
    have dN:i<H.length:=Nat.lt_of_not_le λkG=>by rw[ME i kG]at e;omega
    show G1.bg i=G.bg n;rw[hE.bg i dN,kV,<-e]
  ·rw[iz];show(rZ (ps n) G1.fl (G.fl n)=G.fl n/\rZ (ps n) G1.sg (G.sg n)=G.sg n)\/G.fl n<rZ (ps n) G1.fl (G.fl n);cases hp:ps n with
   |none=>exact .inl ⟨rfl,rfl⟩
   |some i=>
    have e:σ i=n:=by rw[hσ];rw[E4]at hp;exact Uf hp
    have dN:i<H.length:=Nat.lt_of_not_le λkG=>by rw[ME i kG]at e;omega
    have:=hE.fr i dN;rw[kV]at this;simp only[e]at this;exact this
  ·rw[iz]at hs;rcases hE.new b o hs with h1|h1
   ·rw[kV]at h1;exact .inl h1
   ·exact .inr λhz=>h1 (Sc b hz)
 have hlen:(putAll l (H'.map (ao.aN σ)) h).length=G2.N:=by
  rw[adU _ _ _ (by rw[arD,hk,GV];omega),arD,GV,hk,LK,iz]
 have ahc:∀i,i<G1.N->(putAll l (H'.map (ao.aN σ)) h)[σ i]?=(H'[i]?).map (ao.aN σ):=λi dN=>by
  rw[<-arF,hσ];exact aaR l _ h i (by rw[arD,hk,GV];omega) hd aS (by rw[arD,GV];exact dN)
 have LR:∀(n:Nat)(B:ao),(putAll l (H'.map (ao.aN σ)) h)[n]?=some B->(∃i B',i<G1.N/\n=σ i/\H'[i]?=some B'/\B=B'.aN σ)\/(ps n=none/\n ∉ l/\h[n]?=some B):=λn B hB=>by
  have Xc:n<G2.N:=by rw[<-hlen];exact(ary.1 hB).1
  cases hp:ps n with
  |none=>
   rw[E4]at hp;obtain⟨h1,h2⟩:=aql hp;exact .inr ⟨rfl,h2,by rw[<-Q5 l (H'.map (ao.aN σ)) h n (by rw[arD,hk,GV];omega) h1 h2];exact hB⟩
  |some i=>
   have e:σ i=n:=by rw[hσ];rw[E4]at hp;exact Uf hp
   have dN:i<G1.N:=Nat.lt_of_not_le λkG=>by
    rw[ME i (by omega)]at e;rw[iz]at Xc;have:n<G.N+(G1.N-H.length):=Xc;omega
   rw[<-e,ahc i dN]at hB;cases hx:H'[i]? with
   |none=>rw[hx]at hB;cases hB
   |some B'=>rw[hx]at hB;cases hB;exact .inl ⟨i,B',dN,e.symm,hx,rfl⟩
 have hold:∀(n b:Nat),n ∉ l->cg h G n=some b->G0.Z b:=λn b hn fW=>by
  rw[kV];refine⟨hi.jq fW,λho=> ?_⟩;rw[dV]at ho;obtain⟨j,hj,ho⟩:=ho;exact hn ((hi.inj n j b fW ho)▸hj)
 have Da:∀(n b:Nat),cg (putAll l (H'.map (ao.aN σ)) h) G2 n=some b->(∃i,n=σ i/\cg H' G1 i=some b/\¬G0.Z b)\/(n ∉ l/\cg h G n=some b/\G0.Z b):=λn b fW=>by
  obtain⟨B,hB,kp⟩:=m7 fW;rcases LR n B hB with⟨i,B',dN,rfl,eB,rfl⟩|⟨hp,hn,eB⟩
  ·rw[OL OH dN]at kp;exact .inl ⟨i,rfl,(dP eB).trans kp,λhz=>(jD.dv i B' eB).mO kp (hZ1 _ hz)⟩
  ·have e:B.dX G2 n=B.dX G n:=by
    subst iz;cases B<;>simp only[ao.dX,hp,rZ]
   have:=(dP eB).trans (e▸kp);exact .inr ⟨hn,this,hold n b hn this⟩
 refine⟨G2,kA,by rw[iz];exact asd _ _,⟨hlen,λb hz=> ?_,λb o hs=> ?_,λn B hB=> ?_,λm n b h1 h2=> ?_,hi.gl.bj kA⟩,OH⟩
 ·rw[iz]at hz;exact arW (hi.z b hz) hE.size
 ·rw[iz]at hs;exact jD.S b o hs
 ·rcases LR n B hB with⟨i,B',dN,rfl,eB,rfl⟩|⟨hp,hn,eB⟩
  ·refine eu.aN OH dN (λb fW hz=> ?_) (jD.dv i B' eB);have:=(jD.dv i B' eB).mO fW;rw[iz]at hz;exact this (hZ1 b (Sc b hz))
  ·have oW:n<G.N:=by rw[<-hi.len];exact(ary.1 eB).1
   refine eu.bj oW kA (by rw[iz];exact asd _ _) (by rw[iz];simp only[hp];exact⟨rfl,rfl,rfl⟩) (λb fW=> ?_) (hi.dv n B eB);have hz:=hold n b hn ((dP eB).trans fW);refine⟨hE.old b hz,λo k8 hs=> ?_⟩;rw[iz]at hs;rcases hE.new b o hs with h1|h1
   ·rw[kV]at h1;exact k8 h1
   ·exact h1 hz
 ·rcases Da m b h1 with⟨i,rfl,a1,a2⟩|⟨a0,a1,a2⟩<;>rcases Da n b h2 with⟨j,rfl,b1,b2⟩|⟨b0,b1,b2⟩
  ·rw[jD.inj i j b a1 b1]
  ·exact absurd b2 a2
  ·exact absurd a2 b2
  ·exact hi.inj m n b a1 b1
theorem cG.abq{P:asq}{f:FuncId}{args:asn AV}{H:asn ao}{K:AV->asn ao->Prop}(hc:cG P f args H K){l:asn Nat}{h:asn ao}
 (hd:l.Nodup) (aS:∀j∈l,j<h.length) (hH:∀(i j:Nat),l[i]?=some j->h[j]?=(H[i]?).map (ao.aN (rn l h.length))) (hk:l.length=H.length)
 (ha:args.all (AV.aQ H.length)=true) (hb:H.all (ao.aQ H.length)=true):
 cG P f (args.map (AV.aN (rn l h.length))) h λr' h'=>∃r H',K r H'/\r'=r.aN (rn l h.length)/\h'=putAll l (H'.map (ao.aN (rn l h.length))) h:=by
 refine⟨hc.1,λG w vs hi xl hvr=> ?_⟩;obtain⟨G0,cB,sC,tB,QR⟩:=aao hd aS hH hk hb hi;refine(hc.2 G0 w vs sC (by rw[xl,arD]) λi u c hu hx=> ?_).mono λe w' hp=> ?_
 ·rw[arY]at ha;exact aJ.vr tB (hvr i u (c.aN (rn l h.length)) hu (by rw[arF,hx];rfl)) c rfl (by rw[cB];exact ha c (arL hx))
 ·obtain⟨v,G1,r,H',rfl,hE,gd,jD,hv,hK⟩:=hp;rw[cB]at gd hE;obtain⟨G2,e1,e2,e3,e4⟩:=QR G1 w' H' hE gd jD;exact⟨v,G2,r.aN _,_,rfl,e1,e2,e3,hv.aN e4,r,H',hK,rfl,rfl⟩
mutual
theorem xP{σ τ:Nat->Nat}{k:Nat}(h:∀i,i<k->σ i=τ i):∀x:AV,x.aQ k=true->x.aN σ=x.aN τ
 | .ptr n off,hb=>by rw[AV.aQ]at hb;rw[AV.aN,AV.aN,h n (by rw[Bool.not_eq_true',<-Bool.not_eq_true,dJ]at hb;omega)]
 | .own n xs,hb=>by rw[AV.aQ]at hb;rw[AV.aN,AV.aN,h n (by rw[Bool.not_eq_true',<-Bool.not_eq_true,dJ]at hb;omega)]
 | .row n off len cap q,hb=>by rw[AV.aQ]at hb;rw[AV.aN,AV.aN,h n (by rw[Bool.not_eq_true',<-Bool.not_eq_true,dJ]at hb;omega)]
 | .mp n,hb=>by rw[AV.aQ]at hb;rw[AV.aN,AV.aN,h n (by rw[Bool.not_eq_true',<-Bool.not_eq_true,dJ]at hb;omega)]
 | .dc n,hb=>by rw[AV.aQ]at hb;rw[AV.aN,AV.aN,h n (by rw[Bool.not_eq_true',<-Bool.not_eq_true,dJ]at hb;omega)]
 | .vec n o len L q,hb=>by rw[AV.aQ]at hb;rw[AV.aN,AV.aN,h n (by rw[Bool.not_eq_true',<-Bool.not_eq_true,dJ]at hb;omega)]
 | .dx n i j L q,hb=>by rw[AV.aQ]at hb;rw[AV.aN,AV.aN,h n (by rw[Bool.not_eq_true',<-Bool.not_eq_true,dJ]at hb;omega)]
 | .agg cs,hb=>by rw[AV.aQ]at hb;rw[AV.aN,AV.aN,wH h cs hb]
 | .aX cs,hb=>by rw[AV.aQ]at hb;rw[AV.aN,AV.aN,wH h cs hb]
 | .fn f cs,hb=>by rw[AV.aQ]at hb;rw[AV.aN,AV.aN,wH h cs hb]
 | .d x,_=>by rw[AV.aN,AV.aN]
 | .bP xs i off,_=>by rw[AV.aN,AV.aN]
 | .full xs,_=>by rw[AV.aN,AV.aN]
 | .hid c,_=>by rw[AV.aN,AV.aN]
 | .dead,_=>by rw[AV.aN,AV.aN]
theorem wH{σ τ:Nat->Nat}{k:Nat}(h:∀i,i<k->σ i=τ i):∀l:asn AV,AV.nH k l=true->AV.fP σ l=AV.fP τ l
 |[],_=>by rw[AV.fP,AV.fP]
 |x::l,hb=>by
  rw[AV.nH,arA]at hb;rw[AV.fP,AV.fP,xP h x hb.1,wH h l hb.2]
end
theorem Sk{σ τ:Nat->Nat}{k:Nat}(h:∀i,i<k->σ i=τ i)(B:ao)(hb:B.aQ k=true):B.aN σ=B.aN τ:=by
 cases B with
 |cells cs=>rw[ao.aN,ao.aN,wH h cs (by rw[nR];exact hb)]
 |lp ls p as bd cs=>rw[ao.aN,ao.aN,wH h cs (by rw[nR];exact hb)]
 |it sn cs=>rw[ao.aN,ao.aN,wH h cs (by rw[nR];exact hb)]
 |vec e q cs=>
  rw[ao.aN,ao.aN]
  congr 1
  refine ar3 λc hc=>wH h c ?_;simp only[ao.aQ,arY]at hb;rw[nR,arY];exact hb c hc
 |_=>rfl
theorem WY:∀(l:asn Nat)(b c i:Nat),i<l.length->rn l b i=rn l c i
 |[],b,c,i,h=>by simp at h
 |a::l,b,c,0,_=>by rw[rn,rn]
 |a::l,b,c,i+1,h=>by rw[rn,rn];exact WY l b c i (by simpa using h)
def pH:asn Nat->Bool
 |[]=>true
 |a::l=> !l.any (·==a)&&pH l
theorem Zj:∀{l:asn Nat},pH l=true->l.Nodup
 |[],_=>List.nodup_nil
 |a::l,h=>by
  rw[pH,arA,Bool.not_eq_true',<-Bool.not_eq_true]at h;rw[List.nodup_cons];exact⟨λhm=>h.1 (List.any_eq_true.2 ⟨a,hm,by simp⟩),Zj h.2⟩
theorem acj:∀(l:asn Nat)(h Bs:asn ao),l.map (λj=>h[j]?)=Bs.map some->putAll l Bs h=h
 |[],h,Bs,e=>by
  cases Bs with
  |nil=>rw[putAll,arT]
  |cons=>simp at e
 |j::l,h,Bs,e=>by
  cases Bs with
  |nil=>simp at e
  |cons B Bs=>
   rw[arX,arX]at e;injection e with e1 e2;have hs:h.set j B=h:=by
     refine List.ext_getElem? λm=> ?_;by_cases em:j=m
     ·subst em;rw[ar1 (ary.1 e1).1,e1]
     ·rw[ar6 em]
   rw[putAll,hs];exact acj l h Bs e2
section
variable {P:asq} {f:FuncId} {er:asn AV} {H:asn ao} {l:asn Nat} {h:asn ao}
theorem Yb{l:asn Nat}{h H:asn ao}{σ:Nat->Nat}(hb:l.map (λj=>h[j]?)=H.map λB=>some (B.aN σ)):l.length=H.length/\(∀j∈l,j<h.length)/\∀(i j:Nat),l[i]?=some j->h[j]?=(H[i]?).map (ao.aN σ):=by
 have h1:l.length=H.length:=by simpa using congrArg List.length hb
 have key:∀(i j:Nat),l[i]?=some j->∃B,H[i]?=some B/\h[j]?=some (B.aN σ):=λi j e=>by
  have aS:i<H.length:=by rw[<-h1];exact(ary.1 e).1
  have:=congrArg (·[i]?) hb;simp only[arF,e,arC aS,Option.map_some,Option.some.injEq]at this;exact⟨_,arC aS,this⟩
 refine⟨h1,λj hj=> ?_,λi j e=> ?_⟩
 ·obtain⟨i,hi⟩:=List.mem_iff_getElem?.1 hj;obtain⟨B,_,h2⟩:=key i j hi;exact(ary.1 h2).1
 ·obtain⟨B,h2,h3⟩:=key i j e;rw[h2,h3];rfl
theorem cG.nN{r:AV}{H':asn ao}(hc:cG P f er H λr1 h1=>r1=r/\h1=H')(hd:pH l=true)(hb:l.map (λj=>h[j]?)=H.map λB=>some (B.aN (rn l h.length)))(hl:(er.all (AV.aQ H.length)&&H.all (ao.aQ H.length))=true):
 cG P f (er.map (AV.aN (rn l h.length))) h λr1 h1=>r1=r.aN (rn l h.length)/\h1=putAll l (H'.map (ao.aN (rn l h.length))) h:=by
 rw[arA]at hl;obtain⟨h1,h2,h3⟩:=Yb hb;exact(hc.abq (Zj hd) h2 h3 h1 hl.1 hl.2).mono λr1 h1 ⟨r2,H2,⟨e1,e2⟩,e3,e4⟩=>by subst e1;subst e2;exact⟨e3,e4⟩
theorem cG.rq{r:AV}(hc:cG P f er H λr1 h1=>r1=r/\h1=H)(hd:pH l=true)(hb:l.map (λj=>h[j]?)=H.map λB=>some (B.aN (rn l 0)))(hl:(er.all (AV.aQ H.length)&&H.all (ao.aQ H.length)&&r.aQ H.length)=true)(e:asn ao):
 cG P f (er.map (AV.aN (rn l 0))) (h++e) λr1 h1=>r1=r.aN (rn l 0)/\h1=h++e:=by
 rw[arA,arA]at hl;obtain⟨⟨l1,l2⟩,l3⟩:=hl;obtain⟨h1,h2,_⟩:=Yb hb;have RX:∀i,i<H.length->rn l (h++e).length i=rn l 0 i:=λi hi=>WY l _ _ i (by rw[h1];exact hi);have kp:H.map (λB=>some (B.aN (rn l (h++e).length)))=H.map λB=>some (B.aN (rn l 0)):=by
   refine ar3 λB hB=> ?_;rw[arY]at l2;rw[Sk RX B (l2 B hB)]
 have lI:l.map (λj=>(h++e)[j]?)=H.map λB=>some (B.aN (rn l (h++e).length)):=by
  rw[kp,<-hb];refine ar3 λj hj=> ?_;rw[arI (h2 j hj)]
 have:=hc.nN hd lI (by rw[l1,l2];rfl);have ha:er.map (AV.aN (rn l (h++e).length))=er.map (AV.aN (rn l 0)):=by
  refine ar3 λx hx=> ?_;rw[arY]at l1;exact xP RX x (l1 x hx)
 rw[ha,xP RX r l3]at this;refine this.mono λr1 h1 ⟨e1,e2⟩=>⟨e1,?_⟩;rw[e2];refine acj l _ _ ?_;rw[lI,List.map_map];rfl
end
end Go.Proofs.YtdchibpnjpnkoaaGreatDoor
namespace Go.Proofs.YtdchibpnjpnkoaaGreatDoor
open Go.RowKit
def ao.vd:ao->Prop
 | .vec _ _ cs=>(∀f,cs.map (AV.fP f)=cs)/\∀m,cs.all (·.all (AV.aQ m))=true
 |_=>True
theorem ah4(f:Nat->Nat)(c:asn D):AV.fP f (c.map AV.d)=c.map AV.d:=by
 induction c with
 |nil=>simp [AV.fP]
 |cons x c ih=>simp only[arX,AV.fP,AV.aN,ih]
theorem anj(xs:asn (asn D)):(∀f,(bn xs).map (AV.fP f)=bn xs)/\∀m,(bn xs).all (·.all (AV.aQ m))=true:=by
 refine⟨λf=> ?_,λm=>by simp [bn,AV.aQ]⟩;unfold bn;rw[List.map_map];exact ar3 λc _=>ah4 f c
def VD:asn ao->Prop
 |[]=>True
 |B::l=>B.vd/\VD l
theorem og:VD []:=trivial
theorem ua{e k:Nat}{xs:asn (asn D)}{l:asn ao}(h:VD l):VD (.vec e k (bn xs)::l):=⟨anj xs,h⟩
theorem VD.mem:∀{l:asn ao},VD l->∀B∈l,B.vd
 |[],_,B,hB=>by cases hB
 |_::_,h,B,hB=>by
  rcases ar2.1 hB with rfl|hB
  ·exact h.1
  ·exact VD.mem h.2 B hB
def ao.q6(f:Nat->Nat):ao->ao
 | .vec e k cs=> .vec e k cs
 |B=>B.aN f
theorem aaV{f:Nat->Nat}{B:ao}(h:B.vd):B.q6 f=B.aN f:=by
 cases B with
 |vec e k cs=>simp only[ao.q6,ao.aN];rw[h.1 f]
 |_=>rfl
theorem aie{f:Nat->Nat}{l:asn ao}(h:VD l):l.map (ao.q6 f)=l.map (ao.aN f):=ar3 λB hB=>aaV (h.mem B hB)
def ao.uC(m:Nat):ao->Bool
 | .vec .. =>true
 |B=>B.aQ m
theorem alQ{m:Nat}{B:ao}(h:B.vd)(hl:B.uC m=true):B.aQ m=true:=by
 cases B with
 |vec e k cs=>exact h.2 m
 |_=>exact hl
theorem ajn{m:Nat}{l:asn ao}(h:VD l)(hl:l.all (ao.uC m)=true):l.all (ao.aQ m)=true:=by
 rw[arY]at hl ⊢;exact λB hB=>alQ (h.mem B hB) (hl B hB)
theorem aqc{f:Nat->Nat}{l:asn ao}(h:VD l):(l.map λB=>some (B.q6 f))=l.map λB=>some (B.aN f):=ar3 λB hB=>congrArg some (aaV (h.mem B hB))
inductive In
 |none
 |bit (x:AV)
 |eq (x:AV)
 |el (xs:List (List D)) (i:Int)
 |lt (z:Int) (n:Nat)
 |len (xs:List (List D))
 |sub (xs:List (List D)) (lo:Int) (hi:Option Int) (k:Nat)
 |app (xs ys:List (List D)) (len k cE:Nat)
 |nz (b:Int)
 |nn (b:Int)
 |str (b:ByteArray) (lo hi:Int)
 |cat (n:Nat)
 |pr (p:Prop)
 |sd (p:Sd)
 |Mm (xs:List (List D))
 |I8 (c:List D) (z:Int) (n:Nat)
 |ch (b:ByteArray) (i:Int)
 |call (f:FuncId) (args:List AV)
 |ku (f:FuncId) (args:List AV) (h:List ao)
 |Gg (c:iq) (args:List AV)
 |nN (f:FuncId) (args:List AV) (h:List ao)
def Pv(P:asq)(c:iq)(args:asn AV)(r:AV):Prop:=∃g cs,c= .fn g cs/\gD P g (args++cs.map iq.av) (·=r)
inductive cd
 |none
 |bit (b:Bool)
 |Gl
 |eq (y:AV)
 |el (c:List D)
 |ok
 |nat (n:Nat)
 |list (ys:List (List D))
 |XH (ys:List (List D)) (n:Nat)
 |byte (c:UInt8)
 |bytes (s:ByteArray)
 |one (d:D)
 |va (a:VA)
 |ret (r:AV)
 |SO (r:AV) (h:List ao)
 |Og (l:List Nat) (er:List AV) (H:List ao) (r:AV) (H':List ao)
 |rq (l:List Nat) (er:List AV) (H:List ao) (r:AV)
 |G8 (l:List Nat) (er:List AV) (H:List ao) (r:AV) (H':List ao)
inductive OK(P:Program):In->cd->Prop
 |none {o:cd}:OK P .none o
 |bit {e b:Bool} (h:e=b):OK P (.bit (.d (.v (.bool e)))) (.bit b)
 |Gl:OK P (.bit (.d (.v undef))) .Gl
 |eq {x y:AV} (h:x=y):OK P (.eq x) (.eq y)
 |el {xs:List (List D)} {i:Int} {c:List D} (h0:0<=i) (h:xs[i.toNat]?=some c):OK P (.el xs i) (.el c)
 |lt {z:Int} {n:Nat} (h0:0<=z) (h:z<n):OK P (.lt z n) .ok
 |len {xs:List (List D)} {n:Nat} (h:xs.length=n):OK P (.len xs) (.nat n)
 |sub {xs ys:List (List D)} {lo hi:Int} {k:Nat} (h0:0<=lo) (h1:lo.toNat<=hi.toNat) (h2:0<=hi) (h3:hi.toNat<=xs.length) (hk:∀c∈xs,c.length=k) (h:(xs.take hi.toNat).drop lo.toNat=ys):OK P (.sub xs lo (some hi) k) (.list ys)
 |ER {xs ys:List (List D)} {lo:Int} {k:Nat} (h0:0<=lo) (h1:lo.toNat<=xs.length) (hk:∀c∈xs,c.length=k) (h:xs.drop lo.toNat=ys):OK P (.sub xs lo .none k) (.list ys)
 |app {xs ys zs:List (List D)} {len k cE n:Nat} (hl:len=xs.length) (hx:∀c∈xs,c.length=k) (hy:∀c∈ys,c.length=k) (hm:xs.length+ys.length<=maxLen) (hb:(xs.length+ys.length)*cE<=140737488355328) (hz:xs++ys=zs) (hn:xs.length+ys.length=n):OK P (.app xs ys len k cE) (.XH zs n)
 |nz {b:Int} (h:b≠0):OK P (.nz b) .ok
 |nn {b:Int} (h:0<=b):OK P (.nn b) .ok
 |str {b:ByteArray} {lo hi:Int} (h0:0<=lo) (h1:lo.toNat<=hi.toNat) (h2:0<=hi) (h3:hi.toNat<=b.size):OK P (.str b lo hi) .ok
 |ch {b:ByteArray} {i:Int} {c:UInt8} (h0:0<=i) (h:b[i.toNat]?=some c):OK P (.ch b i) (.byte c)
 |cat {n:Nat} (h:n<=maxLen):OK P (.cat n) .ok
 |pr {p:Prop} (a:VA) (h:p):OK P (.pr p) (.va a)
 |sd {p:Sd} {o:cd} (h:p.ok):OK P (.sd p) o
 |Mm {xs:List (List D)} {s:ByteArray} (h:∃ns:List Int,xs=ns.map (λn=>[.v (.int .u8 n)])/\s=⟨(ns.map λn=>UInt8.ofNat n.toNat).toArray⟩):OK P (.Mm xs) (.bytes s)
 |I8 {c:List D} {z:Int} {n:Nat} {d:D} (h0:0<=z) (h1:z<n) (h:c[z.toNat]?=some d):OK P (.I8 c z n) (.one d)
 |call {f:FuncId} {args:List AV} {r:AV} (h:gD P f args (·=r)):OK P (.call f args) (.ret r)
 |Gg {c:iq} {args:List AV} {r:AV} (h:Pv P c args r):OK P (.Gg c args) (.ret r)
 |nN {f:FuncId} {ni er:List AV} {h H H':List ao} {l:List Nat} {r:AV} (ha:ni=er.map (AV.aN (rn l h.length))) (hd:pH l=true) (hb:l.map (λj=>h[j]?)=H.map λB=>some (B.aN (rn l h.length))) (hl:(er.all (AV.aQ H.length)&&H.all (ao.aQ H.length))=true)
  (hc:cG P f er H λr1 h1=>r1=r/\h1=H'):OK P (.nN f ni h) (.Og l er H r H')
 |aa5 {f:FuncId} {ni er:List AV} {h H H':List ao} {l:List Nat} {r:AV} (ph:VD H) (hv:VD H') (ha:ni=er.map (AV.aN (rn l h.length))) (hd:pH l=true) (hb:l.map (λj=>h[j]?)=H.map λB=>some (B.q6 (rn l h.length))) (hl:(er.all (AV.aQ H.length)&&H.all (ao.uC H.length))=true)
  (hc:cG P f er H λr1 h1=>r1=r/\h1=H'):OK P (.nN f ni h) (.G8 l er H r H')
 |rq {f:FuncId} {ni er:List AV} {h H:List ao} {l:List Nat} {r:AV} (ha:ni=er.map (AV.aN (rn l 0))) (hd:pH l=true) (hb:l.map (λj=>h[j]?)=H.map λB=>some (B.aN (rn l 0))) (hl:(er.all (AV.aQ H.length)&&H.all (ao.aQ H.length)&&r.aQ H.length)=true)
    (hc:cG P f er H λr1 h1=>r1=r/\h1=H):OK P (.nN f ni h) (.rq l er H r)
 |ku {f:FuncId} {args:List AV} {h h':List ao} {r:AV} (hc:cG P f args h λr1 h1=>r1=r/\h1=h'):OK P (.ku f args h) (.SO r h')
def AH(P:asq)(t:TypeId)(cs:asn AV)(off:Nat):asp AV:=
 match mu P t,fQ P t with
 |some true,some k=>bif cp (off+k) cs.length then some (.agg ((cs.drop off).take k))else none
 |some false,some _=>cs[off]?
 |_,_=>none
def yd(h:asn ao)(p:AV):asp (asn AV×Nat):=
 match p with
 | .ptr n off=>match h[n]? with
   |some (.cells cs)=>some (cs,off)
   |_=>none
 | .bP xs i off=>match xs[i]? with
   |some c=>some (c.map .d,off)
   |none=>none
 |_=>none
def Tz(x:AV)(i:asp Int)(k:Nat)(a:cd):asp (AV×In):=
 match x.fe,i,a with
 |some xs,some z, .el c=>bif c.length==k then some (.bP [c] 0 0, .el xs z)else none
 |_,_,_=>none
def SZ(P:asq)(T:TypeId)(x i:AV)(a:cd):asp (AV×In):=
 match et P T with
 |some (_,k)=>
  match x with
  | .row n off len _ k'=>match i.int? with
    |some z=>bif k'==k then some (.ptr n (off+z.toNat*k), .lt z len)else none
    |none=>none
  |x=>Tz x i.int? k a
 |none=>match uX P T,x,i.int? with
  |some (n,_,k), .ptr b off,some z=>some (.ptr b (off+z.toNat*k), .lt z n)
  |some (n,_,k), .bP [c] 0 0,some z=>match a with
   | .one d=>bif k==1 then some (.bP [[d]] 0 0, .I8 c z n)else none
   |_=>none
  |_,_,_=>none
def Oe(P:asq)(T:TypeId)(x:AV)(a:cd):asp (AV×In):=
 match x with
 | .d (.v (.string s))=>bif hY P T then some (.d (.v (.int .i64 s.size)), .none)else none
 | .row _ _ len _ _=>bif (et P T).isSome then some (.d (.v (.int .i64 len)), .none)else none
 |x=>match x.fe,a with
  |some xs, .nat n=>bif (et P T).isSome then some (.d (.v (.int .i64 n)), .len xs)else none
  |_,_=>none
def oN(l:asp Int)(d:Nat):Nat:=match l with|some z=>z.toNat|none=>d
def Ga(ρ:Operand->AV):asp Operand->asp (asp Int)
 |none=>some none
 |some y=>match (ρ y).int? with
  |some z=>some (some z)
  |none=>none
def TN(P:asq)(T:TypeId)(ρ:Operand->AV)(x:AV)(lo hi mx:asp Operand)(a:cd):asp (AV×In):=
 match mx with
 |none=>match Ga ρ lo,Ga ρ hi with
  |some l,some h=>match x with
   | .d (.v (.string b))=>bif hY P T then some (.d (.v (.string (b.extract (oN l 0) (oN h b.size)))), .str b (l.getD 0) (h.getD b.size))else none
   | .ptr n off=>match uX P T,l,h with
     |some (m,_,k),none,none=>bif cp m 4096&& !cp m 0 then some (.row n off m m k, .none)else none
     |_,_,_=>none
   |x=>match x.fe,et P T,a with
    |some xs,some (_,k), .list ys=>some (.d (.sl ys), .sub xs (l.getD 0) h k)
    |_,_,_=>none
  |_,_=>none
 |some m=>match lo,hi,ρ m with
  |none,some y, .d (.v (.int _ 0))=>match x.fe,et P T,ρ y,a with
   |some xs,some (_,k), .d (.v (.int _ 0)), .list _=>some (.full [], .sub xs 0 (some 0) k)
   |_,_,_,_=>none
  |_,_,_=>none
def HJ(h:asn ao)(k:Nat)(x:AV):asp (asn (asn D)):=
 match x with
 | .row n off len _ k'=>match h[n]? with
   |some (.cells cs)=>match nL ((cs.drop off).take (len*k))with
    |some ds=>bif k'==k&&cp (off+len*k) cs.length&&((cs.drop off).take (len*k)).all AV.kE then some (n8 k len ds)else none
    |none=>none
   |_=>none
 |x=>x.fe
def Pa(P:asq)(T:TypeId)(h:asn ao)(x y:AV)(a:cd):asp (AV×asn ao×In):=
 match et P T,a with
 |some (e,k), .XH zs n'=>match iR P e,qX P e with
  |some z,some cE=>bif cp 1 k&&z.cells.toList.length==k then
   match HJ h k y with
   |some ys=>match x with
    | .own n xs=>match h[n]? with
      |some (.front e' k' len)=>bif e'==e&&k'==k then some (.own n zs,h.set n (.front e k n'), .app xs ys len k cE)else none
      |_=>none
    | .d (.v (.slice none 0 0))=>some (.own h.length zs,h++[.front e k n'], .app [] ys 0 k cE)
    | .full xs=>some (.own h.length zs,h++[.front e k n'], .app xs ys xs.length k cE)
    |_=>none
   |none=>none
   else none
  |_,_=>none
 |_,_=>none
def Oq(P:asq)(T:TypeId)(ps:asn (Nat×AV)):asp AV:=
 match Qo P T,iR P T with
 |some places,some z=>match pO places (z.cells.toList.map λu=> .d (.v u)) ps with
  |some cs=>bif (ps.all λp=>p.2.jt)&&z.cells.toList.all Value.oneCell' then some (.agg cs)else none
  |none=>none
 |_,_=>none
def UD(P:asq)(T:TypeId)(len:Nat)(ps:asn (Nat×AV)):asp AV:=
 match et P T with
 |some (e,k)=>match iR P e with
  |some z=>match pO (wL k 0 len) (sN len (z.cells.toList.map λu=> .d (.v u))) ps with
   |some cs=>match nL cs with
    |some ds=>bif cp 1 k&&cp (len*k) 16777216&&z.cells.toList.length==k&&z.cells.toList.all Value.oneCell'&&(ps.all λp=>p.2.jt)then some (.full (n8 k len ds))else none
    |none=>none
   |none=>none
  |none=>none
 |none=>none
def NL(P:asq)(T:TypeId)(op:BinOp)(x y:AV):asp (AV×In):=
 match x,y with
 | .d (.v (.int k a)), .d (.v (.int k' b))=>
   match P3 op k a b with
   |some v=>bif zl k k' then some (.d (.v v), .nz b)else none
   |none=>match Sm op k a b with
    |some v=>some (.d (.v v), .nn b)
    |none=>match RZ op k a b with
     |some v=>bif zl k k' then some (.d (.v v), .none)else none
     |none=>none
 | .d (.v (.string a)), .d (.v (.string b))=>match R6 op a b with
   |some v=>some (.d (.v v), .none)
   |none=>match op with
    | .add=>some (.d (.v (.string (a++b))), .cat (a.size+b.size))
    |_=>none
 | .d (.v (.bool a)), .d (.v (.bool b))=>match TR op a b with
   |some v=>bif B3 P T then some (.d (.v v), .none)else none
   |none=>none
 | .agg xs, .agg ys=>match JF P T xs ys with
   |some b=>match zg op b with
    |some v=>some (.d (.v v), .none)
    |none=>none
   |none=>none
 |_,_=>none
def Nb(P:asq)(src dst:TypeId)(x:AV)(a:cd):asp (AV×In):=
 match x with
 | .d (.v (.int _ n))=>match qC P src,qC P dst with
   |some _,some k=>some (.d (.v (.int k (k.wrap n))), .none)
   |_,_=>none
 | .d (.v (.string b))=>bif hY P src&&hY P dst then some (.d (.v (.string b)), .none)else none
 |x=>match x.fe,et P src,a with
  |some xs,some (e,_), .bytes s=>bif Ek P e&&hY P dst then some (.d (.v (.string s)), .Mm xs)else none
  |_,_,_=>none
def Ke(P:asq)(T:TypeId)(x:AV)(f:Nat):asp AV:=
 match tv P T f,x with
 |some (off,k,true), .agg cs=>bif cp (off+k) cs.length then some (.agg ((cs.drop off).take k))else none
 |some (off,_,false), .agg cs=>cs[off]?
 |_,_=>none
def Lk(h:asn ao):asp AV->asp (AV×asn ao×In)
 |some x=>some (x,h, .none)
 |none=>none
def AY(h:asn ao):asp (AV×In)->asp (AV×asn ao×In)
 |some (x,i)=>some (x,h,i)
 |none=>none
mutual
def AV.nrm:AV->AV
 | .full xs=> .d (.sl xs)
 | .d (.v (.slice none 0 0))=> .d (.sl [])
 | .agg cs=> .agg (AV.zC cs)
 | .aX cs=> .aX (AV.zC cs)
 |x=>x
def AV.zC:asn AV->asn AV
 |[]=>[]
 |x::l=>x.nrm::AV.zC l
end
mutual
def AV.cap:AV->asp iq
 | .d x=>some (.d x)
 | .own _ xs=>some (.d (.sl xs))
 | .full xs=>some (.d (.sl xs))
 | .bP xs i off=>match xs[i]? with
   |some c=>some (.bP c off)
   |none=>none
 | .fn f cs=>match AV.AK cs with
   |some l=>some (.fn f l)
   |none=>none
 | .hid c=>some c
 |_=>none
def AV.AK:asn AV->asp (asn iq)
 |[]=>some []
 |x::l=>match x.cap,AV.AK l with
  |some c,some l=>some (c::l)
  |_,_=>none
end
def AV.Hg:AV->AV
 | .fn f cs=>match AV.AK cs with
   |some l=> .hid (.fn f l)
   |none=> .fn f cs
 |x=>x
def AV.arg(x:AV):AV:=((x.bG 0).nrm).Hg
def AV.mM(x:AV):AV:=(x.bG 0).nrm
def sdI:Sd->In
 | .no=> .none
 |p=> .sd p
def xR:asp (AV×asn ao×Sd)->asp (AV×asn ao×In)
 |some (x,h,p)=>some (x,h,sdI p)
 |none=>none
def xH(P:asq)(op:Op)(ρ:Operand->AV)(h:asn ao)(a:cd):asp (AV×asn ao×In):=
 match op with
 | .move x| .assign x=>some (ρ x,h, .none)
 | .pick c x y=>match a with
   | .bit b=>some (bif b then ρ x else ρ y,h, .bit (ρ c))
   |_=>none
 | .alloc e=>match iR P e with
   |some z=>some (.ptr h.length 0,h++[ao.cells (z.cells.toList.map λu=> .d (.v u))], .none)
   |none=>none
 | .box _ x=>bif (ρ x).jt then some (.ptr h.length 0,h++[ao.cells (ρ x).cells], .none)else none
 | .load t p=>match yd h (ρ p)with
   |some (cs,off)=>match AH P t cs off with
    |some x=>some (x,h, .none)
    |none=>none
   |none=>none
 | .store t p x=>match ρ p with
   | .ptr n off=>match h[n]? with
     |some (.cells cs)=>match fQ P t with
      |some k=>bif k==(ρ x).cells.length&&(ρ x).jt&&cp (off+(ρ x).cells.length) cs.length then some (.d (.v undef),h.set n (.cells (ib cs off (ρ x).cells)), .none)else none
      |none=>none
     |_=>none
   |_=>none
 | .nilCheck x=>match ρ x with
   | .ptr n off=>some (.ptr n off,h, .none)
   | .bP xs i off=>some (.bP xs i off,h, .none)
   | .fn f cs=>some (.fn f cs,h, .none)
   |_=>none
 | .fieldAddr S x f=>match tv P S f with
   |some (fo,_,_)=>match ρ x with
    | .ptr n off=>some (.ptr n (off+fo),h, .none)
    | .bP xs i off=>some (.bP xs i (off+fo),h, .none)
    |_=>none
   |none=>none
 | .field T x f=>Lk h (Ke P T (ρ x) f)
 | .indexAddr T x i=>AY h (SZ P T (ρ x) (ρ i) a)
 | .index T x i=>match ρ x,(ρ i).int?,a with
   | .d (.v (.string b)),some z, .byte c=>bif hY P T then some (.d (.v (.int .u8 c.toNat)),h, .ch b z)else none
   |_,_,_=>none
 | .build T ps=>Lk h (Oq P T (ps.toList.map λp=>(p.1,ρ p.2)))
 | .buildSlice T len ps=>Lk h (UD P T len (ps.toList.map λp=>(p.1,ρ p.2)))
 | .slice T x lo hi mx=>AY h (TN P T ρ (ρ x) lo hi mx a)
 | .extract x i=>match ρ x with
   | .aX cs=>match cs[i]? with
     |some c=>some (c,h, .none)
     |none=>none
   |_=>none
 | .makeFunc (.func f) first dF=>match first.toList with
   |[]=>some (.fn f (dF.toList.map ρ),h, .none)
   |_=>none
 | .binOp op T x y _=>AY h (NL P T op (ρ x) (ρ y))
 | .unOp op _ x=>match ρ x with
   | .d (.v u)=>match Ii op u with
     |some v=>some (.d (.v v),h, .none)
     |none=>none
   |_=>none
 | .convert s t x=>AY h (Nb P s t (ρ x) a)
 | .call c=>match c.callee with
   | .builtin .len=>match c.args.toList,c.argTypes.toList with
     |[x],[T]=>AY h (Oe P T (ρ x) a)
     |_,_=>none
   | .builtin .append=>match c.args.toList,c.argTypes.toList with
     |[x,y],[T,U]=>bif (et P U).isSome then Pa P T h (ρ x) (ρ y) a else none
     |_,_=>none
   | .builtin .max=>match CX true (c.args.toList.map ρ)with
     |some (k,a)=>some (.d (.v (.int k a)),h, .none)
     |none=>none
   | .builtin .min=>match CX false (c.args.toList.map ρ)with
     |some (k,a)=>some (.d (.v (.int k a)),h, .none)
     |none=>none
   | .value f=>match ρ f,a with
     | .fn g dF, .ret r=>bif ((c.args.toList.map ρ++dF).map AV.arg).all (AV.aQ 0)&&r.aQ 0 then some (r,h, .call g ((c.args.toList.map ρ++dF).map AV.arg))else none
     | .fn g dF, .SO r h'=>some (r,h', .ku g (c.args.toList.map ρ++dF) h)
     | .fn g dF, .Og l _ _ r H'=>some (r.aN (rn l h.length),putAll l (H'.map (ao.aN (rn l h.length))) h, .nN g ((c.args.toList.map ρ++dF).map AV.mM) h)
     | .fn g dF, .G8 l _ _ r H'=>some (r.aN (rn l h.length),putAll l (H'.map (ao.q6 (rn l h.length))) h, .nN g ((c.args.toList.map ρ++dF).map AV.mM) h)
     | .fn g dF, .rq l _ _ r=>some (r.aN (rn l 0),h, .nN g ((c.args.toList.map ρ++dF).map AV.mM) h)
     | .hid q, .ret r=>bif ((c.args.toList.map ρ).map AV.arg).all (AV.aQ 0)&&r.aQ 0 then some (r,h, .Gg q ((c.args.toList.map ρ).map AV.arg))else none
     |_,_=>none
   |_=>none
 |op=>xR (pG P op ρ h)
theorem Nr:∀l,AV.zC l=l.map AV.nrm
 |[]=>by simp [AV.zC]
 |x::l=>by simp [AV.zC,Nr l]
theorem aJ.nrm{G:Gh}{w:ass}{u:asr}{x:AV}(h:aJ G w u x):aJ G w u x.nrm:=by
 have gz:∀(vs:Array asr)(cs:asn AV),(∀(i:Nat)(u:asr)(c:AV),vs[i]?=some u->cs[i]?=some c->aJ G w u c.nrm)->∀(i:Nat)(u:asr)(c:AV),vs[i]?=some u->(AV.zC cs)[i]?=some c->aJ G w u c:=by
  intro vs cs ih i u c hu hc;rw[Nr,arF]at hc;cases hx:cs[i]? with
  |none=>rw[hx]at hc;cases hc
  |some x=>rw[hx]at hc;cases hc;exact ih i u x hu hx
 induction h with
 |agg vs cs hl _ ih=>rw[AV.nrm];exact .agg vs _ (by rw[Nr,arD];exact hl) (gz vs cs ih)
 |aX vs cs hl _ ih=>rw[AV.nrm];exact .aX vs _ (by rw[Nr,arD];exact hl) (gz vs cs ih)
 |full xs hp hf=>rw[AV.nrm];exact .d hp
 | @d u x h=>
   by_cases hx:x= .v (.slice none 0 0)
   ·subst hx;cases h with|v=>simp only[AV.nrm];exact .d Gf
   ·have:(AV.d x).nrm= .d x:=by
     unfold AV.nrm;split<;>simp_all
    rw[this];exact .d h
 |own n xs h hp hle hf=>simp only[AV.nrm];exact .own n xs h hp hle hf
 |ptr n off h=>simp only[AV.nrm];exact .ptr n off h
 |bP xs i off b o u x hx hS hu=>simp only[AV.nrm];exact .bP xs i off b o u x hx hS hu
 |row n off len cap k h hl hm=>simp only[AV.nrm];exact .row n off len cap k h hl hm
 |fn f vs cs hl h=>simp only[AV.nrm];exact .fn f vs cs hl h
 |mp n h=>simp only[AV.nrm];exact .mp n h
 |dc n h=>simp only[AV.nrm];exact .dc n h
 |vec n o len L k h hs hL hf=>simp only[AV.nrm];exact .vec n o len L k h hs hL hf
 |dx n i j L k h hs hL hf=>simp only[AV.nrm];exact .dx n i j L k h hs hL hf
 |hid h h1=>simp only[AV.nrm];exact .hid h h1
 |dead u=>simp only[AV.nrm];exact .dead u
theorem X8:∀(cs:asn AV)(l:asn iq),AV.AK cs=some l->cs.length=l.length/\∀(i:Nat)(x:AV)(c:iq),cs[i]?=some x->l[i]?=some c->x.cap=some c
 |[],l,h=>by
  unfold AV.AK at h;cases h;exact⟨rfl,λi x c hx=>by simp at hx⟩
 |x::cs,l,h=>by
  unfold AV.AK at h;split at h
  ·next c l' e1 e2=>
   cases h
   obtain⟨h1,h2⟩:=X8 cs l' e2;refine⟨by simp [h1],λi y d hy hd=> ?_⟩
   match i with
   |0=>simp only[List.getElem?_cons_zero,Option.some.injEq]at hy hd;subst hy;subst hd;exact e1
   |i+1=>exact h2 i y d (by simpa using hy) (by simpa using hd)
  ·cases h
theorem aJ.cap{G:Gh}{w:ass}{u:asr}{x:AV}(h:aJ G w u x):∀c,x.cap=some c->pE G.S w u c:=by
 induction h with
 |d h=>intro c hc;simp only[AV.cap]at hc;cases hc;exact .d h
 |own n xs h hp hle hf=>intro c hc;simp only[AV.cap]at hc;cases hc;exact .d hp
 |full xs hp hf=>intro c hc;simp only[AV.cap]at hc;cases hc;exact .d hp
 |bP xs i off b o u x hx hS hu=>
  intro c hc;simp only[AV.cap,hx]at hc;cases hc
  exact .bP x off b o u hS hu
 |fn f vs cs hl h ih=>
  intro c hc;simp only[AV.cap]at hc;split at hc
  ·next l e=>
   cases hc
   obtain⟨h1,h2⟩:=X8 cs l e;refine .fn f vs l (hl.trans h1) λi v d hv hd=> ?_;have aS:i<cs.length:=by rw[h1];exact(ary.1 hd).1
   exact ih i v _ hv (arC aS) d (h2 i _ d (arC aS) hd)
  ·cases hc
 |hid h h1=>intro c hc;simp only[AV.cap]at hc;cases hc;exact h
 |agg=>intro c hc;simp [AV.cap]at hc
 |aX=>intro c hc;simp [AV.cap]at hc
 |ptr=>intro c hc;simp [AV.cap]at hc
 |row=>intro c hc;simp [AV.cap]at hc
 |mp=>intro c hc;simp [AV.cap]at hc
 |dc=>intro c hc;simp [AV.cap]at hc
 |vec=>intro c hc;simp [AV.cap]at hc
 |dx=>intro c hc;simp [AV.cap]at hc
 |dead=>intro c hc;simp [AV.cap]at hc
theorem AV.Le.Hg(x:AV):AV.Le x x.Hg:=λG w u h=>by
 unfold AV.Hg;split
 ·next f cs=>
  split
  ·next l e=>
   have:=h.cap (.fn f l) (by simp only[AV.cap,e]);cases h with|fn=>exact .hid this rfl
  ·exact h
 ·exact h
theorem AV.Le.arg(x:AV):AV.Le x x.arg:=λ_ _ _ h=>AV.Le.Hg _ _ _ _ (h.bG 0).nrm
theorem cG.args{P:asq}{f:FuncId}{as:asn AV}{h:asn ao}{K:AV->asn ao->Prop}(hc:cG P f as h K)(bs:asn AV)(hl:as.length=bs.length)(hle:∀(i:Nat)(c d:AV),bs[i]?=some c->as[i]?=some d->AV.Le c d):cG P f bs h K:=
 ⟨hc.1,λG w vs hi hs hr=>hc.2 G w vs hi (hs.trans hl.symm) λi u d hu hd=>by
  have aS:i<bs.length:=by rw[<-hl];exact(ary.1 hd).1
  exact hle i _ d (arC aS) hd G w u (hr i u _ hu (arC aS))⟩
theorem cG.aat{P:asq}{f:FuncId}{as:asn AV}{h:asn ao}{K:AV->asn ao->Prop}(hc:cG P f (as.map AV.arg) h K):cG P f as h K:=
 hc.args as (by rw[arD]) λi c d hc hd=>by
  rw[arF,hc]at hd;cases hd;exact AV.Le.arg c
theorem AV.Le.mM(x:AV):AV.Le x x.mM:=λ_ _ _ h=>(h.bG 0).nrm
theorem cG.Np{P:asq}{f:FuncId}{as:asn AV}{h:asn ao}{K:AV->asn ao->Prop}(hc:cG P f (as.map AV.mM) h K):cG P f as h K:=
 hc.args as (by rw[arD]) λi c d hc hd=>by
  rw[arF,hc]at hd;cases hd;exact AV.Le.mM c
theorem ajy(l:asn iq):(l.map iq.av).all (AV.aQ 0)=true:=by
 rw[arY];intro x hx;obtain⟨c,_,rfl⟩:=List.mem_map.1 hx;cases c<;>rfl
theorem Pv.use{P:asq}{q:iq}{args:asn AV}{r:AV}{h:asn ao}{C:AV->asn ao->Prop}(hc:Pv P q (args.map AV.arg) r)(ha:(args.map AV.arg).all (AV.aQ 0)=true)(hr:r.aQ 0=true)(hC:C r h):∃g cs,q= .fn g cs/\cG P g (args++cs.map iq.av) h C:=by
 obtain⟨g,cs,rfl,hc⟩:=hc;refine⟨g,cs,rfl,cG.args (hc.use (h:=h) (C:=C) (by rw[List.all_append,ha,ajy];rfl) hr hC) _ (by simp) λi c d h1 h2=> ?_⟩;by_cases hi:i<args.length
 ·rw[arI hi]at h1;rw[arI (by simpa using hi),arF,h1]at h2;cases h2;exact AV.Le.arg c
 ·rw[arO (by omega)]at h1;rw[arO (by simpa using hi),arD,h1]at h2;cases h2;exact AV.Le.refl c
theorem dT{α:Type}{b:Bool}{x y:α}(h:(bif b then some x else none)=some y):b=true/\x=y:=by
 cases b with
 |true=>exact⟨rfl,arR h⟩
 |false=>cases h
theorem oT{α:Type}{b:Bool}{x:asp α}{y:α}(h:(bif b then x else none)=some y):b=true/\x=some y:=by
 cases b with
 |true=>exact⟨rfl,h⟩
 |false=>cases h
section
variable {P:asq} {ρ:Operand->AV} {h h':asn ao} {a:cd} {i:In} {x:AV} {C:AV->asn ao->Prop}
theorem OK.HS{x:AV}{b:Bool}(h:OK P (.bit x) (.bit b)):x= .d (.v (.bool b)):=by
 cases h with|bit h=>subst h;rfl
theorem R7{t:TypeId}{p:AV}{cs:asn AV}{off:Nat}{K:AV->Prop}(h1:yd h p=some (cs,off))(h2:AH P t cs off=some x)(hK:K x):oK P t h p K:=by
 have key:(match mu P t,fQ P t with
     |some true,some k=>fg (cp (off+k) cs.length) (K (.agg ((cs.drop off).take k)))
     |some false,some _=>match cs[off]? with
      |some c=>K c
      |none=>False
     |_,_=>False):=by
  unfold AH at h2;split at h2
  ·next k e1 e2=>
   obtain⟨h3,rfl⟩:=dT h2;exact b6.2 ⟨h3,hK⟩
  ·next k e1 e2=>rw[h2];exact hK
  ·cases h2
 unfold oK sA;unfold yd at h1;split at h1
 ·split at h1
  ·next cm e=>cases h1;simp only[e];exact key
  ·cases h1
 ·split at h1
  ·next c e=>cases h1;simp only[e];exact key
  ·cases h1
 ·cases h1
theorem amC{y:AV}{z:asp Int}{k:Nat}(h1:Tz y z k a=some (x,i))(cf:OK P i a):∃xs w c,y.fe=some xs/\z=some w/\0<=w/\xs[w.toNat]?=some c/\c.length=k/\x= .bP [c] 0 0:=by
 unfold Tz at h1;split at h1
 ·next xs w c hx=>
  obtain⟨hk,he⟩:=dT h1;cases he
  cases cf with
  |el h0 hc=>exact⟨_,_,_,hx,rfl,h0,hc,by simpa using hk,rfl⟩
 ·cases h1
theorem aoz{T:TypeId}{y z:AV}{K:AV->Prop}(h1:SZ P T y z a=some (x,i))(cf:OK P i a)(hK:K x):sq P T y z K:=by
 unfold SZ at h1;unfold sq;cases hT:et P T with
 |some p=>
  obtain⟨e,k⟩:=p;simp only[hT]at h1 ⊢;cases y with
  |row n off len cap k'=>
   simp only at h1 ⊢;split at h1
   ·next w hw=>
    obtain⟨hk,he⟩:=dT h1;cases he
    cases cf with|lt h0 hl=>simp only[hw];exact b6.2 ⟨hk,h0,hl,hK⟩
   ·cases h1
  |_=>
   obtain⟨xs,w,c,e1,e2,e3,e4,e5,rfl⟩:=amC h1 cf;simp only[e1,e2,e4,e5];exact⟨e3,trivial,hK⟩
 |none=>
  simp only[hT]at h1 ⊢;split at h1
  ·next n e k b off w hA hw=>
   cases h1
   simp only[hA,hw];cases cf with|lt h0 hl=>exact⟨h0,hl,hK⟩
  ·next n e k c w hA hw=>
   split at h1
   ·next d=>
    obtain⟨hb,he⟩:=dT h1;cases he;simp only[hA,hw];cases cf with|I8 h0 hl h=>exact b6.2 ⟨hb,h0,hl,by simp only[List.getElem?_cons_zero,arS,h];exact hK⟩
   ·cases h1
  ·cases h1
theorem aoW{T:TypeId}{y:AV}{K:Nat->Prop}{C:AV->Prop}(h1:Oe P T y a=some (x,i))(cf:OK P i a)(hK:C x)(hc:∀n:Nat,C (.d (.v (.int .i64 n)))->K n):tk P T y K:=by
 unfold Oe at h1;unfold tk;split at h1
 ·obtain⟨hb,he⟩:=dT h1;cases he;exact b6.2 ⟨hb,hc _ hK⟩
 ·obtain⟨hb,he⟩:=dT h1;cases he;exact b6.2 ⟨hb,hc _ hK⟩
 ·next n1 n2=>
  split at h1
  ·next xs n hx=>
   obtain⟨hb,he⟩:=dT h1;cases he;cases cf with
   |len hl=>
    subst hl;split
    ·next s=>exact absurd rfl (n1 s)
    ·next a b c d e=>exact absurd rfl (n2 a b c d e)
    ·simp only[hx];exact b6.2 ⟨hb,hc _ hK⟩
  ·cases h1
theorem agA{y:asp Operand}{l:asp Int}(h1:Ga ρ y=some l):(y=none/\l=none)\/∃o z,y=some o/\l=some z/\(ρ o).int?=some z:=by
 unfold Ga at h1;cases y with
 |none=>cases h1;exact .inl ⟨rfl,rfl⟩
 |some o=>
  simp only at h1;split at h1
  ·next z hz=>cases h1;exact .inr ⟨o,z,rfl,rfl,hz⟩
  ·cases h1
theorem uH{y:asp Operand}{l:asp Int}{d:Nat}{K:Nat->Prop}(h1:Ga ρ y=some l)(h0:∀z,l=some z->0<=z)(hK:K (oN l d)):jH ρ y d K:=by
 rcases agA h1 with⟨rfl,rfl⟩|⟨o,z,rfl,rfl,hz⟩
 ·exact hK
 ·simp only[jH,hz];exact⟨h0 z rfl,hK⟩
theorem ap9{T:TypeId}{y:AV}{lo hi mx:asp Operand}{K:AV->Prop}(h1:TN P T ρ y lo hi mx a=some (x,i))(cf:OK P i a)(hK:K x):vS P T ρ y lo hi mx K:=by
 unfold TN at h1;unfold vS;split at h1
 ·split at h1
  ·next l hh hl qI=>
   split at h1
   ·next b=>
    obtain⟨hb,he⟩:=dT h1;cases he;cases cf with
    |str h0 h2 h3 h4=>
     refine b6.2 ⟨hb,uH qI (λz e=>by subst e;exact h3) ?_⟩;have e1:oN hh b.size=(hh.getD b.size).toNat:=by cases hh<;>simp [oN]
     have e2:oN l 0=(l.getD 0).toNat:=by cases l<;>simp [oN]
     rw[e1];refine⟨h4,uH hl (λz e=>by subst e;exact h0) ?_⟩;rw[e2];rw[e1,e2]at hK;exact⟨h2,hK⟩
   ·next n off=>
    split at h1
    ·next m e k hT=>
     obtain⟨hb,he⟩:=dT h1;cases he;simp only[hT];generalize cp m 4096=q at hb ⊢;rw[arA]at hb;refine b6.2 ⟨hb.1,uH qI (λz e=>by cases e) (b6.2 ⟨dJ.2 (arJ _),uH hl (λz e=>by cases e) (b6.2 ⟨?_,?_⟩)⟩)⟩
     ·rw[arA];exact⟨dJ.2 (Nat.zero_le _),hb.2⟩
     ·show K (.row n (off+0*k) (m-0) (m-0) k);rw[Nat.zero_mul,Nat.add_zero,Nat.sub_zero];exact hK
    ·cases h1
   ·next Gc nA=>
    split at h1
    ·next xs e k ys hx hT=>
     cases h1
     dsimp only;split
     ·next b=>exact absurd rfl (Gc b)
     ·next n off=>exact absurd rfl (nA n off)
     ·simp only[hx,hT];cases hh with
      |none=>
       cases cf with
       |ER h0 h2 hk he=>
        refine⟨hk,uH qI (λz e=>by cases e) ⟨arJ _,uH hl (λz e=>by subst e;exact h0) ?_⟩⟩;have e2:oN l 0=(l.getD 0).toNat:=by cases l<;>simp [oN]
        rw[e2];refine⟨h2,?_⟩;rw[show oN none xs.length=xs.length from rfl,List.take_length,he];exact hK
      |some z=>
       cases cf with
       |sub h0 h2 h3 h4 hk he=>
        refine⟨hk,uH qI (λz e=>by cases e;exact h3) ⟨h4,uH hl (λz e=>by subst e;exact h0) ?_⟩⟩;have e2:oN l 0=(l.getD 0).toNat:=by cases l<;>simp [oN]
        rw[e2];refine⟨h2,?_⟩;rw[show oN (some z) xs.length=z.toNat from rfl,he];exact hK
    ·cases h1
  ·cases h1
 ·split at h1
  ·next m _ _ y' _ hm=>
   split at h1
   ·next xs e k _ _ ys hx hT hy=>
    cases h1
    cases cf with
    |sub h0 h2 h3 h4 hk he=>
     simp only[hx,hT];refine⟨hk,?_⟩;simp only[jH,hm,hy,AV.int?];refine⟨Int.le_refl _,Nat.zero_le _,Int.le_refl _,?_,by simpa using hK⟩;first|rfl|trivial
   ·cases h1
  ·cases h1
theorem Ti{k:Nat}{y:AV}{ys:asn (asn D)}{K:asn (asn D)->Prop}(h1:HJ h k y=some ys)(hy:∀c∈ys,c.length=k)(hK:K ys):ux h k y K:=by
 unfold HJ at h1;unfold ux;split at h1
 ·split at h1
  ·next cs e=>
   split at h1
   ·next ds e2=>
    obtain⟨hb,rfl⟩:=dT h1;simp only[e,e2];exact b6.2 ⟨hb,hK⟩
   ·cases h1
  ·cases h1
 ·next hn=>
  split
  ·next n off len cap k'=>exact absurd rfl (hn n off len cap k')
  ·simp only[h1];exact⟨hy,hK⟩
theorem agV{T:TypeId}{y z:AV}(h1:Pa P T h y z a=some (x,h',i))(cf:OK P i a)(hC:C x h'):uh P T h y z C:=by
 unfold Pa at h1;unfold uh;split at h1
 ·next e k zs n' hT=>
  simp only[hT];split at h1
  ·next zv cE hz pK=>
   simp only[hz,pK];obtain⟨hb,h1⟩:=oT h1;refine b6.2 ⟨hb,?_⟩;split at h1
   ·next ys jT=>
    split at h1
    ·next n xs=>
     split at h1
     ·next e' k' len hn=>
      obtain⟨hc,he⟩:=dT h1;cases he;cases cf with
      |app hl hx hy hm l8 ju Dk=>
       subst ju;subst Dk;refine Ti jT hy ?_;simp only[hn];exact b6.2 ⟨hc,hl,hx,hm,l8,hC⟩
     ·cases h1
    ·cases h1
     cases cf with
     |app hl hx hy hm l8 ju Dk=>
      subst ju;subst Dk;refine Ti jT hy ?_;simp only[List.nil_append,arK,arS]at hC hm l8 ⊢;exact⟨hm,l8,hC⟩
    ·cases h1
     cases cf with
     |app hl hx hy hm l8 ju Dk=>
      subst ju;subst Dk;exact Ti jT hy ⟨hx,hm,l8,hC⟩
    ·cases h1
   ·cases h1
  ·cases h1
 ·cases h1
theorem amN{T:TypeId}{ps:asn (Nat×AV)}{K:AV->Prop}(h1:Oq P T ps=some x)(hK:K x):yQ P T ps K:=by
 unfold Oq at h1;unfold yQ;split at h1
 ·next pl z e1 e2=>
  simp only[e1,e2];split at h1
  ·next cs e3=>obtain⟨hb,rfl⟩:=dT h1;simp only[e3];exact b6.2 ⟨hb,hK⟩
  ·cases h1
 ·cases h1
theorem amo{T:TypeId}{len:Nat}{ps:asn (Nat×AV)}{K:AV->Prop}(h1:UD P T len ps=some x)(hK:K x):xo P T len ps K:=by
 unfold UD at h1;unfold xo;split at h1
 ·next e k hT=>
  simp only[hT];split at h1
  ·next z hz=>
   simp only[hz];split at h1
   ·next cs gx=>
    simp only[gx];split at h1
    ·next ds uw=>obtain⟨hb,rfl⟩:=dT h1;simp only[uw];exact b6.2 ⟨hb,hK⟩
    ·cases h1
   ·cases h1
  ·cases h1
 ·cases h1
theorem acg{T:TypeId}{op:BinOp}{y z:AV}{K:AV->Prop}(h1:NL P T op y z=some (x,i))(cf:OK P i a)(hK:K x):xQ P T op y z K:=by
 unfold NL at h1;unfold xQ;split at h1
 ·split at h1
  ·next v e=>
   obtain⟨hb,he⟩:=dT h1;cases he;cases cf with|nz h0=>simp only[e];exact b6.2 ⟨hb,h0,hK⟩
  ·next e=>
   simp only[e];split at h1
   ·next v e2=>
    cases h1
    cases cf with|nn h0=>simp only[e2];exact⟨h0,hK⟩
   ·next e2=>
    simp only[e2];split at h1
    ·next v e3=>obtain⟨hb,he⟩:=dT h1;cases he;simp only[e3];exact b6.2 ⟨hb,hK⟩
    ·cases h1
 ·split at h1
  ·next v e=>cases h1;simp only[e];exact hK
  ·next e=>
   simp only[e];split at h1
   ·cases h1;cases cf with|cat h=>exact⟨h,hK⟩
   ·cases h1
 ·split at h1
  ·next v e=>obtain⟨hb,he⟩:=dT h1;cases he;simp only[e];exact b6.2 ⟨hb,hK⟩
  ·cases h1
 ·split at h1
  ·next b e=>
   simp only[e];split at h1
   ·next v e2=>cases h1;simp only[e2];exact hK
   ·cases h1
  ·cases h1
 ·cases h1
theorem aiT{s t:TypeId}{y:AV}{K:AV->Prop}(h1:Nb P s t y a=some (x,i))(cf:OK P i a)(hK:K x):yK P s t y K:=by
 unfold Nb at h1;unfold yK;split at h1
 ·split at h1
  ·next e1 e2=>cases h1;simp only[e1,e2];exact hK
  ·cases h1
 ·obtain⟨hb,he⟩:=dT h1;cases he;exact b6.2 ⟨hb,hK⟩
 ·next h8 h9=>
  split at h1
  ·next xs e k s' e1 e2=>
   obtain⟨hb,he⟩:=dT h1;cases he;cases cf with
   |Mm h=>
    obtain⟨ns,k1,k2⟩:=h;subst k2;split
    ·next k' n=>exact absurd rfl (h8 k' n)
    ·next b'=>exact absurd rfl (h9 b')
    ·simp only[e1,e2];exact b6.2 ⟨hb,ns,k1,hK⟩
  ·cases h1
theorem YF{T:TypeId}{y:AV}{f:Nat}{K:AV->Prop}(h1:Ke P T y f=some x)(hK:K x):xX P T y f K:=by
 unfold Ke at h1;unfold xX;split at h1
 ·next e=>obtain⟨hb,rfl⟩:=dT h1;simp only[e];exact b6.2 ⟨hb,hK⟩
 ·next e=>simp only[e,h1];exact hK
 ·cases h1
theorem Qg{y:asp AV}(h1:Lk h y=some (x,h',i)):y=some x/\h'=h:=by
 cases y with
 |none=>cases h1
 |some y=>cases h1;exact⟨rfl,rfl⟩
theorem Hd{y:asp (AV×In)}(h1:AY h y=some (x,h',i)):y=some (x,i)/\h'=h:=by
 cases y with
 |none=>cases h1
 |some y=>cases h1;exact⟨rfl,rfl⟩
theorem zY{o:Oper}(h1:xH P o.op ρ h a=some (x,h',i))(cf:OK P i a)(hC:C x h'):cC P o ρ h C:=by
 obtain⟨dst,op,type,pos,after,guard⟩:=o;simp only at h1;unfold xH at h1;unfold cC;split at h1
 ·cases h1;exact hC
 ·cases h1;exact hC
 ·next c y z=>
  split at h1
  ·next b=>
   cases h1
   simp only[OK.HS cf];cases b<;>simp_all
  ·cases h1
 ·split at h1
  ·next z e=>cases h1;simp only[e];exact hC
  ·cases h1
 ·obtain⟨hb,he⟩:=dT h1;cases he;exact b6.2 ⟨hb,hC⟩
 ·split at h1
  ·next cs off e=>
   split at h1
   ·next y e2=>cases h1;exact R7 e e2 hC
   ·cases h1
  ·cases h1
 ·split at h1
  ·next n off e=>
   split at h1
   ·next cs e2=>
    split at h1
    ·next k e3=>obtain⟨hb,he⟩:=dT h1;cases he;simp only[e,zR,e2,e3];exact b6.2 ⟨hb,hC⟩
    ·cases h1
   ·cases h1
  ·cases h1
 ·split at h1
  ·next e=>cases h1;simp only[e];exact hC
  ·next e=>cases h1;simp only[e];exact hC
  ·next e=>cases h1;simp only[e];exact hC
  ·cases h1
 ·split at h1
  ·next e=>
   simp only[e];split at h1
   ·next e2=>cases h1;simp only[e2];exact hC
   ·next e2=>cases h1;simp only[e2];exact hC
   ·cases h1
  ·cases h1
 ·obtain⟨e,rfl⟩:=Qg h1;exact YF e hC
 ·obtain⟨e,rfl⟩:=Hd h1;exact aoz e cf hC
 ·split at h1
  ·next b z c e1 e2=>
   obtain⟨hb,he⟩:=dT h1;cases he;cases cf with
   |ch h0 hc=>simp only[e1,e2];refine b6.2 ⟨hb,h0,?_⟩;simp only[hc];exact hC
  ·cases h1
 ·obtain⟨e,rfl⟩:=Qg h1;exact amN e hC
 ·obtain⟨e,rfl⟩:=Qg h1;exact amo e hC
 ·obtain⟨e,rfl⟩:=Hd h1;exact ap9 e cf hC
 ·split at h1
  ·next e=>
   split at h1
   ·next e2=>cases h1;simp only[e,e2];exact hC
   ·cases h1
  ·cases h1
 ·split at h1
  ·next e=>cases h1;simp only[e];exact hC
  ·cases h1
 ·obtain⟨e,rfl⟩:=Hd h1;exact acg e cf hC
 ·unfold yM;split at h1
  ·next e=>
   split at h1
   ·next e2=>cases h1;simp only[e,e2];exact hC
   ·cases h1
  ·cases h1
 ·obtain⟨e,rfl⟩:=Hd h1;exact aiT e cf hC
 ·next c=>
  split at h1
  ·next hc=>
   simp only[hc];split at h1
   ·next e1 e2=>obtain⟨e,rfl⟩:=Hd h1;simp only[e1,e2];exact aoW (C:=λx=>C x _) e cf hC (λn hn=>hn)
   ·cases h1
  ·next hc=>
   simp only[hc];split at h1
   ·next e1 e2=>obtain⟨hb,h1⟩:=oT h1;simp only[e1,e2];exact b6.2 ⟨hb,agV h1 cf hC⟩
   ·cases h1
  ·next hc=>
   simp only[hc];split at h1
   ·next e1=>cases h1;simp only[e1];exact hC
   ·cases h1
  ·next hc=>
   simp only[hc];split at h1
   ·next e1=>cases h1;simp only[e1];exact hC
   ·cases h1
  ·next f hc=>
   simp only[hc];split at h1
   ·next g dF r e=>
    obtain⟨hb,he⟩:=dT h1;cases he;simp only[arA]at hb;simp only[e];cases cf with|call ku=>exact(ku.use hb.1 hb.2 hC).aat
   ·next g dF r h2 e=>
    cases h1
    simp only[e];cases cf with|ku ku=>exact ku.mono λr1 h1 ⟨e1,e2⟩=>by subst e1;subst e2;exact hC
   ·next g dF l er H r H' e=>
    cases h1
    simp only[e];cases cf with|nN ha hd hb hl hc=>exact(ha▸(hc.nN hd hb hl).mono λr1 h1 ⟨e1,e2⟩=>by subst e1;subst e2;exact hC:cG P g _ _ _).Np
   ·next g dF l er H r H' e=>
    cases h1
    simp only[e];cases cf with|aa5 ph hv ha hd hb hl hc=>exact(ha▸(hc.nN hd (by rw[hb,aqc ph]) (by rw[arA]at hl ⊢;exact⟨hl.1,ajn ph hl.2⟩)).mono λr1 h1 ⟨e1,e2⟩=>by subst e1;subst e2;rw[<-aie hv];exact hC:cG P g _ _ _).Np
   ·next g dF l er H r e=>
    cases h1
    simp only[e];cases cf with|rq ha hd hb hl hc=>exact(ha▸(by have:=hc.rq hd hb hl [];rw[arT]at this;exact this.mono λr1 h1 ⟨e1,e2⟩=>by subst e1;subst e2;exact hC):cG P g _ _ _).Np
   ·next q r e=>
    obtain⟨hb,he⟩:=dT h1;cases he;simp only[arA]at hb;simp only[e];cases cf with|Gg hq=>exact hq.use hb.1 hb.2 hC
   ·cases h1
  ·cases h1
 ·next op _=>
  unfold xR at h1;split at h1
  ·next y h2 p e=>
   cases h1
   simp only[e];refine⟨?_,hC⟩;cases p with
   |no=>trivial
   |lt n=>cases cf with|sd h=>exact h
  ·cases h1
end
def jk:asn (Nat×cd)->Nat->cd
 |[],_=> .none
 |(k,x)::l,i=>bif k==i then x else jk l i
def uI(i:In)(a:cd)(r:asp (St×asn (In×cd))):asp (St×asn (In×cd)):=
 match i with
 | .none=>r
 |i=>match r with
  |some (s,l)=>some (s,(i,a)::l)
  |none=>none
def Hi:cd->Bool
 | .SO .. | .Og .. | .G8 .. =>true
 |_=>false
def AM(o:Oper):cd->Bool
 | .G8 [] .. =>cu o==6
 |_=>false
def Ko(P:asq)(dr vk:Bool)(op:Op)(ρ:Operand->AV)(h:asn ao)(a:cd):asp (AV×asn ao×In):=
 match a with
 | .va va=>bif dr&& !vk then none else match iS P op ρ h va with
   |some (x,h',p)=>some (x,h', .pr p)
   |none=>none
 |a=>xH P op ρ h a
def rR(P:asq)(dr:Bool)(o:Oper)(j:Nat)(as:asn (Nat×cd))(s:St):asp (St×asn (In×cd)):=
 bif dr&&Hi (jk as (3*j+1))&& !AM o (jk as (3*j+1))then none else
 match Ko P dr (jN o) o.op (ev s) s.h (jk as (3*j+1))with
 |some (x,h',i)=>match jk as (3*j+2)with
  | .eq y=>uI i (jk as (3*j+1)) (some ((s.wh h').put o.dst y,[(.eq x, .eq y)]))
  |_=>uI i (jk as (3*j+1)) (some ((s.wh h').put o.dst x,[]))
 |none=>none
def Ep(o:Oper)(s:St):St:=s.put o.dst (.d (.v undef))
def rJ(l:asn (In×cd)):asp (St×asn (In×cd))->asp (St×asn (In×cd))
 |some (s,m)=>some (s,l++m)
 |none=>none
def oh(P:asq)(ops:Array Oper)(dr:Bool)(o:Oper)(j:Nat)(as:asn (Nat×cd))(s:St):asp (St×asn (In×cd)):=
 match o.guard with
 |none=>rR P dr o j as s
 |some (g,want)=>match jk as (3*j)with
  | .bit b=>rJ [(.bit (wg ops g s.t), .bit b)] (bif b==want then rR P dr o j as s else some (Ep o s,[]))
  | .Gl=>rJ [(.bit (wg ops g s.t), .Gl)] (some (Ep o s,[]))
  |_=>none
def ot(P:asq)(ops:Array Oper)(dr:Bool):asn Oper->Nat->asn (Nat×cd)->St->asp (St×asn (In×cd))
 |[],_,_,s=>some (s,[])
 |o::rest,j,as,s=>match oh P ops dr o j as s with
  |some (s1,l)=>rJ l (ot P ops dr rest (j+1) as s1)
  |none=>none
def ie(P:asq)(l:asn (In×cd)):Prop:=∀p∈l,OK P p.1 p.2
section
variable {P:asq} {ops:Array Oper} {dr:Bool} {o:Oper} {j:Nat} {as:asn (Nat×cd)} {s s1:St} {l:asn (In×cd)} {K:St->Prop}
theorem Mb{i:In}{a:cd}{r:asp (St×asn (In×cd))}(h:uI i a r=some (s1,l))(cf:ie P l):∃m,r=some (s1,m)/\ie P m/\OK P i a:=by
 unfold uI at h;split at h
 ·exact⟨l,h,cf, .none⟩
 ·split at h
  ·next s2 m=>
   cases h
   exact⟨m,rfl,λp hp=>cf p (arH _ hp),cf (i,a) arE⟩
  ·cases h
theorem BO{r:asp (St×asn (In×cd))}{m:asn (In×cd)}(h:rJ m r=some (s1,l))(cf:ie P l):∃n,r=some (s1,n)/\ie P n/\ie P m:=by
 unfold rJ at h;split at h
 ·next s2 n=>
  cases h
  exact⟨n,rfl,λp hp=>cf p (List.mem_append_right _ hp),λp hp=>cf p (List.mem_append_left _ hp)⟩
 ·cases h
def Ij(P:asq)(dr:Bool)(o:Oper)(K:St->Prop)(s:St):Prop:=bif dr then WX P o K s else o9 P o K s
theorem ajZ{x:AV}{h':asn ao}{i:In}{a:cd}(h1:xH P o.op (ev s) s.h a=some (x,h',i))(cf:OK P i a)(hh:Hi a=false)(hK:K ((s.wh h').put o.dst x)):WX P o K s:=by
 refine .inl ?_;unfold CD;split
 ·next c fJ=>
  split
  ·next f hc=>
   rw[fJ]at h1;unfold xH at h1;simp only[hc]at h1;split at h1
   ·next g dF r e=>
    obtain⟨hb,he⟩:=dT h1;cases he;simp only[arA]at hb;simp only[e];cases cf with
    |call ku=>exact⟨_,hK,λe=>(ku.use hb.1 hb.2 ⟨rfl,rfl⟩).aat⟩
   ·cases hh
   ·cases hh
   ·cases hh
   ·next g dF l er H r e=>
    cases h1
    simp only[e];cases cf with|rq ha hd hb hl hc=>exact⟨_,hK,λe=>(ha▸hc.rq hd hb hl e:cG P g _ _ _).Np⟩
   ·next q r e=>
    obtain⟨hb,he⟩:=dT h1;cases he;simp only[arA]at hb;simp only[e];cases cf with
    |Gg hq=>
     have:=λh=>hq.use (h:=h) (C:=λr' h'=>r'=x/\h'=h) hb.1 hb.2 ⟨rfl,rfl⟩;obtain⟨g,cs,e1,_⟩:=this [];refine⟨g,cs,e1,x,hK,λe=> ?_⟩;obtain⟨g',cm,e2,h9⟩:=this (s.h++e);rw[e1]at e2;cases e2
     exact h9
   ·cases h1
  ·exact zY (C:=λx h'=>K ((s.wh h').put o.dst x)) h1 cf hK
 ·exact zY (C:=λx h'=>K ((s.wh h').put o.dst x)) h1 cf hK
theorem amm{o:Oper}{ρ:Operand->AV}{h h':asn ao}{er:asn AV}{H H':asn ao}{r x:AV}{i:In}(hk:cu o=6)(hr:xH P o.op ρ h (.G8 [] er H r H')=some (x,h',i)):h'=h++H'.map (ao.q6 (rn [] h.length)):=by
 unfold cu at hk;split at hk
 all_goals first|(cases hk;done)|skip
 next c fJ=>
  split at hk
  all_goals first|(cases hk;done)|skip
  next f hc=>
   rw[fJ]at hr;unfold xH at hr;simp only[hc]at hr;generalize ρ f=v at hr;cases v<;>first|(cases hr;rfl)|cases hr
theorem Z4(h:rR P dr o j as s=some (s1,l))(cf:ie P l)(hK:K s1):Ij P dr o K s:=by
 unfold rR at h;cases hd:dr&&Hi (jk as (3*j+1))&& !AM o (jk as (3*j+1))with
 |true=>rw[hd]at h;cases h
 |false=>
  rw[hd]at h;simp only[cond_false]at h;split at h
  ·next x h' i hr=>
   have fin:OK P i (jk as (3*j+1))->K ((s.wh h').put o.dst x)->Ij P dr o K s:=λh1 h2=>by
    unfold Ij;cases dr with
    |true=>
     unfold Ko at hr;split at hr
     ·next va e=>
      cases hv:jN o with
      |false=>rw[hv]at hr;cases hr
      |true=>
       rw[hv]at hr;simp only[Bool.not_true,Bool.and_false,cond_false]at hr;split at hr
       ·next x2 OS p e2=>
        cases hr
        rw[e]at h1;cases h1 with|pr _ hp=>exact .inr (.inr (.inl ⟨hv,va,x,h',p,e2,hp,h2⟩))
       ·cases hr
     ·by_cases hx:AM o (jk as (3*j+1))=true
      ·refine .inr (.inr (.inr ?_));generalize jk as (3*j+1)=a at hx h1 hr;unfold AM at hx;split at hx
       ·next er H r H'=>
        have DZ:cu o=6:=by simpa using hx
        have this:h'=s.h++H'.map (ao.q6 (rn [] s.h.length)):=amm DZ hr;refine⟨DZ,x,H'.map (ao.q6 (rn [] s.h.length)),?_,λC hC=> ?_⟩
        ·rw[<-this];exact h2
        ·rw[<-this]at hC;exact zY hr h1 hC
       ·cases hx
      ·exact ajZ hr h1 (by simpa [hx]using hd) h2
    |false=>
     unfold Ko at hr;split at hr
     ·next va e=>
      simp only[Bool.false_and,cond_false]at hr;split at hr
      ·next x2 OS p e2=>
       cases hr
       rw[e]at h1;cases h1 with|pr _ hp=>exact .inl ⟨va,x,h',p,e2,hp,h2⟩
      ·cases hr
     ·exact .inr (.inr (.inl (zY (C:=λx h'=>K ((s.wh h').put o.dst x)) hr h1 h2)))
   split at h
   ·next y hy=>
    obtain⟨m,e,h2,h3⟩:=Mb h cf;cases e
    have:=h2 (.eq x, .eq y) arE;cases this with|eq e=>subst e;exact fin h3 hK
   ·obtain⟨m,e,h2,h3⟩:=Mb h cf;cases e
    exact fin h3 hK
  ·cases h
theorem SG(h:oh P ops dr o j as s=some (s1,l))(cf:ie P l)(hK:K s1):jy ops o s (Ij P dr o K s) (K (s.put o.dst (.d (.v undef)))):=by
 unfold oh at h;split at h
 ·next hg=>unfold jy;rw[hg];exact Z4 h cf hK
 ·next g want hg=>
  obtain⟨dst,op,ty,pos,after,guard⟩:=o;simp only at hg;subst hg;split at h
  ·next b hb=>
   obtain⟨n,e,h2,h3⟩:=BO h cf;have h4:=OK.HS (h3 (_,_) arE);rw[NN,h4];refine⟨λe2=> ?_,λe2=> ?_⟩
   ·subst e2;simp only[BEq.rfl,cond_true]at e;exact Z4 e h2 hK
   ·subst e2;have:((!want)==want)=false:=by cases want<;>rfl
    rw[this]at e;simp only[cond_false]at e;cases e
    exact hK
  ·next hb=>
   obtain⟨n,e,h2,h3⟩:=BO h cf;cases e
   have h4:=h3 (_,_) arE;have h5:wg ops g s.t= .d (.v undef):=by
    generalize wg ops g s.t=z at h4;cases h4;rfl
   rw[NN,h5];exact hK
  ·cases h
theorem y9:∀(ol:asn Oper)(j:Nat)(s:St)(l:asn (In×cd)),ot P ops dr ol j as s=some (s1,l)->ie P l->K s1->(bif dr then G9 P ops ol K s else rY P ops ol K s)
 |[],_,s,l,h,_,hK=>by cases h;cases dr<;>exact hK
 |o::rest,j,s,l,h,cf,hK=>by
  unfold ot at h;split at h
  ·next s2 m hg=>
   obtain⟨n,e,h2,h3⟩:=BO h cf;have ih:=y9 rest (j+1) s2 n e h2 hK;cases dr with
   |true=>exact SG (K:=G9 P ops rest K) hg h3 ih
   |false=>exact SG (K:=rY P ops rest K) hg h3 ih
  ·cases h
theorem On(s:St)(d:asp Nat)(x:AV):∃pre,(s.put d x).t=pre++s.t:=by
 cases d with
 |none=>exact⟨[],rfl⟩
 |some k=>
  by_cases hk:k<s.n
  ·exact⟨[(k,x)],by rw[ru hk];rfl⟩
  ·exact⟨[],by rw[DA hk];rfl⟩
theorem VY(h:oh P ops dr o j as s=some (s1,l)):(∃pre,s1.t=pre++s.t)/\s1.n=s.n:=by
 have cI:∀{i a r l},uI i a r=some (s1,l)->∃m,r=some (s1,m):=fun{i a r l} h=>by
  unfold uI at h;split at h
  ·exact⟨_,h⟩
  ·split at h
   ·cases h;exact⟨_,rfl⟩
   ·cases h
 have cR:∀{m r l},rJ m r=some (s1,l)->∃m,r=some (s1,m):=fun{m r l} h=>by
  unfold rJ at h;split at h
  ·cases h;exact⟨_,rfl⟩
  ·cases h
 have st:∀l,rR P dr o j as s=some (s1,l)->(∃pre,s1.t=pre++s.t)/\s1.n=s.n:=λl h=>by
  unfold rR at h;cases hd:dr&&Hi (jk as (3*j+1))&& !AM o (jk as (3*j+1))with
  |true=>rw[hd]at h;cases h
  |false=>
   rw[hd]at h;simp only[cond_false]at h;split at h
   ·split at h<;>(obtain⟨m,e⟩:=cI h;cases e;exact⟨On _ _ _,by rw[rF];rfl⟩)
   ·cases h
 unfold oh at h;split at h
 ·exact st _ h
 ·split at h
  ·obtain⟨m,e⟩:=cR h;revert e;generalize ((_:Bool)==_)=q;intro e;cases q with
   |true=>exact st _ e
   |false=>cases e;exact⟨On _ _ _,by unfold Ep;rw[rF]⟩
  ·obtain⟨m,e⟩:=cR h;cases e;exact⟨On _ _ _,by unfold Ep;rw[rF]⟩
  ·cases h
theorem Tq:∀(ol:asn Oper)(j:Nat)(s:St)(l:asn (In×cd)),ot P ops dr ol j as s=some (s1,l)->(∃pre,s1.t=pre++s.t)/\s1.n=s.n
 |[],_,s,l,h=>by cases h;exact⟨⟨[],rfl⟩,rfl⟩
 |o::rest,j,s,l,h=>by
  unfold ot at h;split at h
  ·next s2 m hg=>
   unfold rJ at h;split at h
   ·next s3 n e=>
    cases h
    obtain⟨⟨p1,e1⟩,n1⟩:=VY hg;obtain⟨⟨p2,e2⟩,n2⟩:=Tq rest (j+1) s2 n e;exact⟨⟨p2++p1,by rw[e2,e1,arP]⟩,n2.trans n1⟩
   ·cases h
  ·cases h
end
def Xj:AV->Bool
 | .dead=>true
 |_=>false
def oJ(P:asq)(dr:Bool)(l:asn Oper)(as:asn (Nat×cd))(bj:asn Nat)(s:St):asp (asn (Nat×AV)×asn ao×asn (In×cd)):=
 match ot P l.toArray dr l 0 as s with
 |some (s1,ps)=>bif (s1.t.take (s1.t.length-s.t.length)).all (λp=>bj.any (·==p.1)||Xj (bw s.t p.1))then some (bj.map λk=>(k,bw s1.t k),s1.h,ps)else none
 |none=>none
theorem D9:∀(a b:asn (Nat×AV))(i:Nat),(i∈a.map (·.1)/\bw (a++b) i=bw a i)\/(i ∉ a.map (·.1)/\bw (a++b) i=bw b i)
 |[],b,i=> .inr ⟨by simp,rfl⟩
 |(k,x)::a,b,i=>by
  by_cases e:i=k
  ·subst e;exact .inl ⟨by simp,by simp [kY]⟩
  ·rcases D9 a b i with⟨h1,h2⟩|⟨h1,h2⟩
   ·exact .inl ⟨by simp at h1 ⊢;exact .inr h1,by rw[List.cons_append,kY,if_neg e,h2,kY,if_neg e]⟩
   ·exact .inr ⟨by simp at h1 ⊢;exact⟨e,h1⟩,by rw[List.cons_append,kY,if_neg e,h2]⟩
section
variable {P:asq} {dr:Bool} {as:asn (Nat×cd)} {s s1 s':St} {ps:asn (In×cd)} {bj:asn Nat} {ol:asn Oper} {Δ:asn (Nat×AV)} {h':asn ao}
theorem Ls(h:oJ P dr ol as bj s=some (Δ,h',ps)):∃s1,ot P ol.toArray dr ol 0 as s=some (s1,ps)/\s1.n=s.n/\s1.h=h'/\∀i,bw (Δ++s.t) i=bw s1.t i\/bw (Δ++s.t) i= .dead:=by
 unfold oJ at h;split at h
 ·next s1 ps' hr=>
  obtain⟨hb,he⟩:=dT h;cases he
  obtain⟨⟨pre,e1⟩,n1⟩:=Tq _ _ _ _ hr;refine⟨s1,hr,n1,rfl,λi=> ?_⟩;have F7:∀(f:Nat->AV),(bj.map λk=>(k,f k)).map (·.1)=bj:=λf=>by rw[List.map_map];exact List.map_id _
  rcases D9 (bj.map λk=>(k,bw s1.t k)) s.t i with⟨h1,h2⟩|⟨h1,h2⟩
  ·rw[F7]at h1;rw[h2,rz (λk=>bw s1.t k),if_pos h1];exact .inl rfl
  ·rw[F7]at h1;rw[h2];rw[e1,arz,Nat.add_sub_cancel,List.take_left']at hb
   ·rw[e1];rcases D9 pre s.t i with⟨h3,h4⟩|⟨h3,h4⟩
    ·right
     obtain⟨p,hp,rfl⟩:=List.mem_map.1 h3;have:=arY.1 hb p hp;rw[Bool.or_eq_true]at this;rcases this with this|this
     ·exfalso;obtain⟨k,hk,e⟩:=List.any_eq_true.1 this;rw[beq_iff_eq]at e;exact h1 (e▸hk)
     ·generalize bw s.t p.1=z at this;cases z<;>first|rfl|cases this
    ·exact .inl h4.symm
   ·rfl
 ·cases h
theorem cN.less{G:Gh}{w:ass}{a:Act}(hs:cN G w a s1)(hn:s'.n=s1.n)(hh:s'.h=s1.h)(ht:∀i,bw s'.t i=bw s1.t i\/bw s'.t i= .dead):cN G w a s':=
 ⟨hs.size.trans hn.symm,λi=>by
  rcases ht i with e|e
  ·rw[e];exact hs.tmp i
  ·rw[e];exact .dead _,by rw[hh];exact hs.inv,hs.df⟩
end
structure Ob(P:Program) where
 i:In
 o:cd
 ok:OK P i o
def bT{P:asq}{e:Bool}(h:e=true):Ob P:=⟨_,_, .bit (b:=true) h⟩
def bF{P:asq}{e:Bool}(h:e=false):Ob P:=⟨_,_, .bit (b:=false) h⟩
def uN{P:asq}:Ob P:=⟨_,_, .Gl⟩
def cL{P:asq}{f:FuncId}{args:asn AV}{r:AV}(h:gD P f args (·=r)):Ob P:=⟨_,_, .call h⟩
def iO{P:asq}(l:asn (Nat×Ob P)):asn (Nat×cd):=l.map λb=>(b.1,b.2.o)
def iE{P:asq}(l:asn (Nat×Ob P)):asn (In×cd):=l.map λb=>(b.2.i,b.2.o)
theorem tC{P:asq}(l:asn (Nat×Ob P)):ie P (iE l):=λp hp=>by
 obtain⟨b,_,rfl⟩:=List.mem_map.1 hp;exact b.2.ok
section
variable {P:asq} {r:asp Nat} {N0 id:Nat} {ol:asn Oper} {y:Code} {s:St} {Q Q':Exit->St->Prop} {aB:asn (Nat×Ob P)} {Δ:asn (Nat×AV)} {h':asn ao}
theorem HY{c:Code}{s':St}(hn:s'.n=s.n)(hh:s'.h=s.h)(ht:∀i,bw s'.t i=bw s.t i\/bw s'.t i= .dead)(h:bJ P r N0 c Q s'):bJ P r N0 c Q s:=
 ⟨λG w a n hs hN=>h.run G w a n (hs.less hn hh ht) hN⟩
theorem X0(aB:asn (Nat×Ob P))(Δ:asn (Nat×AV))(h':asn ao)(h:oJ P false ol (iO aB) (Δ.map (·.1)) s=some (Δ,h',iE aB))(k:bJ P r N0 y Q' ⟨s.n,Δ++s.t,h'⟩):bJ P r N0 (.region id ol.toArray false) (ik (λs=>bJ P r N0 y Q' s) Q) s:=by
 obtain⟨s1,h1,h2,h3,h4⟩:=Ls h;refine fD ?_;exact y9 (dr:=false) ol 0 s _ h1 (tC aB) (HY (s:=s1) (s':=⟨s.n,Δ++s.t,h'⟩) h2.symm h3.symm h4 k)
theorem Vo(hm:P.follows .mixedOrders=true)(hl:om ol.toArray=true)(aB:asn (Nat×Ob P))(Δ:asn (Nat×AV))(h':asn ao)(h:oJ P true ol (iO aB) (Δ.map (·.1)) s=some (Δ,h',iE aB))(k:bJ P r N0 y Q' ⟨s.n,Δ++s.t,h'⟩):bJ P r N0 (.region id ol.toArray true) (ik (λs=>bJ P r N0 y Q' s) Q) s:=by
 obtain⟨s1,h1,h2,h3,h4⟩:=Ls h;refine L8 hm hl ?_;exact y9 (dr:=true) ol 0 s _ h1 (tC aB) (HY (s:=s1) (s':=⟨s.n,Δ++s.t,h'⟩) h2.symm h3.symm h4 k)
def BE(P:asq)(dr:Bool)(l:asn Oper)(as:asn (Nat×cd))(s:St):asp (asn (Nat×AV)×asn ao×asn (In×cd)):=
 match ot P l.toArray dr l 0 as s with
 |some (s1,ps)=>some (s1.t,s1.h,ps)
 |none=>none
theorem XP{dr:Bool}{as:asn (Nat×cd)}{t:asn (Nat×AV)}{ps:asn (In×cd)}(h:BE P dr ol as s=some (t,h',ps)):ot P ol.toArray dr ol 0 as s=some (⟨s.n,t,h'⟩,ps):=by
 unfold BE at h;split at h
 ·next s1 ps' hr=>
  cases h
  obtain⟨_,n1⟩:=Tq _ _ _ _ hr;rw[hr,<-n1]
 ·cases h
theorem aq7(aB:asn (Nat×Ob P))(Δ:asn (Nat×AV))(h':asn ao)(h:BE P false ol (iO aB) s=some (Δ++s.t,h',iE aB))(k:Q .normal ⟨s.n,Δ++s.t,h'⟩):bJ P r N0 (.region id ol.toArray false) Q s:=
 fD (y9 (dr:=false) ol 0 s _ (XP h) (tC aB) k)
theorem afA(hm:P.follows .mixedOrders=true)(hl:om ol.toArray=true)(aB:asn (Nat×Ob P))(Δ:asn (Nat×AV))(h':asn ao)(h:BE P true ol (iO aB) s=some (Δ++s.t,h',iE aB))(k:Q .normal ⟨s.n,Δ++s.t,h'⟩):bJ P r N0 (.region id ol.toArray true) Q s:=
 L8 hm hl (y9 (dr:=true) ol 0 s _ (XP h) (tC aB) k)
end
def AV.fin(m:Nat)(x:AV):AV:=(x.bG m).nrm
def ao.po:ao->ao
 | .cells cs=> .cells (cs.map AV.nrm)
 | .lp ls p as bd cs=> .lp ls p as bd (cs.map AV.nrm)
 | .it sn cs=> .it sn (cs.map AV.nrm)
 | .vec e k cs=> .vec e k (cs.map (·.map AV.nrm))
 |B=>B
def jE(s:St)(live:asn Nat)(m:Nat):asp St:=
 bif cp m s.h.length&&(live.all λk=>((bw s.t k).bG m).aQ m)&&(((s.h.take m).map (ao.bG m)).all (ao.aQ m))then some ⟨s.n,live.map λk=>(k,(bw s.t k).fin m),((s.h.take m).map (ao.bG m)).map ao.po⟩else none
theorem Ul{G:Gh}{w:ass}{h:asn ao}(hi:b9 G w h):b9 G w (h.map ao.po):=by
 have eN:∀(n:Nat)(B:ao),(h.map ao.po)[n]?=some B->∃B',h[n]?=some B'/\B=B'.po:=λn B hB=>by
  rw[arF]at hB;cases hx:h[n]? with
  |none=>rw[hx]at hB;cases hB
  |some B'=>rw[hx]at hB;cases hB;exact⟨B',rfl,rfl⟩
 have dV:∀n b,cg (h.map ao.po) G n=some b->cg h G n=some b:=λn b hb=>by
  obtain⟨B,hB,hb⟩:=m7 hb;obtain⟨B',h1,rfl⟩:=eN n B hB;rw[dP h1,<-hb];cases B'<;>rfl
 refine⟨by rw[arD];exact hi.len,hi.z,hi.S,λn B hB=> ?_,λi j b h1 h2=>hi.inj i j b (dV i b h1) (dV j b h2),hi.gl⟩;obtain⟨B',h1,rfl⟩:=eN n B hB;have eB:=hi.dv n B' h1;cases B' with
 |gone=>trivial
 |front e k len=>exact eB
 |map kv=>exact eB
 |vec e k cs=>
  obtain⟨c1,c2,c3,c4⟩:=eB;refine⟨by rw[arD];exact c1,by rw[arD];exact c2,λc hc=> ?_,?_⟩
  ·obtain⟨x,hx,rfl⟩:=List.mem_map.1 hc;rw[arD];exact c3 x hx
  ·rcases c4 with⟨d1,d2,A,d3⟩|⟨g,cap,cur,d1,d2,d3,d4,d5,d6,d7,d8,d9⟩
   ·exact .inl ⟨d1,by rw[d2];rfl,A,d3⟩
   ·refine .inr ⟨g,cap,cur,d1,by rw[arD];exact d2,d3,d4,by rw[arD];exact d5,d6,d7,d8,λi j c x u hc hx hu=> ?_⟩;rw[arF]at hc;cases hy:cs[i]? with
    |none=>rw[hy]at hc;cases hc
    |some y=>
     rw[hy]at hc;cases hc
     rw[arF]at hx;cases hw:y[j]? with
     |none=>rw[hw]at hx;cases hx
     |some z=>rw[hw]at hx;cases hx;exact(d9 i j y z u hy hw hu).nrm
 |cells cs=>
  obtain⟨c1,c2,vs,T,c3,c4,c5⟩:=eB;refine⟨c1,c2,vs,T,c3,by rw[arD];exact c4,λi u c hu hc=> ?_⟩;rw[arF]at hc;cases hx:cs[i]? with
  |none=>rw[hx]at hc;cases hc
  |some x=>rw[hx]at hc;cases hc;exact(c5 i u x hu hx).nrm
 |lp ls p as bd cs=>
  obtain⟨c1,c2,fn,vs,T,c3,c4,c5⟩:=eB;refine⟨c1,c2,fn,vs,T,c3,by rw[arD];exact c4,λi u c hu hc=> ?_⟩;rw[arF]at hc;cases hx:cs[i]? with
  |none=>rw[hx]at hc;cases hc
  |some x=>rw[hx]at hc;cases hc;exact(c5 i u x hu hx).nrm
 |it sn cs=>
  obtain⟨c1,c2,fn,vs,T,c3,c4,c5⟩:=eB;refine⟨c1,c2,fn,vs,T,c3,by rw[arD];exact c4,λi u c hu hc=> ?_⟩;rw[arF]at hc;cases hx:cs[i]? with
  |none=>rw[hx]at hc;cases hc
  |some x=>rw[hx]at hc;cases hc;exact(c5 i u x hu hx).nrm
section
variable {P:asq} {r:asp Nat} {n N0:Nat} {G:Gh} {w:ass} {a:Act} {s s':St} {Q Q':Exit->St->Prop} {live:asn Nat} {m:Nat}
theorem akh(h:jE s live m=some s'):s.AA live m/\s'.n=s.n/\s'.t=(live.map λk=>(k,(bw s.t k).fin m))/\s'.h=((s.h.take m).map (ao.bG m)).map ao.po:=by
 unfold jE at h;obtain⟨hb,rfl⟩:=dT h;rw[arA,arA]at hb;exact⟨⟨dJ.1 hb.1.1,hb.1.2,hb.2⟩,rfl,rfl,rfl⟩
theorem cN.jE(hs:cN G w a s)(h:jE s live m=some s'):cN (G.cut m) w a s':=by
 obtain⟨h1,h2,h3,h4⟩:=akh h;have hm:=hs.mask h1;refine⟨hs.size.trans h2.symm,λi=> ?_,by rw[h4];exact Ul hm.inv,hs.df⟩;have:=hm.tmp i
 change aJ _ _ _ (bw (live.map λk=>(k,(bw s.t k).bG m)) i)at this
 rw[rz (λk=>(bw s.t k).bG m)]at this;rw[h3,rz (λk=>(bw s.t k).fin m)];split at this
 ·rename_i hi;rw[if_pos hi];exact this.nrm
 ·rename_i hi;rw[if_neg hi];exact .dead _
theorem apo{c:Code}{ι:Type}(live:asn Nat)(m:Nat)(st:ι->St)(I:ι->Prop)(μ:ι->Nat)(i0:ι)(hm:N0<=m)(h0:Go.Proofs.YtdchibpnjpnkoaaGreatDoor.jE s live m=some (st i0))(hI:I i0)
 (round:∀i,I i->bJ P r N0 c (ik (λs'=>∃i',Go.Proofs.YtdchibpnjpnkoaaGreatDoor.jE s' live m=some (st i')/\I i'/\μ i'<μ i) Q) (st i)):bJ P r N0 (.loop c) Q s:=by
 constructor
 intro G w a n hs _;refine SL (λ(i:ι) a' w'=>∃G',I i/\b7 N0 G w G' w'/\N0<=G'.N/\cN G' w' a' (st i)) μ i0 ⟨G.cut m,hI,p5 _ _ _ _,hm,hs.jE h0⟩ ?_;rintro i a' w' ⟨G',hi,hE,hN,ct⟩;refine wpIn_mono ((round i hi).run G' w' a' n ct hN) λe a1 w1 hn=> ?_;obtain⟨G1,s1,j9,gd,eQ,hq⟩:=hn;cases e with
 |normal=>
  obtain⟨i',h1,h2,h3⟩:=hq;exact⟨i',⟨G1.cut m,h2,(hE.trans j9).trans (p5 _ _ _ _),hm,eQ.jE h1⟩,h3⟩
 |_=>exact⟨G1,s1,hE.trans j9,gd,eQ,hq⟩
theorem kj{c:Code}(live:asn Nat)(m:Nat)(hm:N0<=m)(h0:Go.Proofs.YtdchibpnjpnkoaaGreatDoor.jE s live m=some s')(h:bJ P r N0 c Q s'):bJ P r N0 c Q s:=by
 constructor
 intro G w a n hs _;exact wpIn_mono (h.run (G.cut m) w a n (hs.jE h0) hm) λ_ _ _ hn=>hn.trans (p5 N0 G w m)
theorem aj1{c y:Code}{ι:Type}(live:asn Nat)(m:Nat)(st:ι->St)(I:ι->Prop)(hm:N0<=m)(hc:bJ P r N0 c (ik (λs'=>∃i,Go.Proofs.YtdchibpnjpnkoaaGreatDoor.jE s' live m=some (st i)/\I i) Q) s)(hy:∀i,I i->bJ P r N0 y Q' (st i)):bJ P r N0 c (ik (λs=>bJ P r N0 y Q' s) Q) s:=by
 refine hc.mono λe s' h=> ?_;cases e with
 |normal=>obtain⟨i,h1,h2⟩:=h;exact kj live m hm h1 (hy i h2)
 |_=>exact h
def sI(P:asq)(s:St):asn ResultVar->asp (asn AV)
 |[]=>some []
 | .tmp t::l=>match sI P s l with
   |some xs=>some (bw s.t t::xs)
   |none=>none
 | .cell p t::l=>match yd s.h (bw s.t p)with
   |some (cs,off)=>match AH P t cs off,sI P s l with
    |some x,some xs=>some (x::xs)
    |_,_=>none
   |none=>none
def yg(P:asq)(rs:asn ResultVar)(s:St):asp AV:=
 match sI P s rs with
 |some l=>bif ((jK l).bG 0).aQ 0 then some ((jK l).fin 0)else none
 |none=>none
def kI(P:asq)(fn:Func)(R:AV):Exit->St->Prop
 | .normal,s=>yg P fn.results.toList s=some R
 | .ret,s=>yg P fn.results.toList s=some R
 |_,_=>False
theorem DN:∀(l:asn ResultVar)(xs:asn AV)(C:asn AV->Prop),sI P s l=some xs->C xs->nr P s l C
 |[],xs,C,h,hC=>by cases h;exact hC
 | .tmp t::l,xs,C,h,hC=>by
   unfold sI at h;split at h
   ·next ys e=>cases h;exact DN l ys _ e hC
   ·cases h
 | .cell p t::l,xs,C,h,hC=>by
   unfold sI at h;split at h
   ·next cs off e=>
    split at h
    ·next x ys e1 e2=>cases h;exact R7 e e1 (DN l ys _ e2 hC)
    ·cases h
   ·cases h
theorem Vd{fn:Func}{R:AV}(h:yg P fn.results.toList s=some R):rK P fn 0 (λr h'=>h'=[]/\r.nrm=R) s:=by
 unfold yg at h;split at h
 ·next l e=>
  obtain⟨hb,rfl⟩:=dT h;exact DN _ l _ e ⟨Nat.zero_le _,hb,by simp,by simp,rfl⟩
 ·cases h
theorem ky{fn:Func}{R:AV}(h:yg P fn.results.toList s=some R):kI P fn R .ret s:=h
theorem xU{f:FuncId}{fn:Func}{c:Code}{args:asn AV}{R:AV}(hf:P.funcs[f]?=some fn)(hb:fn.body=some c)(hn:(fn.name== "runtime.NumGoroutine")=false)
 (hw:bJ P none 0 c (kI P fn R) {n:=args.length+(fn.ntmps-args.length),t:=mg 0 args,h:=[]}):gD P f args (·=R):=by
 have h:=zZ (P:=P) (f:=f) (args:=args) (h:=[]) (K:=λr h'=>h'=[]/\r.nrm=R) 0 hf hb hn (arJ _) (hw.mono λe s hq=>by
  cases e with
  |normal=>exact Vd hq
  |ret=>exact Vd hq
  |_=>exact hq.elim)
 refine⟨h.1,λG w vs hi hl hr=>(h.2 G w vs hi hl hr).mono λe w' hp=> ?_⟩;obtain⟨v,G',x,h',rfl,hE,hN,dN,hv,rfl,rfl⟩:=hp;exact⟨v,G',x.nrm,[],rfl,hE,hN,dN,hv.nrm,rfl,rfl⟩
theorem arv{c:Code}(b i:Nat)(xs:asn (asn D))(hx:((s.h[b]?).bind λB=>match B with| .cells cs=>(cs[i]?).bind AV.fe|_=>none)=some xs)(h:xs.length<=maxLen->bJ P r N0 c Q s):bJ P r N0 c Q s:=by
 constructor
 intro G w a n hs hN;cases hb:s.h[b]? with
 |none=>rw[hb]at hx;cases hx
 |some B=>
  rw[hb]at hx;cases B with
  |cells cs=>
   simp only[arx]at hx;obtain⟨_,_,vs,T,_,hl,hr⟩:=hs.inv.dv b _ hb;cases hc:cs[i]? with
   |none=>rw[hc]at hx;cases hx
   |some x=>
    rw[hc]at hx;have aS:i<vs.size:=by rw[hl];exact(ary.1 hc).1
    obtain⟨A,b',o,c',k',us,_,_,h1,h2,_⟩:=((hr i _ x (arU aS) hc).list hx).pJ;exact(h (arQ h1 h2)).run G w a n hs hN
  |_=>cases hx
end
theorem amX{P:asq}{r:asp Nat}{N0 id:Nat}{ol:asn Oper}{y:Code}{s:St}{Q Q':Exit->St->Prop}(Δ:asn (Nat×AV))(h':asn ao)(h:∃aB:asn (Nat×Ob P),oJ P false ol (iO aB) (Δ.map (·.1)) s=some (Δ,h',iE aB))(k:bJ P r N0 y Q' ⟨s.n,Δ++s.t,h'⟩):bJ P r N0 (.region id ol.toArray false) (ik (λs=>bJ P r N0 y Q' s) Q) s:=
 let ⟨aB,h⟩:=h;X0 aB Δ h' h k
theorem aot{P:asq}{r:asp Nat}{N0 id:Nat}{ol:asn Oper}{y:Code}{s:St}{Q Q':Exit->St->Prop}(hm:P.follows .mixedOrders=true)(hl:om ol.toArray=true)(Δ:asn (Nat×AV))(h':asn ao)(h:∃aB:asn (Nat×Ob P),oJ P true ol (iO aB) (Δ.map (·.1)) s=some (Δ,h',iE aB))(k:bJ P r N0 y Q' ⟨s.n,Δ++s.t,h'⟩):bJ P r N0 (.region id ol.toArray true) (ik (λs=>bJ P r N0 y Q' s) Q) s:=
 let ⟨aB,h⟩:=h;Vo hm hl aB Δ h' h k
theorem eR{α:Type}{c:Bool}{a b:α}(h:c=true):cond c a b=a:=by rw[h];rfl
theorem lU{α:Type}{c:Bool}{a b:α}(h:c=false):cond c a b=b:=by rw[h];rfl
theorem dC{α β:Type}{x:asp α}{f:α->asp β}{b:β}(h:Option.bind x f=some b):∃a,x=some a/\f a=some b:=by
 cases x with
 |none=>cases h
 |some a=>exact⟨a,rfl,h⟩
theorem lL(b:Bool):b=true\/b=false:=by cases b<;>simp
theorem bV{b:Bool}(h:b=true):(!b)=false:=by rw[h];rfl
theorem cx{b:Bool}(h:b=false):(!b)=true:=by rw[h];rfl
theorem jl{α:Type}{c:Bool}{x:asp α}{r:α}(h:(bif c then x else none)=some r):c=true:=by
 cases c with
 |true=>rfl
 |false=>cases h
section
variable {P:asq} {r:asp Nat} {N0 id n:Nat} {ol:asn Oper} {y:Code} {t:asn (Nat×AV)} {h:asn ao} {Q Q':Exit->St->Prop}
theorem rg(aB:asn (Nat×Ob P))(Δ:asn (Nat×AV))(h':asn ao)(e:oJ P false ol (iO aB) (Δ.map (·.1)) ⟨n,t,h⟩=some (Δ,h',iE aB))(k:bJ P r N0 y Q' ⟨n,Δ++t,h'⟩):bJ P r N0 (.region id ol.toArray false) (ik (λs=>bJ P r N0 y Q' s) Q) ⟨n,t,h⟩:=X0 aB Δ h' e k
theorem rd(hm:P.follows .mixedOrders=true)(hl:om ol.toArray=true)(aB:asn (Nat×Ob P))(Δ:asn (Nat×AV))(h':asn ao)(e:oJ P true ol (iO aB) (Δ.map (·.1)) ⟨n,t,h⟩=some (Δ,h',iE aB))(k:bJ P r N0 y Q' ⟨n,Δ++t,h'⟩):bJ P r N0 (.region id ol.toArray true) (ik (λs=>bJ P r N0 y Q' s) Q) ⟨n,t,h⟩:=Vo hm hl aB Δ h' e k
theorem re(aB:asn (Nat×Ob P))(Δ:asn (Nat×AV))(h':asn ao)(e:BE P false ol (iO aB) ⟨n,t,h⟩=some (Δ++t,h',iE aB))(k:Q .normal ⟨n,Δ++t,h'⟩):bJ P r N0 (.region id ol.toArray false) Q ⟨n,t,h⟩:=aq7 aB Δ h' e k
theorem rde(hm:P.follows .mixedOrders=true)(hl:om ol.toArray=true)(aB:asn (Nat×Ob P))(Δ:asn (Nat×AV))(h':asn ao)(e:BE P true ol (iO aB) ⟨n,t,h⟩=some (Δ++t,h',iE aB))(k:Q .normal ⟨n,Δ++t,h'⟩):bJ P r N0 (.region id ol.toArray true) Q ⟨n,t,h⟩:=afA hm hl aB Δ h' e k
theorem rgE(Δ:asn (Nat×AV))(h':asn ao)(e:∃aB:asn (Nat×Ob P),oJ P false ol (iO aB) (Δ.map (·.1)) ⟨n,t,h⟩=some (Δ,h',iE aB))(k:bJ P r N0 y Q' ⟨n,Δ++t,h'⟩):bJ P r N0 (.region id ol.toArray false) (ik (λs=>bJ P r N0 y Q' s) Q) ⟨n,t,h⟩:=amX Δ h' e k
theorem rdE(hm:P.follows .mixedOrders=true)(hl:om ol.toArray=true)(Δ:asn (Nat×AV))(h':asn ao)(e:∃aB:asn (Nat×Ob P),oJ P true ol (iO aB) (Δ.map (·.1)) ⟨n,t,h⟩=some (Δ,h',iE aB))(k:bJ P r N0 y Q' ⟨n,Δ++t,h'⟩):bJ P r N0 (.region id ol.toArray true) (ik (λs=>bJ P r N0 y Q' s) Q) ⟨n,t,h⟩:=aot hm hl Δ h' e k
end
def bs(l:asn UInt8):aso:=⟨l.toArray⟩
def uc(x:D):Prop:=∃(S:Nat->Nat->Prop)(w:ass)(u:asr),dD S w u x
theorem Hq{xs:asn (asn D)}(h:uc (.sl xs)):xs.length<=maxLen:=by
 obtain⟨S,w,u,h⟩:=h;obtain⟨A,b',o,c',k',us,_,_,h1,h2,_⟩:=h.pJ;exact arQ h1 h2
theorem Nd{xs:asn (asn D)}{i j:Nat}{c:asn D}{d:D}(h:uc (.sl xs))(hc:xs[i]?=some c)(hd:c[j]?=some d):uc d:=by
 obtain⟨S,w,u,h⟩:=h;obtain⟨A,b',o,c',k',us,_,_,h1,h2,h3,h4,h5⟩:=h.pJ;exact⟨S,w,_,h5 i j c d hc hd⟩
section
variable {P:asq} {r:asp Nat} {n N0:Nat} {s:St} {Q:Exit->St->Prop}
theorem tS{c:Code}(k:Nat)(xs:asn (asn D))(hx:(bw s.t k).fe=some xs)(h:uc (.sl xs)->bJ P r N0 c Q s):bJ P r N0 c Q s:=by
 constructor
 intro G w a n hs hN;exact(h ⟨_,_,_,(hs.tmp k).list hx⟩).run G w a n hs hN
theorem al0{c:Code}(b i:Nat)(xs:asn (asn D))(hx:((s.h[b]?).bind λB=>match B with| .cells cs=>(cs[i]?).bind AV.fe|_=>none)=some xs)(h:uc (.sl xs)->bJ P r N0 c Q s):bJ P r N0 c Q s:=by
 constructor
 intro G w a n hs hN;cases hb:s.h[b]? with
 |none=>rw[hb]at hx;cases hx
 |some B=>
  rw[hb]at hx;cases B with
  |cells cs=>
   simp only[arx]at hx;obtain⟨_,_,vs,T,_,hl,hr⟩:=hs.inv.dv b _ hb;cases hc:cs[i]? with
   |none=>rw[hc]at hx;cases hx
   |some x=>
    rw[hc]at hx;have aS:i<vs.size:=by rw[hl];exact(ary.1 hc).1
    exact(h ⟨_,_,_,(hr i _ x (arU aS) hc).list hx⟩).run G w a n hs hN
  |_=>cases hx
end
end Go.Proofs.YtdchibpnjpnkoaaGreatDoor
namespace Go.Proofs.YtdchibpnjpnkoaaGreatDoor
open Go.RowKit
mutual
def AV.eX(b:Nat)(ds:asn D):AV->AV
 | .ptr n off=>bif n==b then .bP [ds] 0 off else .ptr n off
 | .agg cs=> .agg (AV.vm b ds cs)
 | .aX cs=> .aX (AV.vm b ds cs)
 | .fn f cs=> .fn f (AV.vm b ds cs)
 |x=>x
def AV.vm(b:Nat)(ds:asn D):asn AV->asn AV
 |[]=>[]
 |x::l=>x.eX b ds::AV.vm b ds l
end
theorem Em(b:Nat)(ds:asn D):∀l,AV.vm b ds l=l.map (AV.eX b ds)
 |[]=>by simp [AV.vm]
 |x::l=>by simp [AV.vm,Em b ds l]
def ao.eX(b:Nat)(ds:asn D):ao->ao
 | .cells cs=> .cells (cs.map (AV.eX b ds))
 | .lp ls p as bd cs=> .lp ls p as bd (cs.map (AV.eX b ds))
 | .it sn cs=> .it sn (cs.map (AV.eX b ds))
 | .vec e k cs=> .vec e k (cs.map (·.map (AV.eX b ds)))
 |B=>B
def FW(s:St)(b:Nat):asp St:=
 match s.h[b]? with
 |some (.cells cs)=>match nL cs with
  |some ds=>some ⟨s.n,s.t.map λp=>(p.1,p.2.eX b ds),(s.h.map (ao.eX b ds)).set b .gone⟩
  |none=>none
 |_=>none
theorem Fe(f:AV->AV)(hf:f .dead= .dead):∀(t:asn (Nat×AV))(i:Nat),bw (t.map λp=>(p.1,f p.2)) i=f (bw t i)
 |[],i=>by simp [bw,hf]
 |(k,x)::l,i=>by
  simp only[arX,kY,Fe f hf l i];split<;>rfl
theorem aJ.eX{G G':Gh}{w:ass}{b:Nat}{ds:asn D}(hE:b7 G.N G w G' w)(hN:G'.N=G.N)(hp:∀off,aJ G' w (.pointer (some ⟨G.bg b,off,none⟩)) (.bP [ds] 0 off)){u:asr}{x:AV}(h:aJ G w u x):aJ G' w u (x.eX b ds):=by
 have bj:∀{u:asr}{x:AV},aJ G w u x->aJ G' w u x:=λh=>h.bj hE (Nat.le_of_eq hN.symm);have gz:∀(vs:Array asr)(cs:asn AV),(∀(i:Nat)(u:asr)(c:AV),vs[i]?=some u->cs[i]?=some c->aJ G' w u (c.eX b ds))->∀(i:Nat)(u:asr)(c:AV),vs[i]?=some u->(AV.vm b ds cs)[i]?=some c->aJ G' w u c:=by
  intro vs cs ih i u c hu hc;rw[Em,arF]at hc;cases hx:cs[i]? with
  |none=>rw[hx]at hc;cases hc
  |some x=>rw[hx]at hc;cases hc;exact ih i u x hu hx
 induction h with
 |agg vs cs hl _ ih=>rw[AV.eX];exact .agg vs _ (by rw[Em,arD];exact hl) (gz vs cs ih)
 |aX vs cs hl _ ih=>rw[AV.eX];exact .aX vs _ (by rw[Em,arD];exact hl) (gz vs cs ih)
 |fn f vs cs hl _ ih=>rw[AV.eX];exact .fn f vs _ (by rw[Em,arD];exact hl) (gz vs cs ih)
 |ptr n off h=>
  rw[AV.eX,cond_eq_ite];split
  ·next e=>rw[beq_iff_eq]at e;subst e;exact hp off
  ·exact bj (.ptr n off h)
 |own n xs h hp hle hf=>simp only[AV.eX];exact bj (.own n xs h hp hle hf)
 |d h=>simp only[AV.eX];exact bj (.d h)
 |bP xs i off b o u x hx hS hu=>simp only[AV.eX];exact bj (.bP xs i off b o u x hx hS hu)
 |full xs hp hf=>simp only[AV.eX];exact bj (.full xs hp hf)
 |row n off len cap k h hl hm=>simp only[AV.eX];exact bj (.row n off len cap k h hl hm)
 |mp n h=>simp only[AV.eX];exact bj (.mp n h)
 |dc n h=>simp only[AV.eX];exact bj (.dc n h)
 |vec n o len L k h hs hL hf=>simp only[AV.eX];exact bj (.vec n o len L k h hs hL hf)
 |dx n i j L k h hs hL hf=>simp only[AV.eX];exact bj (.dx n i j L k h hs hL hf)
 |hid h h1=>simp only[AV.eX];exact bj (.hid h h1)
 |dead u=>simp only[AV.eX];exact .dead u
theorem abd:∀(cs:asn AV)(ds:asn D),nL cs=some ds->cs.length=ds.length/\∀(i:Nat)(c:AV)(d:D),cs[i]?=some c->ds[i]?=some d->c.w8=some d
 |[],ds,h=>by unfold nL at h;cases h;exact⟨rfl,λi c d hc=>by simp at hc⟩
 |x::cs,ds,h=>by
  unfold nL at h;split at h
  ·next d l e1 e2=>
   cases h
   obtain⟨h1,h2⟩:=abd cs l e2;refine⟨by simp [h1],λi c d' hc hd=> ?_⟩
   match i with
   |0=>simp only[List.getElem?_cons_zero,Option.some.injEq]at hc hd;subst hc;subst hd;exact e1
   |i+1=>exact h2 i c d' (by simpa using hc) (by simpa using hd)
  ·cases h
theorem aJ.ajq{G:Gh}{w:ass}{u:asr}{x:AV}{d:D}(h:aJ G w u x)(hd:x.w8=some d):dD G.S w u d:=by
 cases h with
 |d h=>cases hd;exact h.A9
 |own n xs h hp=>cases hd;exact hp
 |full xs hp=>cases hd;exact hp
 |_=>cases hd
theorem cN.FW{G:Gh}{w:ass}{a:Act}{s s':St}{b:Nat}(hs:cN G w a s)(h:FW s b=some s'):∃G',b7 G.N G w G' w/\G'.N=G.N/\cN G' w a s':=by
 unfold Go.Proofs.YtdchibpnjpnkoaaGreatDoor.FW at h;split at h
 ·next cs hb=>
  split at h
  ·next ds uw=>
   cases h
   obtain⟨z1,z2,vs,T,z3,z4,z5⟩:=hs.inv.dv b _ hb;obtain⟨d1,d2⟩:=abd cs ds uw;have oC:cg s.h G b=some (G.bg b):=dP hb;obtain⟨S,hS⟩:∃S:Nat->Nat->Prop,S=λb' o=>G.S b' o\/(b'=G.bg b/\o<ds.length):=⟨_,rfl⟩;have hE:b7 G.N G w {G with S:=S} w:=⟨arJ _,λb o h=>by show S b o;rw[hS];exact .inl h,λ_ _ _=>rfl,λ_ _=>rfl,λ_ _=> .inl ⟨rfl,rfl⟩,zsame rfl,λ_ _=>rfl,rfl,rfl,rfl,λb' o hs=>by
    have ct:S b' o:=hs;rw[hS]at ct;rcases ct with h|⟨rfl,_⟩
    ·exact .inl h
    ·exact .inr z1⟩
   have hp:∀off,aJ {G with S:=S} w (.pointer (some ⟨G.bg b,off,none⟩)) (.bP [ds] 0 off):=λoff=>by
    have:=aJ.bP (G:={G with S:=S}) (w:=w) [ds] 0 off (G.bg b) 0 (λj=>vs.getD j undef) ds rfl (λj hj=> ?_) (λj d hd=> ?_)
    ·rwa [arS]at this
    ·have jz:j<vs.size:=by rw[z4,d1];exact hj
     refine⟨by show S _ _;rw[hS];exact .inr ⟨rfl,by rw[arS];exact hj⟩,?_⟩;rw[arS,cell_of_row w (G.bg b) j vs T (0,0) z3];simp [Array.getD,jz]
    ·have hj:j<ds.length:=(ary.1 hd).1;have jz:j<vs.size:=by rw[z4,d1];exact hj
     have hc:cs[j]?=some cs[j]:=arC (by rw[d1];exact hj);have hv:=z5 j vs[j] _ (arU jz) hc;have e:vs.getD j undef=vs[j]:=by simp [Array.getD,jz]
     rw[e];exact(hv.ajq (d2 j _ d hc hd)).bj hE.S hE.cell
   have hv:∀{u:asr}{x:AV},aJ G w u x->aJ {G with S:=S} w u (x.eX b ds):=λh=>h.eX hE rfl hp;have aeO:=(ary.1 hb).1;have eN:∀(n:Nat)(B:ao),((s.h.map (ao.eX b ds)).set b .gone)[n]?=some B->(n=b/\B= .gone)\/(n≠b/\∃B',s.h[n]?=some B'/\B=B'.eX b ds):=λn B hB=>by
    by_cases e:b=n
    ·subst e;rw[ar1 (by rw[arD];exact aeO)]at hB;cases hB;exact .inl ⟨rfl,rfl⟩
    ·rw[ar6 e,arF]at hB;cases hx:s.h[n]? with
     |none=>rw[hx]at hB;cases hB
     |some B'=>rw[hx]at hB;cases hB;exact .inr ⟨λh=>e h.symm,B',rfl,rfl⟩
   have dV:∀n x,cg ((s.h.map (ao.eX b ds)).set b .gone) {G with S:=S} n=some x->n≠b/\cg s.h G n=some x:=λn x hx=>by
    obtain⟨B,hn,hx⟩:=m7 hx;rcases eN n _ hn with⟨_,e⟩|⟨cP,B',h1,rfl⟩
    ·subst e;cases hx
    ·refine⟨cP,?_⟩;rw[dP h1,<-hx];cases B'<;>rfl
   refine⟨{G with S:=S},hE,rfl,hs.size,λi=> ?_,⟨by rw[List.length_set,arD];exact hs.inv.len,hs.inv.z,λb' o h=> ?_,λn B hB=> ?_,λm n x h1 h2=>hs.inv.inj m n x (dV m x h1).2 (dV n x h2).2,hs.inv.gl.bj hE⟩,hs.df⟩
   ·show aJ _ _ _ (bw (s.t.map λp=>(p.1,p.2.eX b ds)) i);rw[Fe (AV.eX b ds) (by simp [AV.eX])];exact hv (hs.tmp i)
   ·have ct:S b' o:=h;rw[hS]at ct;rcases ct with h|⟨rfl,_⟩
    ·exact hs.inv.S b' o h
    ·exact(arN.1 z3).1
   ·rcases eN n B hB with⟨rfl,rfl⟩|⟨cP,B',h1,rfl⟩
    ·trivial
    ·have eB:=hs.inv.dv n B' h1;cases B' with
     |gone=>trivial
     |map kv=>exact eu.bj (G':={G with S:=S}) (hs.inv.lt h1) hE (arJ _) ⟨rfl,rfl,rfl⟩ (λc hc=>⟨rfl,λo k8 hq=>by
      have ct:S c o:=hq;rw[hS]at ct;rcases ct with h|⟨e,_⟩
      ·exact k8 h
      ·exact cP (hs.inv.inj n b _ ((dP h1).trans hc) (by rw[e];exact oC))⟩) eB
     |front e k len=>exact eu.bj (G':={G with S:=S}) (hs.inv.lt h1) hE (arJ _) ⟨rfl,rfl,rfl⟩ (λc hc=>⟨rfl,λo k8 hq=>by
      have ct:S c o:=hq;rw[hS]at ct;rcases ct with h|⟨e,_⟩
      ·exact k8 h
      ·exact cP (hs.inv.inj n b _ ((dP h1).trans hc) (by rw[e];exact oC))⟩) eB
     |cells cm=>
      obtain⟨c1,c2,gp,T',c3,c4,c5⟩:=eB;have m5:cg s.h G n=some (G.bg n):=dP h1;refine⟨c1,λo hq=> ?_,gp,T',c3,by rw[arD];exact c4,λi u c hu hc=> ?_⟩
      ·have ct:S (G.bg n) o:=hq;rw[hS]at ct;rcases ct with h|⟨e,_⟩
       ·exact c2 o h
       ·exact cP (hs.inv.inj n b _ m5 (by rw[e];exact oC))
      ·rw[arF]at hc;cases hx:cm[i]? with
       |none=>rw[hx]at hc;cases hc
       |some x=>rw[hx]at hc;cases hc;exact hv (c5 i u x hu hx)
     |lp ls p as bd cm=>
      obtain⟨c1,c2,fn,gp,T',c3,c4,c5⟩:=eB;have m5:cg s.h G n=some (G.bg n):=dP h1;refine⟨c1,λo hq=> ?_,fn,gp,T',c3,by rw[arD];exact c4,λi u c hu hc=> ?_⟩
      ·have ct:S (G.bg n) o:=hq;rw[hS]at ct;rcases ct with h|⟨e,_⟩
       ·exact c2 o h
       ·exact cP (hs.inv.inj n b _ m5 (by rw[e];exact oC))
      ·rw[arF]at hc;cases hx:cm[i]? with
       |none=>rw[hx]at hc;cases hc
       |some x=>rw[hx]at hc;cases hc;exact hv (c5 i u x hu hx)
     |it sn cm=>
      obtain⟨c1,c2,fn,gp,T',c3,c4,c5⟩:=eB;have m5:cg s.h G n=some (G.bg n):=dP h1;refine⟨c1,λo hq=> ?_,fn,gp,T',c3,by rw[arD];exact c4,λi u c hu hc=> ?_⟩
      ·have ct:S (G.bg n) o:=hq;rw[hS]at ct;rcases ct with h|⟨e,_⟩
       ·exact c2 o h
       ·exact cP (hs.inv.inj n b _ m5 (by rw[e];exact oC))
      ·rw[arF]at hc;cases hx:cm[i]? with
       |none=>rw[hx]at hc;cases hc
       |some x=>rw[hx]at hc;cases hc;exact hv (c5 i u x hu hx)
     |vec e k cm=>
      obtain⟨c1,c2,c3,c4⟩:=eB;refine⟨by rw[arD];exact c1,by rw[arD];exact c2,λc hc=> ?_,?_⟩
      ·obtain⟨x,hx,rfl⟩:=List.mem_map.1 hc;rw[arD];exact c3 x hx
      ·rcases c4 with⟨d1,d2,A,d3⟩|⟨g,cap,cur,d1,d2,d3,d4,d5,d6,d7,d8,d9⟩
       ·exact .inl ⟨d1,by rw[d2];rfl,A,d3⟩
       ·have m5:cg s.h G n=some g:=(dP h1).trans d1;refine .inr ⟨g,cap,cur,d1,by rw[arD];exact d2,d3,d4,by rw[arD];exact d5,d6,d7,λo hq=> ?_,λi j c x u hc hx hu=> ?_⟩
        ·have ct:S g o:=hq;rw[hS]at ct;rcases ct with h|⟨e,_⟩
         ·exact d8 o h
         ·exact cP (hs.inv.inj n b _ m5 (by rw[e];exact oC))
        ·rw[arF]at hc;cases hy:cm[i]? with
         |none=>rw[hy]at hc;cases hc
         |some y=>
          rw[hy]at hc;cases hc
          rw[arF]at hx;cases hw:y[j]? with
          |none=>rw[hw]at hx;cases hx
          |some z=>rw[hw]at hx;cases hx;exact hv (d9 i j y z u hy hw hu)
  ·cases h
 ·cases h
def D.uZ:D->Bool
 | .v u=>u.oneCell'
 | .sl _=>true
mutual
def AV.kill(b:Nat):AV->AV
 | .vec n o len L k=>bif n==b then .dead else .vec n o len L k
 | .dx n i j L k=>bif n==b then .dead else .dx n i j L k
 | .agg cs=> .agg (AV.Lp b cs)
 | .aX cs=> .aX (AV.Lp b cs)
 | .fn f cs=> .fn f (AV.Lp b cs)
 |x=>x
def AV.Lp(b:Nat):asn AV->asn AV
 |[]=>[]
 |x::l=>x.kill b::AV.Lp b l
end
def ao.kD(f:AV->AV):ao->ao
 | .cells cs=> .cells (cs.map f)
 | .lp ls p as bd cs=> .lp ls p as bd (cs.map f)
 | .it sn cs=> .it sn (cs.map f)
 | .vec e k cs=> .vec e k (cs.map (·.map f))
 |B=>B
theorem am1{G:Gh}{w:ass}{h:asn ao}(hi:b9 G w h){b:Nat}{S:Nat->Nat->Prop}{f:AV->AV}(hE:b7 G.N G w {G with S:=S} w)(hS:∀c o,S c o->G.S c o\/cg h G b=some c)(hv:∀{u:asr}{x:AV},aJ G w u x->aJ {G with S:=S} w u (f x)):
 b9 {G with S:=S} w ((h.map (ao.kD f)).set b .gone):=by
 have eN:∀(n:Nat)(B:ao),((h.map (ao.kD f)).set b .gone)[n]?=some B->(n=b/\B= .gone)\/(n≠b/\∃B',h[n]?=some B'/\B=B'.kD f):=λn B hB=>by
  by_cases e:b=n
  ·subst e;have aS:=(ary.1 hB).1;rw[List.length_set]at aS;rw[ar1 aS]at hB;cases hB;exact .inl ⟨rfl,rfl⟩
  ·rw[ar6 e,arF]at hB;cases hx:h[n]? with
   |none=>rw[hx]at hB;cases hB
   |some B'=>rw[hx]at hB;cases hB;exact .inr ⟨λh=>e h.symm,B',rfl,rfl⟩
 have dV:∀n x,cg ((h.map (ao.kD f)).set b .gone) {G with S:=S} n=some x->n≠b/\cg h G n=some x:=λn x hx=>by
  obtain⟨B,hn,hx⟩:=m7 hx;rcases eN n _ hn with⟨_,e⟩|⟨cP,B',h1,rfl⟩
  ·subst e;cases hx
  ·refine⟨cP,?_⟩;rw[dP h1,<-hx];cases B'<;>rfl
 refine⟨by rw[List.length_set,arD];exact hi.len,hi.z,λc o hs=> ?_,λn B hB=> ?_,λm n x h1 h2=>hi.inj m n x (dV m x h1).2 (dV n x h2).2,hi.gl.bj hE⟩
 ·rcases hS c o hs with h1|h1
  ·exact hi.S c o h1
  ·exact hi.jq h1
 ·rcases eN n B hB with⟨rfl,rfl⟩|⟨cP,B',h1,rfl⟩
  ·trivial
  ·have eB:=hi.dv n B' h1;have fX:∀c,B'.dX G n=some c->∀o,¬G.S c o->¬S c o:=λc hc o k8 hq=>by
    rcases hS c o hq with h2|h2
    ·exact k8 h2
    ·exact cP (hi.inj n b c ((dP h1).trans hc) h2)
   cases B' with
   |gone=>trivial
   |map kv=>exact eu.bj (G':={G with S:=S}) (hi.lt h1) hE (arJ _) ⟨rfl,rfl,rfl⟩ (λc hc=>⟨rfl,fX c hc⟩) eB
   |front e k len=>exact eu.bj (G':={G with S:=S}) (hi.lt h1) hE (arJ _) ⟨rfl,rfl,rfl⟩ (λc hc=>⟨rfl,fX c hc⟩) eB
   |cells cm=>
    obtain⟨c1,c2,gp,T',c3,c4,c5⟩:=eB;refine⟨c1,λo=>fX _ rfl o (c2 o),gp,T',c3,by rw[arD];exact c4,λi u c hu hc=> ?_⟩;rw[arF]at hc;cases hx:cm[i]? with
    |none=>rw[hx]at hc;cases hc
    |some x=>rw[hx]at hc;cases hc;exact hv (c5 i u x hu hx)
   |lp ls p as bd cm=>
    obtain⟨c1,c2,fn,gp,T',c3,c4,c5⟩:=eB;refine⟨c1,λo=>fX _ rfl o (c2 o),fn,gp,T',c3,by rw[arD];exact c4,λi u c hu hc=> ?_⟩;rw[arF]at hc;cases hx:cm[i]? with
    |none=>rw[hx]at hc;cases hc
    |some x=>rw[hx]at hc;cases hc;exact hv (c5 i u x hu hx)
   |it sn cm=>
    obtain⟨c1,c2,fn,gp,T',c3,c4,c5⟩:=eB;refine⟨c1,λo=>fX _ rfl o (c2 o),fn,gp,T',c3,by rw[arD];exact c4,λi u c hu hc=> ?_⟩;rw[arF]at hc;cases hx:cm[i]? with
    |none=>rw[hx]at hc;cases hc
    |some x=>rw[hx]at hc;cases hc;exact hv (c5 i u x hu hx)
   |vec e k cm=>
    obtain⟨c1,c2,c3,c4⟩:=eB;refine⟨by rw[arD];exact c1,by rw[arD];exact c2,λc hc=> ?_,?_⟩
    ·obtain⟨x,hx,rfl⟩:=List.mem_map.1 hc;rw[arD];exact c3 x hx
    ·rcases c4 with⟨d1,d2,A,d3⟩|⟨g,cap,cur,d1,d2,d3,d4,d5,d6,d7,d8,d9⟩
     ·exact .inl ⟨d1,by rw[d2];rfl,A,d3⟩
     ·refine .inr ⟨g,cap,cur,d1,by rw[arD];exact d2,d3,d4,by rw[arD];exact d5,d6,d7,λo=>fX g d1 o (d8 o),λi j c x u hc hx hu=> ?_⟩;rw[arF]at hc;cases hy:cm[i]? with
      |none=>rw[hy]at hc;cases hc
      |some y=>
       rw[hy]at hc;cases hc
       rw[arF]at hx;cases hw:y[j]? with
       |none=>rw[hw]at hx;cases hx
       |some z=>rw[hw]at hx;cases hx;exact hv (d9 i j y z u hy hw hu)
mutual
def AV.cQ(b kk:Nat)(xs:asn (asn D)):AV->AV
 | .vec n o len L k=>bif n==b then(bif L==xs.length&&k==kk then .d (.sl ((xs.drop o).take len))else .dead)else .vec n o len L k
 | .dx n i j L k=>bif n==b then .dead else .dx n i j L k
 | .agg cs=> .agg (AV.pF b kk xs cs)
 | .aX cs=> .aX (AV.pF b kk xs cs)
 | .fn f cs=> .fn f (AV.pF b kk xs cs)
 |x=>x
def AV.pF(b kk:Nat)(xs:asn (asn D)):asn AV->asn AV
 |[]=>[]
 |x::l=>x.cQ b kk xs::AV.pF b kk xs l
end
theorem qE(b kk:Nat)(xs:asn (asn D)):∀l,AV.pF b kk xs l=l.map (AV.cQ b kk xs)
 |[]=>by simp [AV.pF]
 |x::l=>by simp [AV.pF,qE b kk xs l]
theorem aJ.cQ{G G':Gh}{w:ass}{b kk:Nat}{xs:asn (asn D)}(hE:b7 G.N G w G' w)(hN:G'.N=G.N)(hp:∀(u:asr)(o len:Nat),aJ G w u (.vec b o len xs.length kk)->dD G'.S w u (.sl ((xs.drop o).take len))){u:asr}{x:AV}(h:aJ G w u x):aJ G' w u (x.cQ b kk xs):=by
 have bj:∀{u:asr}{x:AV},aJ G w u x->aJ G' w u x:=λh=>h.bj hE (Nat.le_of_eq hN.symm);have gz:∀(vs:Array asr)(cs:asn AV),(∀(i:Nat)(u:asr)(c:AV),vs[i]?=some u->cs[i]?=some c->aJ G' w u (c.cQ b kk xs))->∀(i:Nat)(u:asr)(c:AV),vs[i]?=some u->(AV.pF b kk xs cs)[i]?=some c->aJ G' w u c:=by
  intro vs cs ih i u c hu hc;rw[qE,arF]at hc;cases hx:cs[i]? with
  |none=>rw[hx]at hc;cases hc
  |some x=>rw[hx]at hc;cases hc;exact ih i u x hu hx
 induction h with
 |agg vs cs hl _ ih=>rw[AV.cQ];exact .agg vs _ (by rw[qE,arD];exact hl) (gz vs cs ih)
 |aX vs cs hl _ ih=>rw[AV.cQ];exact .aX vs _ (by rw[qE,arD];exact hl) (gz vs cs ih)
 |fn f vs cs hl _ ih=>rw[AV.cQ];exact .fn f vs _ (by rw[qE,arD];exact hl) (gz vs cs ih)
 |vec n o len L k h hs hL hf=>
  rw[AV.cQ,cond_eq_ite];split
  ·next e=>
   have e:n=b:=by simpa using e
   subst e;rw[cond_eq_ite];split
   ·next e2=>
    rw[arA,beq_iff_eq,beq_iff_eq]at e2;obtain⟨rfl,rfl⟩:=e2;exact .d (hp _ o len (.vec n o len _ _ h hs hL hf))
   ·exact .dead _
  ·exact bj (.vec n o len L k h hs hL hf)
 |dx n i j L k h hs hL hf=>
  rw[AV.cQ,cond_eq_ite];split
  ·exact .dead _
  ·exact bj (.dx n i j L k h hs hL hf)
 |ptr n off h=>simp only[AV.cQ];exact bj (.ptr n off h)
 |own n xs h hp hle hf=>simp only[AV.cQ];exact bj (.own n xs h hp hle hf)
 |d h=>simp only[AV.cQ];exact bj (.d h)
 |bP xs i off b o u x hx hS hu=>simp only[AV.cQ];exact bj (.bP xs i off b o u x hx hS hu)
 |full xs hp hf=>simp only[AV.cQ];exact bj (.full xs hp hf)
 |row n off len cap k h hl hm=>simp only[AV.cQ];exact bj (.row n off len cap k h hl hm)
 |mp n h=>simp only[AV.cQ];exact bj (.mp n h)
 |dc n h=>simp only[AV.cQ];exact bj (.dc n h)
 |hid h h1=>simp only[AV.cQ];exact bj (.hid h h1)
 |dead u=>simp only[AV.cQ];exact .dead u
theorem cN.PY{G:Gh}{w:ass}{a:Act}{s:St}(hs:cN G w a s)(xs:asn (asn D)){b e k:Nat}(hb:s.h[b]?=some (.vec e k (bn xs)))(hone:∀c∈xs,c.all D.uZ=true)
 :∃G',b7 G.N G w G' w/\G'.N=G.N/\cN G' w a ⟨s.n,s.t.map λp=>(p.1,p.2.cQ b k xs),(s.h.map (ao.kD (AV.cQ b k xs))).set b .gone⟩:=by
 obtain⟨L,hL⟩:∃L,xs.length=L:=⟨_,rfl⟩;have DD:(bn xs).length=L:=by unfold bn;rw[arD];exact hL
 have jd:=FV hs.inv hb;have nX:∀d∈xs,d.length=k:=λd hd=>by
  have:=jd (d.map .d) (by unfold bn;exact List.mem_map.2 ⟨d,hd,rfl⟩)
  rwa [arD]at this
 obtain⟨S,hS⟩:∃S:Nat->Nat->Prop,S=λc o=>G.S c o\/(cg s.h G b=some c/\o<L*k):=⟨_,rfl⟩;have hE:b7 G.N G w {G with S:=S} w:=⟨arJ _,λb o h=>by show S b o;rw[hS];exact .inl h,λ_ _ _=>rfl,λ_ _=>rfl,λ_ _=> .inl ⟨rfl,rfl⟩,zsame rfl,λ_ _=>rfl,rfl,rfl,rfl,λc o hq=>by
  have ct:S c o:=hq;rw[hS]at ct;rcases ct with h|⟨h,_⟩
  ·exact .inl h
  ·obtain⟨B,hB,fW⟩:=m7 h;exact .inr ((hs.inv.dv b B hB).mO fW)⟩
 have hpd:∀(u:asr)(o len:Nat),aJ G w u (.vec b o len xs.length k)->dD S w u (.sl ((xs.drop o).take len)):=λu o len ph=>by
  rw[hL]at ph;have me:=ph.xY hs.inv hb DD;obtain⟨Dz,⟨A,cc,q1,q2,q3,q4,q5⟩,_⟩:=me;generalize hy:(xs.drop o).take len=ys;have x9:ys.length=len:=by rw[<-hy,List.length_take,List.length_drop];omega
  rw[q1,<-x9];show dD S w _ _;by_cases hh0:True
  ·skip
   by_cases h0:len=0
   ·have:ys=[]:=List.eq_nil_of_length_eq_zero (by omega);subst this;exact .sl A 0 0 cc 0 [] (λ_ _=>undef) (λh=>absurd rfl h) (Nat.zero_le _) q3 (λ_ h=>absurd h ase) (λi j hi=>absurd hi (ar0 _)) (λi j x d hx=>by simp at hx)
   ·obtain⟨g,cap,s1,rfl,s3⟩:=q5 (by omega);obtain⟨g',IC,cur,r1,r2,r3,r4,r5,r6,r7,r8,r9⟩:=Lu hs.inv hb (λe=>by rw[e]at DD;simp at DD;omega);rw[r2]at s1;cases s1
    have oC:cg s.h G b=some g:=(dP hb).trans r1;have jT:∀i,i<len->ys[i]?=xs[o+i]?:=λi dN=>by rw[<-hy,List.getElem?_take_of_lt dN,List.getElem?_drop]
    have iG:∀i j,i<len->j<k->o*k+i*k+j<cur.size:=λi j hi hj=>by
     have:=mZ (i:=o+i) (k:=k) (L:=(bn xs).length) (j:=j) (by omega) hj;rw[Nat.add_mul]at this;have h2:(bn xs).length*k<=cap*k:=Nat.mul_le_mul_right k (by omega);rw[r7];omega
    have mU:∀(i j:Nat)(x:asn D)(d:D),i<len->ys[i]?=some x->x[j]?=some d->aJ G w (cur.getD (o*k+i*k+j) undef) (.d d):=λi j x d hi hx hd=>by
     rw[jT i hi]at hx;have hj:j<k:=by rw[<-nX x (arL hx)];exact(ary.1 hd).1
     refine r9 (o+i) j (x.map .d) (.d d) _ (by unfold bn;rw[arF,hx];rfl) (by rw[arF,hd];rfl) ?_;have hc:=iG i j hi hj;rw[show(o+i)*k+j=o*k+i*k+j by rw[Nat.add_mul]];simp [Array.getD,hc]
    refine .sl _ g (o*k) cc k ys (λi j=>cur.getD (o*k+i*k+j) undef) (λ_=>rfl) (by omega) q3 (λx hx=> ?_) (λi j hi hj=>⟨?_,?_,?_⟩) (λi j x d hx hd=> ?_)
    ·rw[<-hy]at hx;exact nX x (List.mem_of_mem_drop (List.mem_of_mem_take hx))
    ·rw[hS];refine .inr ⟨oC,?_⟩;have:=mZ (i:=o+i) (k:=k) (L:=(bn xs).length) (j:=j) (by omega) hj;rw[Nat.add_mul]at this;exact this
    ·rw[cell_of_row w g _ cur e (0,0) r4];have hc:=iG i j (by omega) hj;simp [Array.getD,hc]
    ·have dN:i<len:=by omega
     obtain⟨x,hx⟩:∃x,ys[i]?=some x:=⟨_,arC hi⟩;have oy:=hx;rw[jT i dN]at oy;have lB:=arL oy;obtain⟨d,hd⟩:∃d,x[j]?=some d:=⟨_,arC (by rw[nX x lB];exact hj)⟩;refine(mU i j x d dN hx hd).kE ?_;have h1:=hone x lB;rw[arY]at h1;have h2:=h1 d (arL hd);cases d with
     |v u=>exact h2
     |sl l=>rfl
    ·have dN:i<len:=by rw[<-x9];exact(ary.1 hx).1
     have:=mU i j x d dN hx hd;generalize cur.getD (o*k+i*k+j) undef=q at this;cases this with|d h=>exact h.bj hE.S hE.cell
  ·exact(hh0 trivial).elim
 have hinv:=am1 (b:=b) (f:=AV.cQ b k xs) hs.inv hE (λc o hq=>by rw[hS]at hq;exact hq.imp id And.left) (λhq=>hq.cQ hE rfl hpd);have ct:cN {G with S:=S} w a ⟨s.n,s.t.map λp=>(p.1,p.2.cQ b k xs),(s.h.map (ao.kD (AV.cQ b k xs))).set b .gone⟩:=by
  refine⟨hs.size,λi=> ?_,hinv,hs.df⟩;show aJ _ _ _ (bw (s.t.map λp=>(p.1,p.2.cQ b k xs)) i);rw[Fe (AV.cQ b k xs) (by simp [AV.cQ])];exact(hs.tmp i).cQ hE rfl hpd
 exact⟨_,hE,rfl,ct⟩
end Go.Proofs.YtdchibpnjpnkoaaGreatDoor
