/-
  Part 2 of the proof: AbsZero, AbsIter, AbsCode, AbsWalk, GrowF, AbsDraw, AbsFrame, AbsRun, AbsFrz.
-/
import Derived.Test.YtphmhnabilhbgaaGreatDoorPk1
import Derived.Lib.AppendZeros
import Derived.Maps.RangeRun
namespace Go.Proofs.YtphmhnabilhbgaaGreatDoor
open Go.RowKit Go.Lib
def AV.isNil:AV→Bool
 | .d (.v (.slice none 0 0))=>true
 |_=>false
theorem acO{x:AV}(h:x.isNil=true):x= .d (.v (.slice none 0 0)):=by
 unfold AV.isNil at h;split at h
 ·rfl
 ·cases h
def Aa(P:aiH)(op:Op)(ρ:Operand→AV)(h:aiE an):aiG (AV×aiE an):=
 match op with
 | .slice T x lo hi none=>match eE P T,sT ρ 0 lo,sT ρ 0 hi with
   |some _,some 0,some 0=>bif (ρ x).isNil then some (.d (.v (.slice none 0 0)),h)else none
   |_,_,_=>none
 | .call c=>match c.callee with
   | .builtin .cap=>match c.args.toList,c.argTypes.toList with
     |[x],[T]=>bif (ρ x).isNil&&(eE P T).isSome then some (.d (.v (.int .i64 0)),h)else none
     |_,_=>none
   | .builtin .append=>match c.args.toList,c.argTypes.toList with
     |[x,y],[T,U]=>match eE P T,o6 P U,ρ y with
      |some (e,k),some _, .d (.v (.int _ (.ofNat m)))=>match ib P e,ou P e with
       |some z,some dx=>bif (ρ x).isNil&&cN 1 m&&cN 1 k&&z.cells.toList.length==k&&cN m maxLen&&cN (m*dx) 140737488355328 then some (.vec h.length 0 m m k,h++[.vec e k (List.replicate m (z.cells.toList.map fun u=> .d (.v u)))])else none
       |_,_=>none
      |_,_,_=>none
     |_,_=>none
   |_=>none
 |_=>none
section
variable {P:aiH} {r:aiG Nat} {n N0:Nat} {G:Gh} {w:aiJ} {a:Act} {s:St} {o:Oper} {K:St→Prop} {Q:Exit→Act→aiJ→Prop}
theorem ZB{x:Operand}{T:TypeId}(c:Call)(hc:c.callee= .builtin .cap)(h1:c.args.toList=[x])(h2:c.argTypes.toList=[T])(ho:o.op= .call c):
 (execOp a.eval o).run P w=((Builtin.cap_ #[T] o.type #[a.eval x]).run P w).andThen fun v w'=> .ok (.value v) w':=by
 have e1:c.args= #[x]:=by rw[←Array.toList_inj];exact h1
 have e2:c.argTypes= #[T]:=by rw[←Array.toList_inj];exact h2
 unfold execOp;simp only[ho,resolve,hc,e1,e2,invoke,builtin,Sem.run_bind,Sem.run_pure,Result.andThen_ok,List.map_toArray,aie,List.map_nil]
theorem UL(hs:dk G w a s){x:aiG Operand}(h:sT (ev s) 0 x=some 0):AI a x 0 0:=by
 cases x with
 |none=>rfl
 |some y=>exact Lx (d:=0) hs h (Int.le_refl _)
theorem Xt{x:AV}{h':aiE an}(hs:dk G w a s)(cZ:N0≤G.N)(hx:Aa P o.op (ev s) s.h=some (x,h'))(hK:K ((s.wh h').put o.dst x)):o.wpIn (WF r) n P a w (iJ N0 G w K) Q:=by
 have dF:=hs.ev;have nil:∀{y:Operand},(ev s y).isNil=true→a.eval y= .slice none 0 0:=fun{y} h=>by
  have:=dF y;rw[acO h]at this;exact this.val
 unfold Aa at hx;split at hx
 next T y lo hi ho=>
  split at hx
  ·next ek e1 e2 e3=>
   obtain⟨hb,he⟩:=lv hx;cases he
   obtain⟨fi,fG⟩:=jh e1;refine fy (by rw[ho];simp) hs cZ (v:= .slice none 0 0) ?_ (.d (.v _)) hK;have kX:=DA (P:=P) (Ax:=true) (UL hs e2) (UL hs e3) (ah0 _) (ah0 0) w;unfold execOp;simp [ho,nil hb,Instr.sliceAt,Instr.slice,run_underlying fi,kX,lB fG]
  ·cases hx
 next c ho=>
  split at hx
  ·next hc=>
   split at hx
   ·next y T e1 e2=>
    obtain⟨hb,he⟩:=lv hx;cases he
    rw[ahR]at hb;cases hT:eE P T with
    |none=>rw[hT]at hb;cases hb.2
    |some ek=>
     obtain⟨fi,fG⟩:=jh hT;refine fy (by rw[ho];simp) hs cZ (v:= .int .i64 0) ?_ (.d (.v _)) hK;rw[ZB c hc e1 e2 ho,nil hb.1];simp [Builtin.cap_,run_underlying fi,goInt]
   ·cases hx
  ·next hc=>
   split at hx
   ·next y z T U e1 e2=>
    split at hx
    ·next e k kn kq m f1 f2 f3=>
     split at hx
     ·next zz dx g1 g2=>
      obtain⟨hb,he⟩:=lv hx;cases he
      simp only[ahR,dQ,beq_iff_eq]at hb;obtain⟨⟨⟨⟨⟨jo,kX⟩,CM⟩,nU⟩,Gs⟩,K4⟩:=hb;clear hx;obtain⟨fi,fG⟩:=jh f1;obtain⟨i,ko,iH⟩:∃i,P.info? e=some i∧i.size=k:=by
       unfold fO at fG;cases hq:P.info? e with
       |none=>rw[hq]at fG;cases fG
       |some i=>rw[hq]at fG;exact⟨i,rfl,ah8 fG⟩
      have hz:i.zero=some zz:=by unfold ib at g1;rw[ko]at g1;exact g1
      have hbt:i.bytes=dx:=by unfold ou at g2;rw[ko]at g2;exact ah8 g2
      subst iH;subst hbt;have hy:=dF z;rw[f3]at hy;have ey:a.eval z= .int kq (m:Nat):=hy.val;have dK:=run_append_nil_zeros (P:=P) w T U o.type e i zz kq kn fi (GI f2) ko hz m (by omega) (by omega) (by have:=Gs;simp [maxLen]at this;omega) (by omega);have iV:zz.cells.size=i.size:=by rw[←ain];exact nU
      have gd:(List.replicate m (zz.cells.toList.map fun u=>AV.d (.v u))).length=m:=aiq;obtain⟨cap,jb⟩:∃cap,cap=grownCap w m 0 e:=⟨_,rfl⟩;have js:m≤cap:=by rw[jb];exact grownCap_ge _ _ _ _
      have hle:cap≤maxLen:=by rw[jb];exact grownCap_le_maxLen _ _ _ _ Gs
      rw[←jb]at dK;obtain⟨cur,jI⟩:∃cur,cur=Builtin.zeroCells zz.cells m++Builtin.zeroCells zz.cells (cap-m):=⟨_,rfl⟩;rw[←jI]at dK;have fP:cur.size=cap*i.size:=by
        rw[jI,Array.size_append,size_zeroCells,size_zeroCells,iV,←Nat.add_mul]
        congr 1
        omega
      obtain⟨G',q1,q2,q3,q4⟩:=K1 (e:=e) (k:=i.size) (cap:=cap) (cs:=List.replicate m (zz.cells.toList.map fun u=>AV.d (.v u))) (cur:=cur) hs.inv (by rw[gd];exact js) hle fP (fun c hc=>by
       rw[List.eq_of_mem_replicate hc,ahU];exact nU) w.drew ⟨rfl,rfl,rfl,rfl⟩ (fun a' b c x u hc hx hu=>by
       have:=List.eq_of_mem_replicate (ah2 hc);subst this;rw[ahW]at hx;cases hq:zz.cells.toList[b]? with
       |none=>rw[hq]at hx;cases hx
       |some y=>
        rw[hq]at hx;cases hx
        have iz:b<i.size:=by rw[←nU];exact(ahP.1 hq).1
        have MY:a'<m:=by have:=(ahP.1 hc).1;rwa [gd]at this
        have aZ:a'*i.size+b<m*i.size:=jx MY iz;rw[jI,Array.getElem?_append_left (by rw[size_zeroCells,iV];exact aZ)]at hu;unfold Builtin.zeroCells at hu;rw[Array.getElem?_map,Array.getElem?_range,iV,if_pos aZ]at hu;simp only[Option.map_some,Option.some.injEq]at hu;rw[(Gp (i:=a') iz).2]at hu;have DZ:zz.cells[b]?=some y:=by rw[←aic];exact hq
        rw[getElem!_pos zz.cells b (by rw[iV];exact iz)]at hu;rw[aib (by rw[iV];exact iz)]at DZ;cases DZ
        subst hu;exact .d (.v _))
      rw[gd]at q4;refine nv (by rw[ho];simp) hs cZ (by rw[BV c hc e1 e2 ho,nil jo,ey,dK];rfl) q1 q2 q3 (q4 m (ah0 _)) hK
     ·cases hx
    ·cases hx
   ·cases hx
  ·cases hx
 next=>cases hx
end
end Go.Proofs.YtphmhnabilhbgaaGreatDoor
namespace Go.Proofs.YtphmhnabilhbgaaGreatDoor
open Go.RowKit
section
variable {G:Gh} {w:aiJ} {h:aiE an}
end
def opR(P:aiH)(lo:Nat)(op:Op)(ρ:Operand→AV)(h:aiE an):aiG (AV×aiE an):=
 match op with
 | .range T m=>match ua P T,ρ m with
   |some _, .mp mb=>match h[mb]? with
    |some (.map [_])=>some (.ptr h.length 0,h++[.it false [.mp mb]])
    |_=>none
   |_,_=>none
 | .next it false=>match ρ it with
   | .ptr n 0=>match h[n]? with
     |some (.it sn [.mp mb])=>match h[mb]? with
      |some (.map [(s,d)])=>match sn with
       |true=>some (.cb [.d (.v (.bool false))],h)
       |false=>bif cN lo n then some (.cb [.d (.v (.bool true)), .d (.v (.string s)), .d d],h.set n (.it true [.mp mb]))else none
      |_=>none
     |_=>none
   |_=>none
 | .entry it=>match ρ it with
   | .ptr n 0=>match h[n]? with
     |some (.it true [.mp mb])=>match h[mb]? with
      |some (.map [(s,d)])=>some (.cb [.d (.v (.string s)), .d d],h)
      |_=>none
     |_=>none
   |_=>none
 |_=>none
section
variable {P:aiH} {r:aiG Nat} {n N0:Nat} {G:Gh} {w:aiJ} {a:Act} {s:St} {o:Oper} {K:St→Prop} {Q:Exit→Act→aiJ→Prop}
end
def iO(ops:Array Oper)(o:Oper)(s:St)(yes no:Prop):Prop:=
 match o.guard with
 |none=>yes
 |some (j,want)=>match (ops[j]?).bind (·.dst)with
  |some d=>match bH s.t d with
   | .d (.v (.bool b))=>(b=want→yes)∧(b= !want→no)
   | .d (.v (.tuple _))=>no
   |_=>False
  |none=>False
structure bS(P:Program)(r:Option Nat)(N0:Nat)(c:Code)(Q:Exit→St→Prop)(s:St):Prop where
 run:∀(G:Gh)(w:World)(a:Act)(n:Nat),dk G w a s→N0≤G.N→c.wpIn (WF r) n P (fun e a' w'=>iJ N0 G w (Q e) a' w') a w
def gQ(K:St→Prop)(Q:Exit→St→Prop):Exit→St→Prop
 | .normal,s=>K s
 |e,s=>Q e s
def kS:Nat→aiE AV→aiE (Nat×AV)
 |_,[]=>[]
 |k,x::l=>(k,x)::kS (k+1) l
theorem L9:∀(l:aiE AV)(k i:Nat),bH (kS k l) i=if k≤i then(l[i-k]?).getD .dead else .dead
 |[],k,i=>by simp [kS,bH]
 |x::l,k,i=>by
  rw[kS,lu,L9 l (k+1) i];by_cases h:i=k
  ·subst h;simp
  ·rw[if_neg h];by_cases h2:k≤i
   ·rw[if_pos (by omega),if_pos h2,show i-k=i-(k+1)+1 by omega,air]
   ·rw[if_neg (by omega),if_neg h2]
def YS(P:aiH)(k:Nat)(x:AV)(h:aiE an)(C:Bool→aiE an→Prop):Prop:=
 ∀(G:Gh)(w:aiJ)(v:aiI)(r:aiG Nat)(n:Nat),cw G w h→aL G w v x→k<G.N∧∃(p:Nat)(as bd:Code)(fn:FuncId)(tm:Array aiI)(D:Nat),
  w.heap[G.bA k]?=some (.loop {state:= .ready,pending:=none,fn:=fn,tmps:=tm,params:= #[p],assign:=as,body:=bd,defers:=D})∧
  RoundIn (WF r) n P (G.bA k) fn (tm.setIfInBounds p v) as bd w fun e w'=>∃(b:Bool)(G':Gh)(h':aiE an),e= .returned (.bool b)∧cp G.N G w G' w'∧G.N≤G'.N∧cw G' w' h'∧C b h'
def Xv(C:Bool→aiE an→Prop)(k:Nat):Exit→St→Prop
 | .normal,s2=>∃p as bd jX,s2.h[k]?=some (.lp .busy p as bd jX)∧C true (s2.h.set k (.lp .ready p as bd jX))
 | .ret,s2=>∃p as bd jX,s2.h[k]?=some (.lp .busy p as bd jX)∧C false (s2.h.set k (.lp (.done .ret) p as bd jX))
 | .exit i,s2=>∃p as bd jX,s2.h[k]?=some (.lp .busy p as bd jX)∧C false (s2.h.set k (.lp (.done (.exit i)) p as bd jX))
 |_,_=>False
def Iu(P:aiH)(o:Oper)(K:St→Prop)(s:St):Prop:=
 match o.op with
 | .call c=>match c.callee with
   | .value f=>match ev s f,c.args.toList.map (ev s)with
     | .dp k,[x]=>YS P k x s.h fun b h'=>K ((s.wh h').put o.dst (.d (.v (.bool b))))
     |_,_=>False
   |_=>False
 |_=>False
def Xo(P:aiH)(o:Oper)(K:St→Prop)(s:St):Prop:=∃x h',Aa P o.op (ev s) s.h=some (x,h')∧K ((s.wh h').put o.dst x)
def mJ(P:aiH)(o:Oper)(K:St→Prop)(s:St):Prop:=FM P o K s∨B4 P o K s∨po P o K s∨Iu P o K s∨Xo P o K s
def qQ(P:aiH)(ops:Array Oper):aiE Oper→(St→Prop)→St→Prop
 |[],K,s=>K s
 |o::rest,K,s=>iO ops o s (mJ P o (qQ P ops rest K) s) (qQ P ops rest K (s.put o.dst (.d (.v undef))))
def oe(id:Nat)(Q:Exit→St→Prop):Exit→St→Prop
 | .exit pC,s=>bif pC==id then Q .normal s else Q (.exit pC) s
 |e,s=>Q e s
section
variable {P:aiH} {r:aiG Nat} {n N0:Nat} {G:Gh} {w:aiJ} {a:Act} {s:St} {o:Oper} {Q:Exit→St→Prop}
theorem iJ.mono{K K':St→Prop}(h:∀s,K s→K' s){a':Act}{w':aiJ}(hn:iJ N0 G w K a' w'):iJ N0 G w K' a' w':=
 let ⟨G',s',h1,h2,h3,h4⟩:=hn;⟨G',s',h1,h2,h3,h _ h4⟩
theorem iJ.trans{K:St→Prop}{G1:Gh}{w1:aiJ}(hE:cp N0 G w G1 w1){a':Act}{w':aiJ}(hn:iJ N0 G1 w1 K a' w'):iJ N0 G w K a' w':=
 let ⟨G',s',h1,h2,h3,h4⟩:=hn;⟨G',s',hE.trans h1,h2,h3,h4⟩
theorem bS.mono{c:Code}{Q':Exit→St→Prop}(h:bS P r N0 c Q s)(hq:∀e s,Q e s→Q' e s):bS P r N0 c Q' s:=
 ⟨fun G w a n hs hN=>wpIn_mono (h.run G w a n hs hN) fun e _ _ hn=>hn.mono (hq e)⟩
theorem Lp{ops:Array Oper}{yes no:Prop}(hs:dk G w a s)(h:iO ops o s yes no):if Region.wanted o (yielded ops a.tmps)then yes else no:=by
 unfold iO at h;split at h
 ·rename_i hg
  rw[if_pos (by simp [Region.wanted,hg])];exact h
 ·rename_i j want hg
  split at h
  ·rename_i d hd
   have hv:=hs.tmp d;split at h
   ·rename_i b hb
    rw[hb]at hv;have e:=hv.bool;have hy:yielded ops a.tmps j=some b:=by
      unfold yielded;rw[hd,ahO];by_cases aZ:d<a.tmps.size
      ·rw[aib aZ];have:a.tmps.getD d undef=a.tmps[d]:=by simp [Array.getD,aZ]
       rw[this]at e;rw[e]
      ·have:a.tmps.getD d undef=undef:=by simp [Array.getD,aZ]
       rw[this]at e;cases e
    by_cases vN:b=want
    ·rw[if_pos (by simp [Region.wanted,hg,hy,vN])];exact h.1 vN
    ·rw[if_neg (by simp [Region.wanted,hg,hy,vN])];exact h.2 (by cases b<;>cases want<;>simp_all)
   ·rename_i vs hb
    rw[hb]at hv;have e:=hv.val;have hy:yielded ops a.tmps j=none:=by
      unfold yielded;rw[hd,ahO];by_cases aZ:d<a.tmps.size
      ·rw[aib aZ];have:a.tmps.getD d undef=a.tmps[d]:=by simp [Array.getD,aZ]
       rw[this]at e;rw[e]
      ·rw[Array.getElem?_eq_none (Nat.le_of_not_lt aZ)]
    rw[if_neg (by simp [Region.wanted,hg,hy])];exact h
   ·exact h.elim
  ·exact h.elim
theorem YS.mono{k:Nat}{x:AV}{h:aiE an}{C C':Bool→aiE an→Prop}(hy:YS P k x h C)(hc:∀b h',C b h'→C' b h'):YS P k x h C':=fun G w v r n hi hv=>
 let ⟨h0,p,as,bd,fn,tm,D,h1,h2⟩:=hy G w v r n hi hv
 ⟨h0,p,as,bd,fn,tm,D,h1,h2.mono fun _ _ ⟨b,G',h',a1,a2,a3,a4,a5⟩=>⟨b,G',h',a1,a2,a3,a4,hc _ _ a5⟩⟩
theorem Xf{k:Nat}{x:AV}{h:aiE an}{C:Bool→aiE an→Prop}
 (hA:∃p as bd cs,h[k]?=some (.lp .ready p as bd cs)∧p<cs.length∧∀(l:Nat),bS P (some l) h.length as (gQ (fun s1=>∃p1 rf qN uM,s1.h[k]?=some (.lp .ready p1 rf qN uM)∧bS P (some l) h.length bd (Xv C k) ⟨s1.n,s1.t,s1.h.set k (.lp .busy p1 rf qN uM)⟩) (fun _ _=>False)) ⟨cs.length,(p,x)::kS 0 cs,h⟩):YS P k x h C:=by
 intro G w v r n hi I9;obtain⟨p,as,bd,cs,hk,hp,hA⟩:=hA;have y0:k<G.N:=hi.lt hk;obtain⟨hS,fn,tm,D,h3,h4,h5,ahD⟩:=Fu hi hk;refine⟨y0,p,as,bd,fn,tm,D,h3,?_⟩;refine roundIn_of_wpIn (F:=WF r) trivial ?_;have Je:dk G w {tmps:=tm.setIfInBounds p v,defers:=[]} ⟨cs.length,(p,x)::kS 0 cs,h⟩:=by
  refine⟨by simp [h4],fun i=> ?_,hi,pJ.nil _ _⟩;show aL _ _ _ (bH ((p,x)::kS 0 cs) i);rw[lu];split
  ·next e=>
   subst e;have:(tm.setIfInBounds i v).getD i undef=v:=by simp [Array.getD,h4,hp]
   rw[this];exact I9
  ·next e=>
   rw[L9];simp only[Nat.zero_le,if_true,Nat.sub_zero];cases jC:cs[i]? with
   |none=>exact .dead _
   |some y=>
    have aZ:i<tm.size:=by rw[h4];exact(ahP.1 jC).1
    have:(tm.setIfInBounds p v).getD i undef=tm[i]:=by
     simp [Array.getD,aZ,Ne.symm e]
    rw[this];exact h5 i _ y (aib aZ) jC
 have ta:=hA (G.bA k);rw[hi.len]at ta;refine wpIn_mono (ta.run G w _ n Je (ah0 _)) fun e1 a1 w1 xp=> ?_;obtain⟨G1,s1,jG,gi,fc,Vu⟩:=xp;cases e1 with
 |normal=>
  obtain⟨p1,rf,qN,uM,td,jo⟩:=Vu;have rF:G1.bA k=G.bA k:=jG.bA k y0;obtain⟨_,Xe,tm1,D1,g3,g4,g5,NA⟩:=Fu fc.inv td;obtain⟨gE,gI⟩:=NA .busy;rw[rF]at g3 gE gI;refine⟨_,run_beginRound g3 rfl,?_⟩;have yZ:dk G1 (w1.putObj (G.bA k) (.loop {state:= .busy,pending:=none,fn:=Xe,tmps:=tm1,params:= #[p1],assign:=rf,body:=qN,defers:=D1})) a1 ⟨s1.n,s1.t,s1.h.set k (.lp .busy p1 rf qN uM)⟩:=fc.move gE (ah0 _) gI;refine wpIn_mono (jo.run G1 _ a1 n yZ gi) fun e3 a3 w3 XS=> ?_;obtain⟨G3,s3,NP,Ru,WT,Fw⟩:=XS;have fin:∀(jump:aiG Code)(ls:LS)(b:Bool)(p:Nat)(as bd:Code)(jX:aiE AV),s3.h[k]?=some (.lp .busy p as bd jX)→ls.pd=jump→ls.st=(if jump.isNone then .ready else .done)→jump.isNone=b→C b (s3.h.set k (.lp ls p as bd jX))→
   ∃v w',(Instr.endRound (G.bA k) jump).run P w3= .ok v w'∧∃(b:Bool)(G':Gh)(h':aiE an),(Ending.returned v:Ending)= .returned (.bool b)∧cp G.N G w G' w'∧G.N≤G'.N∧cw G' w' h'∧C b h':=fun jump ls b p as bd jX hk3 q1 q2 q3 hK=>by
   have KQ:G3.bA k=G.bA k:=(NP.bA k y0).trans rF;obtain⟨_,fn3,tm3,D3,z3,z4,z5,Zh⟩:=Fu WT.inv hk3;obtain⟨zE,zI⟩:=Zh ls;rw[KQ]at z3 zE zI;subst q1;have Ef:=run_endRound (P:=P) ls.pd z3;rw[←q2]at Ef;refine⟨_,_,Ef,b,G3,_,by rw[q3],?_,Ru,zI,hK⟩;exact(jG.trans ((gE.less gi).trans NP)).trans (zE.less Ru)
  cases e3 with
  |normal=>obtain⟨p2,DV,CB,jX,y1,y2⟩:=Fw;exact fin none .ready true p2 DV CB jX y1 rfl rfl rfl y2
  |ret=>obtain⟨p2,DV,CB,jX,y1,y2⟩:=Fw;exact fin (some .ret) (.done .ret) false p2 DV CB jX y1 rfl rfl rfl y2
  |exit i=>obtain⟨p2,DV,CB,jX,y1,y2⟩:=Fw;exact fin (some (.exit i)) (.done (.exit i)) false p2 DV CB jX y1 rfl rfl rfl y2
  |_=>exact Fw.elim
 |_=>exact Vu.elim
theorem ZD{K:St→Prop}{Q:Exit→Act→aiJ→Prop}(hs:dk G w a s)(hN:N0≤G.N)(h:Iu P o K s):o.wpIn (WF r) n P a w (iJ N0 G w K) Q:=by
 unfold Iu at h;split at h
 ·next c ho=>
  split at h
  ·next f hc=>
   split at h
   ·next k x hf hx=>
    have hv:=hs.ev f;rw[hf]at hv;have ea:a.eval f= .func (.yield (G.bA k)) #[] #[]:=by
     generalize a.eval f=u at hv;cases hv;rfl
    obtain⟨p1,p2⟩:=Bi hs c.args;obtain⟨v,vF⟩:∃v,c.args.map a.eval= #[v]:=by
     have:(c.args.map a.eval).size=1:=by rw[p1,hx];rfl
     exact⟨(c.args.map a.eval)[0],Array.ext (by simp [this]) fun i h1 h2=>by
      have:i=0:=by simp at h2;exact h2
      subst this;rfl⟩
    have I9:aL G w v x:=p2 0 v x (by rw[vF];rfl) (by rw[hx];rfl);obtain⟨y0,p,as,bd,fn,tm,D,h3,hA⟩:=h G w v r (n-1) hs.inv I9;have j5:∀c',o.op≠ .defer c':=fun c' e=>by rw[ho]at e;cases e
    have hy:=run_yield (P:=P) (args:= #[v]) h3 rfl;have dK:(o.semAt (WF r).round a.eval).run P w= .ok (.round (G.bA k) fn (tm.setIfInBounds p v) as bd) w:=by
     rw[Oper.semAt_eq _ _ _ j5];unfold execOp;simp only[ho,resolve,hc,ea];simp [Deferred.ofValue,invoke,vF,hy]
    unfold Oper.wpIn;refine⟨fun g hg=>trivial,?_⟩;rw[dK,Oper.uponIn_round];refine⟨fun h=>(by simp [WF,Fence.wide]at h),hA.mono fun e w' hp=> ?_⟩;obtain⟨b,G',h',rfl,hE,F3,dT,hK⟩:=hp;exact⟨G',_,hE.less hN,ah7 hN F3,(hs.move hE F3 dT).put (.d (.v _)) o.dst,hK⟩
   ·exact h.elim
  ·exact h.elim
 ·exact h.elim
theorem Y2{K:St→Prop}{Q:Exit→Act→aiJ→Prop}(hs:dk G w a s)(hN:N0≤G.N)(h:mJ P o K s):o.wpIn (WF r) n P a w (iJ N0 G w K) Q:=by
 rcases h with h|h|h|h|⟨x,h',h,hK⟩
 ·exact Ji hs hN (.inl h)
 ·exact Ji hs hN (.inr (.inl h))
 ·exact Ji hs hN (.inr (.inr h))
 ·exact ZD hs hN h
 ·exact Xt hs hN h hK
theorem Jx{ops:Array Oper}{K:St→Prop}{Q':Exit→Act→aiJ→Prop}(hQ:∀a' w',iJ N0 G w K a' w'→Q' .normal a' w'):∀(l:aiE Oper)(k:Nat),(∀j,l[j]?=ops[k+j]?)→∀(G1:Gh)(w1:aiJ)(a:Act)(s:St),
 cp N0 G w G1 w1→N0≤G1.N→dk G1 w1 a s→qQ P ops l K s→wpOpsIn (WF r) n P ops Q' (List.range' k l.length) a w1
 |[],k,_,G1,w1,a,s,hE,hN,hs,h=>hQ _ _ ⟨G1,s,hE,hN,hs,h⟩
 |o::l,k,hl,G1,w1,a,s,hE,hN,hs,h=>by
  have h0:ops[k]?=some o:=by simpa using (hl 0).symm
  have na:∀j,l[j]?=ops[k+1+j]?:=fun j=>by have:=hl (j+1);simpa [Nat.add_assoc,Nat.add_comm 1 j]using this
  have hg:=Lp hs h;simp only[ahS,List.range'_succ,wpOpsIn,h0];split
  ·rename_i hw
   rw[if_pos hw]at hg;exact Oper.wpIn_mono (fun a' w' hn=>by
     obtain⟨G2,s2,e2,n2,Nb,k2⟩:=hn;exact Jx hQ l (k+1) na G2 w' a' s2 (hE.trans e2) n2 Nb k2) (Y2 hs hN hg)
  ·rename_i hw
   rw[if_neg hw]at hg;exact⟨fun _ _=>trivial,Jx hQ l (k+1) na G1 w1 _ _ hE hN (hs.put (.d (.v undef)) o.dst) hg⟩
theorem fD{id:Nat}{ops:Array Oper}(h:qQ P ops ops.toList (Q .normal) s):bS P r N0 (.region id ops false) Q s:=by
 constructor
 intro G w a n hs hN;refine wpIn_region ?_;rw[List.range_eq_range',←ain];exact Jx (G:=G) (w:=w) (K:=Q .normal) (fun _ _ h=>h) ops.toList 0 (by simp) G w a s (cp.refl _ _ _) hN hs h
theorem et(h:Q .normal s):bS P r N0 .skip Q s:=⟨fun G _ _ _ hs hN=>wpIn_skip ⟨G,s,cp.refl _ _ _,hN,hs,h⟩⟩
theorem dN(h:Q .ret s):bS P r N0 .ret Q s:=⟨fun G _ _ _ hs hN=>wpIn_ret ⟨G,s,cp.refl _ _ _,hN,hs,h⟩⟩
theorem kZ{id:Nat}(h:Q (.exit id) s):bS P r N0 (.exit id) Q s:=⟨fun G _ _ _ hs hN=>wpIn_exit ⟨G,s,cp.refl _ _ _,hN,hs,h⟩⟩
theorem aR{x y:Code}(h:bS P r N0 x (gQ (fun s'=>bS P r N0 y Q s') Q) s):bS P r N0 (.seq x y) Q s:=by
 constructor
 intro G w a n hs hN;refine wpIn_seq (wpIn_mono (h.run G w a n hs hN) fun e a1 w1 hn=> ?_);obtain⟨G1,s1,hE,gi,fc,hq⟩:=hn;cases e with
 |normal=>exact wpIn_mono (hq.run G1 w1 a1 n fc gi) fun _ _ _ hn=>hn.trans hE
 |_=>exact⟨G1,s1,hE,gi,fc,hq⟩
theorem MG{c:Operand}{x y:Code}{t:Bool}(hc:ev s c= .d (.v (.bool t)))(h1:t=true→bS P r N0 x Q s)(h2:t=false→bS P r N0 y Q s):bS P r N0 (.cond c x y) Q s:=by
 constructor
 intro G w a n hs hN;have hb:=hs.ev c;rw[hc]at hb;exact wpIn_cond_split hb.bool (fun e=>(h1 e).run G w a n hs hN) (fun e=>(h2 e).run G w a n hs hN)
theorem fe{id:Nat}{c:Code}(h:bS P r N0 c (oe id Q) s):bS P r N0 (.block id c) Q s:=by
 constructor
 intro G w a n hs hN;refine wpIn_block (wpIn_mono (h.run G w a n hs hN) fun e a1 w1 hn=> ?_);obtain⟨G1,s1,hE,gi,fc,hq⟩:=hn;cases e with
 |exit pC=>
  by_cases he:pC=id
  ·simp only[oe,he,BEq.rfl,cond_true]at hq;simp only[Exit.inBlock,if_pos he];exact⟨G1,s1,hE,gi,fc,hq⟩
  ·have Yc:(pC==id)=false:=by simpa using he
   simp only[oe,Yc,cond_false]at hq;simp only[Exit.inBlock,if_neg he];exact⟨G1,s1,hE,gi,fc,hq⟩
 |_=>exact⟨G1,s1,hE,gi,fc,hq⟩
theorem IX{F:Fence}{c:Code}{Q:Exit→Act→aiJ→Prop}{ι:Type}(I:ι→Act→aiJ→Prop)(μ:ι→Nat)(i0:ι)(h₀:I i0 a w)
 (round:∀i a w,I i a w→c.wpIn F n P (Exit.then (fun a' w'=>∃i',I i' a' w'∧μ i'<μ i) Q) a w):(Code.loop c).wpIn F n P Q a w:=by
 intro b k cs yo hb hr;have key:∀j i a w,μ i=j→I i a w→
  ∃e a' w',Q e a' w'∧ArrivesIn (Machine.fenced P F) P (lone (b.atR a (.code c:: .inLoop c::k)) cs w) b k cs e a' w':=by
  intro j
  induction j using Nat.strongRecOn with
  |_ j ih=>
   intro i a w hn hI;obtain⟨e,a₁,w₁,hq,uE⟩:=round i a w hI b (.inLoop c::k) cs yo hb hr;cases e with
   |normal=>
    obtain⟨i',hI₁,aZ⟩:=hq;obtain⟨e₂,a₂,w₂,ZV,adA⟩:=ih (μ i') (hn▸aZ) i' a₁ w₁ rfl hI₁;exact⟨e₂,a₂,w₂,ZV, .of_steps (StepsIn.trans uE (.one (fenced_calm hb hr rfl) stepR_inLoop)) adA⟩
   |exit id=>exact⟨_,a₁,w₁,hq, .pass (x:= .inLoop c) rfl (fun _ _=> .inl (by simp)) uE⟩
   |goto l=>exact⟨_,a₁,w₁,hq, .pass (x:= .inLoop c) rfl (fun _ _=> .inl (by simp)) uE⟩
   |ret=>exact⟨_,a₁,w₁,hq, .pass (x:= .inLoop c) rfl (fun _ _=> .inl (by simp)) uE⟩
   |panic ch=>exact⟨_,a₁,w₁,hq, .pass (x:= .inLoop c) rfl (fun _ _=> .inl (by simp)) uE⟩
   |outgrown=>exact⟨_,a₁,w₁,hq, .pass (x:= .inLoop c) rfl (fun _ _=> .inl (by simp)) uE⟩
 obtain⟨e,a',w',hq,uE⟩:=key _ i0 a w rfl h₀;exact⟨e,a',w',hq, .of_steps (.one (fenced_calm hb hr rfl) stepR_loop) uE⟩
end
mutual
def AV.bU(m:Nat):AV→AV
 | .own n xs=>bif cN m n then .d (.sl xs)else .own n xs
 | .agg cs=> .agg (AV.n9 m cs)
 | .cb cs=> .cb (AV.n9 m cs)
 | .fn f cs=> .fn f (AV.n9 m cs)
 |x=>x
def AV.n9(m:Nat):aiE AV→aiE AV
 |[]=>[]
 |x::l=>x.bU m::AV.n9 m l
end
mutual
def AV.bf(m:Nat):AV→Bool
 | .own n _| .ptr n _| .row n _ _ _ _| .mp n| .dp n| .vec n _ _ _ _| .dw n _ _ _ _=> !cN m n
 | .agg cs=>AV.mo m cs
 | .cb cs=>AV.mo m cs
 | .fn _ cs=>AV.mo m cs
 |_=>true
def AV.mo(m:Nat):aiE AV→Bool
 |[]=>true
 |x::l=>x.bf m&&AV.mo m l
end
theorem BZ(m:Nat):∀l,AV.n9 m l=l.map (AV.bU m)
 |[]=>by simp [AV.n9]
 |x::l=>by simp [AV.n9,BZ m l]
theorem l5(m:Nat):∀l,AV.mo m l=l.all (AV.bf m)
 |[]=>by simp [AV.mo]
 |x::l=>by simp [AV.mo,l5 m l]
def an.bU(m:Nat):an→an
 | .cells cs=> .cells (cs.map (AV.bU m))
 | .lp ls p as bd cs=> .lp ls p as bd (cs.map (AV.bU m))
 | .it sn cs=> .it sn (cs.map (AV.bU m))
 | .vec e k cs=> .vec e k (cs.map (·.map (AV.bU m)))
 |B=>B
def an.bf(m:Nat):an→Bool
 | .cells cs=>cs.all (AV.bf m)
 | .lp _ _ _ _ cs=>cs.all (AV.bf m)
 | .it _ cs=>cs.all (AV.bf m)
 | .vec _ _ cs=>cs.all (·.all (AV.bf m))
 |_=>true
theorem aL.bU{G:Gh}{w:aiJ}(m:Nat){u:aiI}{x:AV}(h:aL G w u x):aL G w u (x.bU m):=by
 have fF:∀(vs:Array aiI)(cs:aiE AV),(∀(i:Nat)(u:aiI)(c:AV),vs[i]?=some u→cs[i]?=some c→aL G w u (c.bU m))→∀(i:Nat)(u:aiI)(c:AV),vs[i]?=some u→(AV.n9 m cs)[i]?=some c→aL G w u c:=by
  intro vs cs ih i u c hu hc;rw[BZ,ahW]at hc;cases hx:cs[i]? with
  |none=>rw[hx]at hc;cases hc
  |some x=>rw[hx]at hc;cases hc;exact ih i u x hu hx
 induction h with
 |agg vs cs hl _ ih=>rw[AV.bU];exact .agg vs _ (by rw[BZ,ahU];exact hl) (fF vs cs ih)
 |cb vs cs hl _ ih=>rw[AV.bU];exact .cb vs _ (by rw[BZ,ahU];exact hl) (fF vs cs ih)
 |fn f vs cs hl _ ih=>rw[AV.bU];exact .fn f vs _ (by rw[BZ,ahU];exact hl) (fF vs cs ih)
 |own n xs h hp hle hf=>
  rw[AV.bU,cond_eq_ite];split
  ·exact .d hp
  ·exact .own n xs h hp hle hf
 |d h=>simp only[AV.bU];exact .d h
 |ptr n off h=>simp only[AV.bU];exact .ptr n off h
 |bt xs i off b o u x hx hS hu=>simp only[AV.bU];exact .bt xs i off b o u x hx hS hu
 |full xs hp hf=>simp only[AV.bU];exact .full xs hp hf
 |row n off len cap k h hl hm=>simp only[AV.bU];exact .row n off len cap k h hl hm
 |mp n h=>simp only[AV.bU];exact .mp n h
 |dp n h=>simp only[AV.bU];exact .dp n h
 |vec n o len L k h hs hL hf=>simp only[AV.bU];exact .vec n o len L k h hs hL hf
 |dw n i j L k h hs hL hf=>simp only[AV.bU];exact .dw n i j L k h hs hL hf
 |hid h h1=>simp only[AV.bU];exact .hid h h1
 |dead u=>simp only[AV.bU];exact .dead u
def Gh.cut(G:Gh)(m:Nat):Gh:={G with N:=m}
theorem aL.cut{G:Gh}{w:aiJ}{m:Nat}{u:aiI}{x:AV}(h:aL G w u x)(hb:x.bf m=true):aL (G.cut m) w u x:=by
 induction h with
 |agg vs cs hl _ ih=>
  rw[AV.bf,l5,aif]at hb;exact .agg vs cs hl fun i u c hu hc=>ih i u c hu hc (hb c (ah2 hc))
 |cb vs cs hl _ ih=>
  rw[AV.bf,l5,aif]at hb;exact .cb vs cs hl fun i u c hu hc=>ih i u c hu hc (hb c (ah2 hc))
 |fn f vs cs hl _ ih=>
  rw[AV.bf,l5,aif]at hb;exact .fn f vs cs hl fun i u c hu hc=>ih i u c hu hc (hb c (ah2 hc))
 |own n xs h hp hle hf=>rw[AV.bf]at hb;exact .own n xs (show n<m by rw[Bool.not_eq_true',←Bool.not_eq_true,dQ]at hb;omega) hp hle hf
 |ptr n off h=>rw[AV.bf]at hb;exact .ptr (G:=G.cut m) n off (show n<m by rw[Bool.not_eq_true',←Bool.not_eq_true,dQ]at hb;omega)
 |row n off len cap k h hl hm=>rw[AV.bf]at hb;exact .row (G:=G.cut m) n off len cap k (show n<m by rw[Bool.not_eq_true',←Bool.not_eq_true,dQ]at hb;omega) hl hm
 |mp n h=>rw[AV.bf]at hb;exact .mp (G:=G.cut m) n (show n<m by rw[Bool.not_eq_true',←Bool.not_eq_true,dQ]at hb;omega)
 |dp n h=>rw[AV.bf]at hb;exact .dp (G:=G.cut m) n (show n<m by rw[Bool.not_eq_true',←Bool.not_eq_true,dQ]at hb;omega)
 |vec n o len L k h hs hL hf=>rw[AV.bf]at hb;exact .vec (G:=G.cut m) n o len L k (show n<m by rw[Bool.not_eq_true',←Bool.not_eq_true,dQ]at hb;omega) hs hL hf
 |dw n i j L k h hs hL hf=>rw[AV.bf]at hb;exact .dw (G:=G.cut m) n i j L k (show n<m by rw[Bool.not_eq_true',←Bool.not_eq_true,dQ]at hb;omega) hs hL hf
 |hid h h1=>exact .hid (G:=G.cut m) h h1
 |d h=>exact .d h
 |bt xs i off b o u x hx hS hu=>exact .bt xs i off b o u x hx hS hu
 |full xs hp hf=>exact .full xs hp hf
 |dead u=>exact .dead u
def St.mask(s:St)(live:aiE Nat)(m:Nat):St:={s with t:=live.map fun k=>(k,(bH s.t k).bU m),h:=(s.h.take m).map (an.bU m)}
def St.yj(s:St)(live:aiE Nat)(m:Nat):Prop:=m≤s.h.length∧(live.all fun k=>((bH s.t k).bU m).bf m)=true∧(((s.h.take m).map (an.bU m)).all (an.bf m))=true
theorem nS(f:Nat→AV):∀(live:aiE Nat)(i:Nat),bH (live.map fun k=>(k,f k)) i=if i∈live then f i else .dead
 |[],i=>by simp [bH]
 |k::l,i=>by
  simp only[aie,lu,nS f l i,aik];by_cases h:i=k
  ·subst h;simp
  ·simp [h]
theorem IZ{G:Gh}{w:aiJ}{h:aiE an}(hi:cw G w h){m:Nat}(hm:m≤h.length)(hb:(((h.take m).map (an.bU m)).all (an.bf m))=true):cw (G.cut m) w ((h.take m).map (an.bU m)):=by
 have ff:∀(n:Nat)(B:an),((h.take m).map (an.bU m))[n]?=some B→n<m∧∃B',h[n]?=some B'∧B=B'.bU m∧(B'.bU m).bf m=true:=fun n B hB=>by
  have wF:=aif.1 hb B (ah2 hB);rw[ahW,List.getElem?_take]at hB;split at hB
  ·rename_i hn
   cases hx:h[n]? with
   |none=>rw[hx]at hB;cases hB
   |some B'=>rw[hx]at hB;cases hB;exact⟨hn,B',rfl,rfl,wF⟩
  ·cases hB
 have eg:∀n b,cA ((h.take m).map (an.bU m)) (G.cut m) n=some b→cA h G n=some b:=fun n b hb=>by
  obtain⟨B,hB,hb⟩:=kQ hb;obtain⟨_,B',h1,rfl,_⟩:=ff n B hB;rw[dV h1,←hb];cases B'<;>rfl
 refine⟨by simp [Gh.cut];omega,hi.z,hi.S,fun n B hB=> ?_,fun i j b h1 h2=>hi.inj i j b (eg i b h1) (eg j b h2),hi.gl⟩;obtain⟨hn,B',h1,rfl,wF⟩:=ff n B hB;have eG:=hi.dz n B' h1;cases B' with
 |gone=>trivial
 |front e k len=>exact eG
 |map kv=>exact eG
 |vec e k cs=>
  obtain⟨c1,c2,c3,c4⟩:=eG;refine⟨by rw[ahU];exact c1,by rw[ahU];exact c2,fun c hc=> ?_,?_⟩
  ·obtain⟨x,hx,rfl⟩:=List.mem_map.1 hc;rw[ahU];exact c3 x hx
  ·rcases c4 with⟨d1,d2,A,d3⟩|⟨g,cap,cur,d1,d2,d3,d4,d5,d6,d7,d8,d9⟩
   ·exact .inl ⟨d1,by rw[d2];rfl,A,d3⟩
   ·refine .inr ⟨g,cap,cur,d1,by rw[ahU];exact d2,d3,d4,by rw[ahU];exact d5,d6,d7,d8,fun i j c x u hc hx hu=> ?_⟩;simp only[an.bU,an.bf,aif]at wF;rw[ahW]at hc;cases hy:cs[i]? with
    |none=>rw[hy]at hc;cases hc
    |some y=>
     rw[hy]at hc;cases hc
     have hz:=hx;rw[ahW]at hx;cases hw:y[j]? with
     |none=>rw[hw]at hx;cases hx
     |some z=>
      rw[hw]at hx;cases hx
      exact((d9 i j y z u hy hw hu).bU m).cut (wF _ (List.mem_map.2 ⟨y,ah2 hy,rfl⟩) _ (ah2 hz))
 |cells cs=>
  obtain⟨c1,c2,vs,T,c3,c4,c5⟩:=eG;refine⟨c1,c2,vs,T,c3,by rw[ahU];exact c4,fun i u c hu hc=> ?_⟩;have iy:=ah2 hc;rw[ahW]at hc;cases hx:cs[i]? with
  |none=>rw[hx]at hc;cases hc
  |some x=>
   rw[hx]at hc;cases hc
   exact((c5 i u x hu hx).bU m).cut (aif.1 wF _ iy)
 |lp ls p as bd cs=>
  obtain⟨c1,c2,fn,vs,T,c3,c4,c5⟩:=eG;refine⟨c1,c2,fn,vs,T,c3,by rw[ahU];exact c4,fun i u c hu hc=> ?_⟩;have iy:=ah2 hc;rw[ahW]at hc;cases hx:cs[i]? with
  |none=>rw[hx]at hc;cases hc
  |some x=>
   rw[hx]at hc;cases hc
   exact((c5 i u x hu hx).bU m).cut (aif.1 wF _ iy)
 |it sn cs=>
  obtain⟨c1,c2,fn,vs,T,c3,c4,c5⟩:=eG;refine⟨c1,c2,fn,vs,T,c3,by rw[ahU];exact c4,fun i u c hu hc=> ?_⟩;have iy:=ah2 hc;rw[ahW]at hc;cases hx:cs[i]? with
  |none=>rw[hx]at hc;cases hc
  |some x=>
   rw[hx]at hc;cases hc
   exact((c5 i u x hu hx).bU m).cut (aif.1 wF _ iy)
theorem nT(N:Nat)(G:Gh)(w:aiJ)(m:Nat):cp N G w (G.cut m) w:=
 ⟨ah0 _,fun _ _ h=>h,fun _ _ _=>rfl,fun _ _=>rfl,fun _ _=> .inl ⟨rfl,rfl⟩,gB rfl,fun _ _=>rfl,rfl,rfl,rfl,fun _ _ h=> .inl h⟩
section
variable {P:aiH} {r:aiG Nat} {n N0:Nat} {G:Gh} {w:aiJ} {a:Act} {s:St} {o:Oper} {Q:Exit→St→Prop}
theorem dk.mask(hs:dk G w a s){live:aiE Nat}{m:Nat}(h:s.yj live m):dk (G.cut m) w a (s.mask live m):=by
 obtain⟨h1,h2,h3⟩:=h;refine⟨hs.size,fun i=> ?_,IZ hs.inv h1 h3,hs.df⟩;show aL _ _ _ (bH (live.map fun k=>(k,(bH s.t k).bU m)) i);rw[nS (fun k=>(bH s.t k).bU m)];split
 ·rename_i hi
  exact((hs.tmp i).bU m).cut (aif.1 h2 i hi)
 ·exact .dead _
theorem MB{c:Code}{ι:Type}(live:aiE Nat)(m:Nat)(st:ι→St)(I:ι→Prop)(μ:ι→Nat)(i0:ι)(hm:N0≤m)(cE:s.yj live m)(h0:s.mask live m=st i0)(hI:I i0)
 (round:∀i,I i→bS P r N0 c (gQ (fun s'=>s'.yj live m∧∃i',s'.mask live m=st i'∧I i'∧μ i'<μ i) Q) (st i)):bS P r N0 (.loop c) Q s:=by
 constructor
 intro G w a n hs _;refine IX (fun(i:ι) a' w'=>∃G',I i∧cp N0 G w G' w'∧N0≤G'.N∧dk G' w' a' (st i)) μ i0 ⟨G.cut m,hI,nT _ _ _ _,hm,h0▸hs.mask cE⟩ ?_;rintro i a' w' ⟨G',hi,hE,hN,cY⟩;refine wpIn_mono ((round i hi).run G' w' a' n cY hN) fun e a1 w1 hn=> ?_;obtain⟨G1,s1,jG,gi,fc,hq⟩:=hn;cases e with
 |normal=>
  obtain⟨Zj,i',h1,h2,h3⟩:=hq;exact⟨i',⟨G1.cut m,h2,(hE.trans jG).trans (nT _ _ _ _),hm,h1▸fc.mask Zj⟩,h3⟩
 |_=>exact⟨G1,s1,hE.trans jG,gi,fc,hq⟩
def lY(P:aiH)(s:St):aiE ResultVar→(aiE AV→Prop)→Prop
 |[],C=>C []
 | .tmp t::l,C=>lY P s l fun xs=>C (bH s.t t::xs)
 | .cell p t::l,C=>mH P t s.h (bH s.t p) fun x=>lY P s l fun xs=>C (x::xs)
def jk:aiE AV→AV
 |[x]=>x
 |l=> .cb l
def py(P:aiH)(fn:Func)(m:Nat)(K:AV→aiE an→Prop)(s:St):Prop:=
 lY P s fn.results.toList fun l=>m≤s.h.length∧((jk l).bU m).bf m=true∧(((s.h.take m).map (an.bU m)).all (an.bf m))=true∧K ((jk l).bU m) ((s.h.take m).map (an.bU m))
def Iv(P:aiH)(fn:Func)(m:Nat)(K:AV→aiE an→Prop):Exit→St→Prop
 | .normal,s=>py P fn m K s
 | .ret,s=>py P fn m K s
 |_,_=>False
theorem XW{C:aiE AV→Prop}(hs:dk G w a s)(g:ResultVar→Sem aiI)(hg1:∀t,g (.tmp t)=pure (a.tmps.getD t undef))(vT:∀p t,g (.cell p t)=(do loadVar t (←asAddr (a.tmps.getD p undef)))):
 ∀(l:aiE ResultVar),lY P s l C→∃(vs:aiE aiI)(xs:aiE AV),(l.mapM g).run P w= .ok vs w∧vs.length=xs.length∧(∀(i:Nat)(u:aiI)(c:AV),vs[i]?=some u→xs[i]?=some c→aL G w u c)∧C xs:=by
 intro l
 induction l generalizing C with
 |nil=>exact fun h=>⟨[],[],by simp,rfl,fun i u c hu=>by simp at hu,h⟩
 |cons x l ih=>
  intro h;cases x with
  |tmp t=>
   obtain⟨vs,xs,h1,h2,h3,h4⟩:=ih h;refine⟨a.tmps.getD t undef::vs,bH s.t t::xs,by simp only[List.mapM_cons,hg1,Sem.run_bind,Sem.run_pure,Result.andThen_ok,h1],by simp [h2],fun i u c hu hc=> ?_,h4⟩
   match i with
   |0=>simp only[List.getElem?_cons_zero,Option.some.injEq]at hu hc;subst hu;subst hc;exact hs.tmp t
   |i+1=>exact h3 i u c (by simpa using hu) (by simpa using hc)
  |cell p t=>
   obtain⟨u0,x0,r1,r2,r3⟩:=Oc (P:=P) hs.inv (hs.tmp p) h;obtain⟨vs,xs,h1,h2,h3,h4⟩:=ih r3;have hv:=hs.tmp p;have e:∃ad,a.tmps.getD p undef= .pointer (some ad):=by
    have h':mH P t s.h (bH s.t p) fun x=>lY P s l fun xs=>C (x::xs):=h;generalize a.tmps.getD p undef=v at hv r1;generalize bH s.t p=y at hv h';cases hv with
    |ptr=>exact⟨_,rfl⟩
    |bt=>exact⟨_,rfl⟩
    |_=>exact(show False from h').elim
   obtain⟨ad,e⟩:=e;rw[e]at r1;have r1':(loadVar t ad).run P w= .ok u0 w:=by simpa [Instr.loadAt,Instr.sureAddr]using r1
   have ha:(asAddr (a.tmps.getD p undef)).run P w= .ok ad w:=by rw[e];rfl
   refine⟨u0::vs,x0::xs,by simp only[List.mapM_cons,vT,Sem.run_bind,Sem.run_pure,Result.andThen_ok,h1,ha,r1'],by simp [h2],fun i u c hu hc=> ?_,h4⟩
   match i with
   |0=>simp only[List.getElem?_cons_zero,Option.some.injEq]at hu hc;subst hu;subst hc;exact r2
   |i+1=>exact h3 i u c (by simpa using hu) (by simpa using hc)
theorem ahb:∀(vs:aiE aiI)(xs:aiE AV),vs.length=xs.length→(∀(i:Nat)(u:aiI)(c:AV),vs[i]?=some u→xs[i]?=some c→aL G w u c)→aL G w (if h:vs.toArray.size=1 then vs.toArray[0]else .tuple vs.toArray) (jk xs)
 |[v],[x],_,h=>h 0 v x rfl rfl
 |[],[],_,_=> .cb _ _ rfl fun i u c hu=>by simp at hu
 |v::u::vs,x::y::xs,hl,h=>by
  have:¬(v::u::vs).toArray.size=1:=by simp
  rw[dif_neg this];exact .cb _ _ (by simpa using hl) fun i p q hp hq=>h i p q (by simpa using hp) hq
 |[],_::_,hl,_=>by simp at hl
 |_::_,[],hl,_=>by simp at hl
 |[_],_::_::_,hl,_=>by simp at hl
 |_::_::_,[_],hl,_=>by simp at hl
theorem abV{fn:Func}{m:Nat}{K:AV→aiE an→Prop}(hs:dk G w a s)(h:py P fn m K s):∃v G' r h',(results fn a.tmps).run P w= .ok v w∧cp N0 G w G' w∧m≤G'.N∧cw G' w h'∧aL G' w v r∧K r h':=by
 obtain⟨g,hg⟩:∃g:ResultVar→Sem aiI,results fn a.tmps=(do let vs ←fn.results.mapM g;pure (if h:vs.size=1 then vs[0]else .tuple vs))∧(∀t,g (.tmp t)=pure (a.tmps.getD t undef))∧(∀p t,g (.cell p t)=(do loadVar t (←asAddr (a.tmps.getD p undef)))):=
  ⟨_,rfl,fun _=>rfl,fun _ _=>rfl⟩
 obtain⟨vs,xs,h1,h2,h3,h4,h5,h6,h7⟩:=XW hs g hg.2.1 hg.2.2 fn.results.toList h;have hr:(results fn a.tmps).run P w= .ok (if h:vs.toArray.size=1 then vs.toArray[0]else .tuple vs.toArray) w:=by
  rw[hg.1,Sem.run_bind,Array.mapM_eq_mapM_toList];have e:∀X:Sem (aiE aiI),(Functor.map List.toArray X:Sem _)=X>>=fun l=>pure l.toArray:=fun _=>rfl;rw[e,Sem.run_bind,h1];rfl
 have hv:=ahb vs xs h2 h3;exact⟨_,G.cut m,_,_,hr,nT _ _ _ _,ah0 _,IZ hs.inv h4 h6,(hv.bU m).cut h5,h7⟩
theorem Ah{f:FuncId}{fn:Func}{c:Code}{args:aiE AV}{h:aiE an}{K:AV→aiE an→Prop}(m:Nat)(hf:P.funcs[f]?=some fn)(hb:fn.body=some c)(hn:(fn.name== "runtime.NumGoroutine")=false)(hm:h.length≤m)
 (hw:bS P none h.length c (Iv P fn m K) {n:=args.length+(fn.ntmps-args.length),t:=kS 0 args,h:=h}):bY P f args h K:=by
 refine⟨by unfold Cr;rw[hf];simp [hb];simpa using hn,fun G w vs hi hl hr=> ?_⟩;refine callsIn_wide (n:=8).1 (callsIn_of_wp_marks (F:=Fence.wide) hf hb trivial ?_);have hs:dk {G with M:=w.heap.size} w {tmps:=vs++Array.replicate (fn.ntmps-vs.size) undef,defers:=[]} {n:=args.length+(fn.ntmps-args.length),t:=kS 0 args,h:=h}:=by
  refine⟨by simp [hl],fun i=> ?_,hi.zm G.Z _ (fun _ h=>h) (ah0 _),pJ.nil _ _⟩;show aL _ _ _ (bH (kS 0 args) i);rw[L9];simp only[Nat.zero_le,if_true,Nat.sub_zero];cases hx:args[i]? with
  |none=>exact .dead _
  |some x=>
   have aZ:i<vs.size:=by rw[hl];exact(ahP.1 hx).1
   have:(vs++Array.replicate (fn.ntmps-vs.size) undef).getD i undef=vs[i]:=by
    simp [Array.getElem?_append_left aZ,aib aZ]
   simp only[this,Option.getD_some];exact(hr i _ x (aib aZ) hx).zm G.Z _
 refine wpIn_mono (hw.run _ w _ 8 hs (by rw[hi.len];exact ah0 _)) fun e a' w' hn=> ?_;obtain⟨G1,s1,hE,gi,fc,hq⟩:=hn;have key:py P fn m K s1→LeavesInM Fence.wide 8 P fn a'.tmps (fun e w'=>∃v G' r h',e= .returned v∧cp G.N G w G' w'∧G.N≤G'.N∧cw G' w' h'∧aL G' w' v r∧K r h') a'.defers .returning w':=fun hq=>by
  obtain⟨w2,G2,k1,k2,k3,k4⟩:=Zq hE gi hi.z hi.gl.2 fc;obtain⟨v,G',r,h',r1,r2,r3,r4,r5,r6⟩:=abV (N0:=h.length) k4 hq;exact k1 _ _ _ _ _ ⟨v,r1,v,G',r,h',rfl,by rw[←hi.len];exact k2.trans r2,by rw[←hi.len];exact ah7 hm r3,r4,r5,r6⟩
 cases e with
 |normal=>exact key hq
 |ret=>exact key hq
 |_=>exact hq.elim
end
end Go.Proofs.YtphmhnabilhbgaaGreatDoor
namespace Go.Proofs.YtphmhnabilhbgaaGreatDoor
open Go.RowKit
section
variable {P:aiH} {r:aiG Nat} {N0:Nat} {s:St} {Q:Exit→St→Prop}
end
theorem bY.frame{P:aiH}{f:FuncId}{args:aiE AV}{K:AV→Prop}(hc:bY P f args [] fun r h=>h=[]∧K r)(ha:args.all (AV.bf 0)=true)(hK:∀r,K r→r.bf 0=true)(h:aiE an):
 bY P f args h fun r h'=>h'=h∧K r:=by
 refine⟨hc.1,fun G w vs hi hl hr=> ?_⟩;have qj:cw {G with N:=0,Z:=fun b=>b<w.heap.size} w []:=⟨rfl,fun b hb=>hb,hi.S,fun n B hB=>by simp at hB,fun m n b h1=>by simp [cA]at h1,hi.gl⟩;refine(hc.2 {G with N:=0,Z:=fun b=>b<w.heap.size} w vs qj hl fun i u c hu hx=> ?_).mono fun e w' hp=> ?_
 ·have:=(hr i u c hu hx).cut (aif.1 ha c (ah2 hx));clear hc;generalize hG:({G with N:=0,Z:=fun b=>b<w.heap.size}:Gh)=G0;have e:∀{v y},aL (G.cut 0) w v y→aL G0 w v y:=by
   intro v y hv;subst hG
   induction hv with
   |agg vs cs hl _ ih=>exact .agg vs cs hl ih
   |cb vs cs hl _ ih=>exact .cb vs cs hl ih
   |fn f vs cs hl _ ih=>exact .fn f vs cs hl ih
   |own n xs h hp hle hf=>exact absurd h (aii _)
   |ptr n off h=>exact absurd h (aii _)
   |row n off len cap k h hl hm=>exact absurd h (aii _)
   |mp n h=>exact absurd h (aii _)
   |dp n h=>exact absurd h (aii _)
   |vec n o len L k h=>exact absurd h (aii _)
   |dw n i j L k h=>exact absurd h (aii _)
   |hid h h1=>exact .hid h h1
   |d h=>exact .d h
   |bt xs i off b o u x hx hS hu=>exact .bt xs i off b o u x hx hS hu
   |full xs hp hf=>exact .full xs hp hf
   |dead u=>exact .dead u
  exact e this
 ·obtain⟨v,G',r,h',rfl,hE,hN,dT,hv,rfl,hk⟩:=hp;have ahH:G'.N=0:=dT.len.symm;have fX:∀b o,G'.S b o→G.S b o∨w.heap.size≤b:=fun b o hs=>(hE.new b o hs).imp id Nat.le_of_not_lt;have jR:cp G.N G w {G with S:=G'.S} w':=
   ⟨hE.size,hE.S,hE.cell,fun _ _=>rfl,fun _ _=> .inl ⟨rfl,rfl⟩,gB rfl,fun b hb=>hE.old b (hi.z b hb),hE.os,hE.tape,hE.output,fun b o hs=>(fX b o hs).imp id fun js hz=>by have:=hi.z b hz;omega⟩
  refine⟨v,{G with S:=G'.S},r,h,rfl,jR,ah0 _,⟨hi.len,fun b hb=>aid (hi.z b hb) hE.size,dT.S,fun n B hB=> ?_,fun m n b h1 h2=>hi.inj m n b h1 h2,hi.gl.bq jR⟩,?_,rfl,hk⟩
  ·refine eF.bq (hi.lt hB) jR (ah0 _) ⟨rfl,rfl,rfl⟩ (fun b hb=> ?_) (hi.dz n B hB);have aZ:=hi.iL (n:=n) (b:=b) ((dV hB).trans hb);refine⟨hE.old _ aZ,fun o kj hs=> ?_⟩;rcases fX _ o hs with hs|hs
   ·exact kj hs
   ·omega
  ·have hr:=hK r hk;clear hk jR
   induction hv with
   |agg vs cs hl _ ih=>
    rw[AV.bf,l5,aif]at hr;exact .agg vs cs hl fun i u c hu hc=>ih i u c hu hc (hr c (ah2 hc))
   |cb vs cs hl _ ih=>
    rw[AV.bf,l5,aif]at hr;exact .cb vs cs hl fun i u c hu hc=>ih i u c hu hc (hr c (ah2 hc))
   |fn f vs cs hl _ ih=>
    rw[AV.bf,l5,aif]at hr;exact .fn f vs cs hl fun i u c hu hc=>ih i u c hu hc (hr c (ah2 hc))
   |own n xs h hp hle hf=>simp [AV.bf,cN]at hr
   |ptr n off h=>simp [AV.bf,cN]at hr
   |row n off len cap k h hl hm=>simp [AV.bf,cN]at hr
   |mp n h=>simp [AV.bf,cN]at hr
   |dp n h=>simp [AV.bf,cN]at hr
   |vec n o len L k h=>simp [AV.bf,cN]at hr
   |dw n i j L k h=>simp [AV.bf,cN]at hr
   |hid h h1=>exact .hid h h1
   |d h=>exact .d h
   |bt xs i off b o u x hx hS hu=>exact .bt xs i off b o u x hx hS hu
   |full xs hp hf=>exact .full xs hp hf
   |dead u=>exact .dead u
def bg(P:aiH)(f:FuncId)(args:aiE AV)(K:AV→Prop):Prop:=bY P f args [] fun r h=>h=[]∧K r
theorem bg.use{P:aiH}{f:FuncId}{args:aiE AV}{r:AV}{h:aiE an}{C:AV→aiE an→Prop}(hc:bg P f args (·=r))(ha:args.all (AV.bf 0)=true)(hr:r.bf 0=true)(hC:C r h):bY P f args h C:=
 (hc.frame ha (fun _ e=>e▸hr) h).mono fun _ _ ⟨e1,e2⟩=>by subst e1;subst e2;exact hC
def YT:aiE FuncId:=[51,85,120,121,122]
def nO:Operand→Bool
 | .func g=>YT.any (·==g)
 |_=>false
def cV(o:Oper):Nat:=
 match o.op with
 | .move _| .assign _| .pick .. | .nilCheck _| .fieldAddr .. | .field .. | .indexAddr .. | .index .. | .build .. | .buildSlice .. | .slice .. | .extract .. | .makeFunc .. | .binOp .. | .unOp .. | .convert .. =>0
 | .load .. | .lookup .. =>1
 | .alloc _| .box .. =>2
 | .store .. | .makeMap .. | .mapUpdate .. =>3
 | .call c=>match c.callee with
   | .builtin .len| .builtin .max| .builtin .min=>0
   | .builtin .append=>5
   | .value f=>bif nO f then 6 else 4
   |_=>9
 |_=>9
def VW(P:aiH)(g:FuncId)(args:aiE AV)(h:aiE an)(C:AV→Prop):Prop:=∃r,C r∧∀e,bY P g args (h++e) fun r' h'=>r'=r∧h'=h++e
def Al(P:aiH)(o:Oper)(K:St→Prop)(s:St):Prop:=
 match o.op with
 | .call c=>match c.callee with
   | .value f=>match ev s f with
     | .fn g dO=>VW P g (c.args.toList.map (ev s)++dO) s.h fun r=>K (s.put o.dst r)
     | .hid q=>∃g cs,q= .fn g cs∧VW P g (c.args.toList.map (ev s)++cs.map gV.av) s.h fun r=>K (s.put o.dst r)
     |_=>False
   |_=>po P o K s
 |_=>po P o K s
def jf(o:Oper):Bool:=
 match o.op with
 | .indexAddr .. | .fieldAddr .. | .nilCheck .. | .load .. | .store .. =>true
 | .call c=>match c.callee with
   | .builtin .len=>true
   |_=>false
 |_=>false
def m8(m:Bool)(o:Oper):Bool:=m&&match o.op with
 | .call c=>match c.callee with
   | .value (.tmp _)=>true
   |_=>false
 |_=>false
def yP(m:Bool)(P:aiH)(o:Oper)(K:St→Prop)(s:St):Prop:=
 Al P o K s∨(m8 m o=true∧∃x h1,K ((s.wh h1).put o.dst x)∧∀C:AV→aiE an→Prop,C x h1→dc P o (ev s) s.h C)∨(jf o=true∧FM P o K s)∨(cV o=6∧∃x e0,K ((s.wh (s.h++e0)).put o.dst x)∧∀C:AV→aiE an→Prop,C x (s.h++e0)→dc P o (ev s) s.h C)
def iQ(P:aiH)(o:Oper)(ρ:Operand→AV)(h:aiE an)(C:AV→aiE an→Prop):Prop:=
 dc P o ρ h C∨(jf o=true∧∃a x h' p,ij P o.op ρ h a=some (x,h',p)∧p∧C x h')
def sZ(m:Bool)(P:aiH)(ops:Array Oper):aiE Oper→(St→Prop)→St→Prop
 |[],K,s=>K s
 |o::rest,K,s=>iO ops o s (yP m P o (sZ m P ops rest K) s) (sZ m P ops rest K (s.put o.dst (.d (.v undef))))
abbrev UH(P:aiH)(o:Oper)(K:St→Prop)(s:St):Prop:=yP false P o K s
abbrev Bj(P:aiH)(ops:Array Oper)(l:aiE Oper)(K:St→Prop)(s:St):Prop:=sZ false P ops l K s
section
variable {P:aiH} {o:Oper} {ρ ρ':Operand→AV} {h:aiE an} {C:AV→aiE an→Prop}
theorem L6(x:aiG Operand)(hx:∀y∈x.toArray,ρ y=ρ' y)(d:Nat)(F:Nat→Prop):jn ρ x d F=jn ρ' x d F:=by
 cases x with
 |none=>rfl
 |some y=>simp only[jn,hx y (by simp)]
theorem aej(hρ:∀x∈o.op.operands,ρ x=ρ' x):dc P o ρ h C=dc P o ρ' h C:=by
 obtain⟨dst,op,type,pos,after,guard⟩:=o;have O5:∀ps:Array (Nat×Operand),(∀x∈ps.map (·.2),ρ x=ρ' x)→(ps.toList.map fun p=>(p.1,ρ p.2))=(ps.toList.map fun p=>(p.1,ρ' p.2)):=fun ps hp=>
  ail fun p hm=>by rw[hp p.2 (Array.mem_map.2 ⟨p,Array.mem_toList_iff.1 hm,rfl⟩)]
 have fF:∀l:Array Operand,(∀x∈l,ρ x=ρ' x)→l.toList.map ρ=l.toList.map ρ':=fun l hl=>ail fun x hm=>hl x (Array.mem_toList_iff.1 hm);cases op with
 |build t ps=>simp only[dc,O5 ps fun x hx=>hρ x (by simpa [Op.operands]using hx)]
 |buildSlice t n ps=>simp only[dc,O5 ps fun x hx=>hρ x (by simpa [Op.operands]using hx)]
 |makeFunc fn first captured=>
  cases fn with
  |func f=>simp only[dc,fF captured fun x hx=>hρ x (by simp [Op.operands,hx])]
  |_=>rfl
 |slice t x lo hi mx=>
  have e1:ρ x=ρ' x:=hρ x (by simp [Op.operands]);have e2:=fun d F=>L6 (ρ:=ρ) (ρ':=ρ') lo (fun y hy=>hρ y (by simp at hy;simp [Op.operands,hy])) d F;have e3:=fun d F=>L6 (ρ:=ρ) (ρ':=ρ') hi (fun y hy=>hρ y (by simp at hy;simp [Op.operands,hy])) d F;have e4:=fun d F=>L6 (ρ:=ρ) (ρ':=ρ') mx (fun y hy=>hρ y (by simp at hy;simp [Op.operands,hy])) d F;cases lo<;>cases hi<;>cases mx<;>simp only[dc,sq,e1,e2,e3,e4]
 |call c=>
  have ha:c.args.toList.map ρ=c.args.toList.map ρ':=fF c.args fun x hx=>hρ x (by simp [Op.operands,Call.operands,hx]);have hm:∀x,x∈c.args.toList→ρ x=ρ' x:=fun x hx=>hρ x (by simp [Op.operands,Call.operands];right;exact Array.mem_toList_iff.1 hx);cases hc:c.callee with
  |value f=>
   have hf:ρ f=ρ' f:=hρ f (by simp [Op.operands,Call.operands,hc]);simp only[dc,hc,hf,ha]
  |invoke=>simp only[dc,hc]
  |builtin b=>
   cases b with
   |len=>
    simp only[dc,hc];split
    ·rename_i x _ heq _
     rw[hm x (by rw[heq];simp)]
    ·rfl
   |append=>
    simp only[dc,hc];split
    ·rename_i x y _ _ heq _
     rw[hm x (by rw[heq];simp),hm y (by rw[heq];simp)]
    ·rfl
   |max=>simp only[dc,hc,ha]
   |min=>simp only[dc,hc,ha]
   |_=>simp only[dc,hc]
 |makeMap t r=>cases r<;>rfl
 |lookup t a b ok=>simp only[dc,nt,hρ a (by simp [Op.operands]),hρ b (by simp [Op.operands])]
 |mapUpdate t a b c=>simp only[dc,nt,hρ a (by simp [Op.operands]),hρ b (by simp [Op.operands]),hρ c (by simp [Op.operands])]
 |pick c a b=>simp only[dc,hρ c (by simp [Op.operands]),hρ a (by simp [Op.operands]),hρ b (by simp [Op.operands])]
 |store t a b=>simp only[dc,hρ a (by simp [Op.operands]),hρ b (by simp [Op.operands])]
 |binOp op t a b u=>simp only[dc,hρ a (by simp [Op.operands]),hρ b (by simp [Op.operands])]
 |indexAddr t a b=>simp only[dc,hρ a (by simp [Op.operands]),hρ b (by simp [Op.operands])]
 |index t a b=>simp only[dc,hρ a (by simp [Op.operands]),hρ b (by simp [Op.operands])]
 |move a|assign a|box t a|load t a|nilCheck a|fieldAddr t a f|field t a f|extract a i|unOp op t a|convert t u a=>simp only[dc,hρ a (by simp [Op.operands])]
 |_=>rfl
theorem afT(hv:jf o=true)(hρ:∀x∈o.op.operands,ρ x=ρ' x)(a:VA):ij P o.op ρ h a=ij P o.op ρ' h a:=by
 obtain⟨dst,op,type,pos,after,guard⟩:=o;cases op with
 |store t a b=>simp only[ij,hρ a (by simp [Op.operands]),hρ b (by simp [Op.operands])]
 |indexAddr t a b=>simp only[ij,hρ a (by simp [Op.operands]),hρ b (by simp [Op.operands])]
 |load t a|nilCheck a|fieldAddr t a f=>simp only[ij,hρ a (by simp [Op.operands])]
 |call c=>
  have hm:∀x,x∈c.args.toList→ρ x=ρ' x:=fun x hx=>hρ x (by simp [Op.operands,Call.operands];right;exact Array.mem_toList_iff.1 hx);cases hc:c.callee with
  |builtin b=>
   cases b with
   |len=>
    simp only[ij,hc];split
    ·rename_i x _ heq _
     rw[hm x (by rw[heq];simp)]
    ·rfl
   |_=>simp [jf,hc]at hv
  |_=>simp [jf,hc]at hv
 |_=>simp [jf]at hv
theorem I7(hρ:∀x∈o.op.operands,ρ x=ρ' x):iQ P o ρ h C=iQ P o ρ' h C:=by
 unfold iQ;rw[aej hρ];by_cases hv:jf o=true
 ·simp only[afT hv hρ]
 ·simp only[hv,Bool.false_eq_true,false_and]
end
def afJ:an→Bool
 | .cells _| .map _| .vec .. =>true
 |_=>false
def l6:aiG an→aiG (Nat×Nat)
 |some (.vec _ k cs)=>some (k,cs.length)
 |_=>none
def ia(h h':aiE an):Prop:=∀(m:Nat)(q:Nat×Nat),l6 h[m]?=some q→l6 h'[m]?=some q
def hO(h h':aiE an):Prop:=∀m:Nat,l6 h[m]?=l6 h'[m]?
theorem hO.i{h h':aiE an}(e:hO h h'):ia h h':=fun m q hq=>by rw[←e m];exact hq
theorem hO.j{h h':aiE an}(e:hO h h'):ia h' h:=fun m q hq=>by rw[e m];exact hq
theorem ia.refl(h:aiE an):ia h h:=fun _ _ e=>e
theorem ia.trans{a b c:aiE an}(x:ia a b)(y:ia b c):ia a c:=fun m q e=>y m q (x m q e)
theorem ia.app(h e:aiE an):ia h (h++e):=fun m q hq=>by
 by_cases hl:m<h.length
 ·rw[ahZ hl];exact hq
 ·rw[aim (by omega)]at hq;cases hq
theorem hO.app{h:aiE an}{B:an}(hB:l6 (some B)=none):hO h (h++[B]):=fun m=>by
 by_cases hl:m<h.length
 ·rw[ahZ hl]
 ·rw[ah5 (by omega),aim (by omega:h.length≤m)];by_cases h0:m-h.length=0
  ·rw[h0];exact hB.symm
  ·rw[aim (by simp;omega)]
theorem hO.set{h:aiE an}{n:Nat}{B B':an}(hn:h[n]?=some B)(hB:l6 (some B)=l6 (some B')):hO h (h.set n B'):=fun m=>by
 by_cases e:n=m
 ·subst e;rw[aij (ahP.1 hn).1,hn];exact hB
 ·rw[aio e]
def CellsIn(h h':aiE an):Prop:=∀(n:Nat)(B:an),h[n]?=some B→afJ B=true→h'[n]?=some B
theorem CellsIn.app(h e:aiE an):CellsIn h (h++e):=fun n cs hn _=>by
 rw[ahZ (ahP.1 hn).1];exact hn
theorem CellsIn.refl(h:aiE an):CellsIn h h:=fun _ _ hn _=>hn
theorem aeM{P:aiH}{ρ:Operand→AV}{h h1:aiE an}{T:TypeId}{m i:Operand}{ok:Bool}{x:AV}{p:Sd}(hx:nt P (.lookup T m i ok) ρ h=some (x,h1,p)):h1=h∧∀h',CellsIn h h'→nt P (.lookup T m i ok) ρ h'=some (x,h',p):=by
 simp only[nt]at hx ⊢;split at hx
 ·next k e hT=>
  split at hx
  ·next z hz=>
   split at hx
   ·next b s' hm hi=>
    split at hx
    ·next kv hn=>
     cases hc:gK P k&&z.oneCell' with
     |false=>rw[hc]at hx;cases hx
     |true=>
      rw[hc]at hx;cases hx
      refine⟨rfl,fun h' hh=> ?_⟩;rw[hh b _ hn rfl];simp only[cond_true]
    ·cases hx
   ·cases hx
  ·cases hx
 ·cases hx
theorem Wa{h:aiE an}{n e k:Nat}{cs:aiE (aiE AV)}(hn:h[n]?=some (.vec e k cs)):l6 h[n]?=some (k,cs.length):=by rw[hn];rfl
theorem RF{h:aiE an}{n k l:Nat}(hq:l6 h[n]?=some (k,l)):∃e cs,h[n]?=some (.vec e k cs)∧cs.length=l:=by
 unfold l6 at hq;split at hq
 ·next e k' cs e1=>cases hq;exact⟨e,cs,e1,rfl⟩
 ·cases hq
theorem W0{P:aiH}{o:Oper}{ρ:Operand→AV}{h h1:aiE an}{a:VA}{x:AV}{p:Prop}(hv:jf o=true)(hk:cV o=0)(hx:ij P o.op ρ h a=some (x,h1,p))(hp:p):h1=h∧∀h',ia h h'→∃p',ij P o.op ρ h' a=some (x,h',p')∧p':=by
 obtain⟨dst,op,type,pos,after,guard⟩:=o;cases op with
 |indexAddr T y i=>
  simp only[ij]at hx ⊢;split at hx
  ·next n o len L k z e k' i' e1 e2 e3=>
   split at hx
   ·next e4 k2 cs hn=>
    obtain⟨hb,he⟩:=lv hx;cases he
    rw[ahR,beq_iff_eq,beq_iff_eq]at hb;obtain⟨rfl,rfl⟩:=hb;refine⟨rfl,fun h' hh=> ?_⟩;obtain⟨e5,cs5,q1,q2⟩:=RF (hh n _ (Wa hn));simp only[q1,aiz,Bool.and_self,cond_true];exact⟨_,rfl,by rw[q2];exact hp.1,hp.2⟩
   ·cases hx
  ·cases hx
 |fieldAddr T y f=>
  simp only[ij]at hx ⊢;split at hx
  ·next e1 e2=>cases hx;exact⟨rfl,fun h' _=>⟨_,rfl,trivial⟩⟩
  ·cases hx
 |nilCheck y=>
  simp only[ij]at hx ⊢;split at hx
  ·next e1=>cases hx;exact⟨rfl,fun h' _=>⟨_,rfl,trivial⟩⟩
  ·cases hx
 |call c=>
  cases hc:c.callee with
  |builtin b=>
   cases b with
   |len=>
    simp only[ij,hc]at hx ⊢;split at hx
    ·split at hx
     ·next n o len L k e1=>
      split at hx
      ·next e2 k2 cs hn=>
       obtain⟨hb,he⟩:=lv hx;cases he
       rw[ahR,beq_iff_eq]at hb;obtain⟨jo,rfl⟩:=hb;refine⟨rfl,fun h' hh=> ?_⟩;obtain⟨e5,cs5,q1,q2⟩:=RF (hh n _ (Wa hn));simp only[q1,jo,aiz,Bool.and_self,cond_true];exact⟨_,rfl,by rw[q2];exact hp⟩
      ·cases hx
     ·cases hx
    ·cases hx
   |_=>simp [jf,hc]at hv
  |_=>simp [jf,hc]at hv
 |load t y=>simp [cV]at hk
 |store t y z=>simp [cV]at hk
 |_=>simp [jf]at hv
theorem abW{P:aiH}{o:Oper}{ρ:Operand→AV}{h h1:aiE an}{a:VA}{x:AV}{p:Prop}(hv:jf o=true)(hk:cV o=1)(hx:ij P o.op ρ h a=some (x,h1,p))(hp:p):h1=h∧∀h',CellsIn h h'→∃p',ij P o.op ρ h' a=some (x,h',p')∧p':=by
 obtain⟨dst,op,type,pos,after,guard⟩:=o;cases op with
 |load t y=>
  simp only[ij]at hx ⊢;split at hx
  ·next n i j L k c e1=>
   split at hx
   ·next e2 k' cs z hn hz=>
    obtain⟨hb,he⟩:=lv hx;cases he
    refine⟨rfl,fun h' hh=> ?_⟩;simp only[hh n _ hn rfl,hz,hb,cond_true];exact⟨_,rfl,hp⟩
   ·cases hx
  ·cases hx
 |indexAddr T y i=>simp [cV]at hk
 |fieldAddr T y f=>simp [cV]at hk
 |nilCheck y=>simp [cV]at hk
 |call c=>
  cases hc:c.callee with
  |builtin b=>cases b<;>simp [cV,hc]at hk
  |value f=>cases lx:nO f<;>simp [cV,hc,lx]at hk
  |invoke=>simp [cV,hc]at hk
 |store t y z=>simp [cV]at hk
 |_=>simp [jf]at hv
theorem agR{P:aiH}{o:Oper}{ρ:Operand→AV}{h h1:aiE an}{a:VA}{x:AV}{p:Prop}(hv:jf o=true)(hk:cV o=3)(hx:ij P o.op ρ h a=some (x,h1,p))(hp:p):hO h h1:=by
 obtain⟨dst,op,type,pos,after,guard⟩:=o;cases op with
 |store t y z=>
  simp only[ij]at hx;split at hx
  ·next n i j L k c cB e1=>
   split at hx
   ·next e k' cs q hn hz=>
    obtain⟨hb,he⟩:=lv hx;cases he
    simp only[ahR,beq_iff_eq]at hb;refine hO.set hn ?_;simp only[l6,List.length_set,hp.2.2,hb.1.1.1.1]
   ·cases hx
  ·cases hx
 |load t y=>simp [cV]at hk
 |indexAddr T y i=>simp [cV]at hk
 |fieldAddr T y f=>simp [cV]at hk
 |nilCheck y=>simp [cV]at hk
 |call c=>
  cases hc:c.callee with
  |builtin b=>cases b<;>simp [cV,hc]at hk
  |value f=>cases lx:nO f<;>simp [cV,hc,lx]at hk
  |invoke=>simp [cV,hc]at hk
 |_=>simp [jf]at hv
def l8(m:Bool)(o:Oper):Nat:=bif m8 m o then 7 else cV o
def eM(m:Bool)(P:aiH)(o:Oper)(ρ:Operand→AV)(h:aiE an)(x:AV)(h1:aiE an):Prop:=
 match l8 m o with
 |0=>h1=h∧∀h',ia h h'→∀C:AV→aiE an→Prop,C x h'→iQ P o ρ h' C
 |1=>h1=h∧∀h',CellsIn h h'→∀C:AV→aiE an→Prop,C x h'→iQ P o ρ h' C
 |2=>∃B,l6 (some B)=none∧x= .ptr h.length 0∧h1=h++[B]∧∀h'(C:AV→aiE an→Prop),C (.ptr h'.length 0) (h'++[B])→iQ P o ρ h' C
 |3=>hO h h1∧∀C:AV→aiE an→Prop,C x h1→iQ P o ρ h C
 |4=>h1=h∧∀e(C:AV→aiE an→Prop),C x (h++e)→iQ P o ρ (h++e) C
 |5=>(CellsIn h h1∧CellsIn h1 h∧hO h h1)∧∀C:AV→aiE an→Prop,C x h1→iQ P o ρ h C
 |6=>∃e0,h1=h++e0∧∀C:AV→aiE an→Prop,C x h1→iQ P o ρ h C
 |7=>∀C:AV→aiE an→Prop,C x h1→iQ P o ρ h C
 |_=>False
section
variable {P:aiH} {o:Oper} {ρ ρ':Operand→AV} {h:aiE an} {C:AV→aiE an→Prop}
theorem acE{p:AV}{K:aiE AV→Nat→Prop}(hp:qx h p K):∃cs off,K cs off∧∀h',CellsIn h h'→∀K':aiE AV→Nat→Prop,K' cs off→qx h' p K':=by
 unfold qx at hp ⊢;split at hp
 ·rename_i n off
  split at hp
  ·rename_i cs fP
   refine⟨cs,off,hp,fun h' hh K' hk=> ?_⟩;rw[hh n _ fP rfl];exact hk
  ·exact hp.elim
 ·rename_i xs i off
  split at hp
  ·rename_i cs fP
   refine⟨_,off,hp,fun h' _ K' hk=> ?_⟩;exact hk
  ·exact hp.elim
 ·exact hp.elim
theorem agU{t:Nat}{p:AV}{K:AV→Prop}(hp:mH P t h p K):∃x,K x∧∀h',CellsIn h h'→∀K':AV→Prop,K' x→mH P t h' p K':=by
 unfold mH at hp ⊢;obtain⟨cs,off,h1,h2⟩:=acE hp;split at h1
 ·rw[cr]at h1;refine⟨_,h1.2,fun h' hh K' k9=>h2 h' hh _ ?_⟩;exact cr.2 ⟨h1.1,k9⟩
 ·split at h1
  ·rename_i c hc
   refine⟨c,h1,fun h' hh K' k9=>h2 h' hh _ ?_⟩;simp only[hc];exact k9
  ·exact h1.elim
 ·exact h1.elim
theorem sF{x:aiG Operand}{d:Nat}{F:Nat→Prop}(hx:jn ρ x d F):∃m,F m∧∀F':Nat→Prop,F' m→jn ρ x d F':=by
 cases x with
 |none=>exact⟨d,hx,fun _ h=>h⟩
 |some y=>
  simp only[jn]at hx;split at hx
  ·rename_i z hz
   exact⟨_,hx.2,fun F' J=>by simp only[jn,hz];exact⟨hx.1,J⟩⟩
  ·exact hx.elim
theorem acj(hk:cV o=0)(hc:dc P o ρ h C):∃x,C x h∧∀h'(C':AV→aiE an→Prop),C' x h'→dc P o ρ h' C':=by
 have sU:∀(F:(AV→Prop)→Prop),(∀K,F K→∃x,K x∧∀K',K' x→F K')→F (fun x=>C x h)→(∀h' C',dc P o ρ h' C'=F (fun x=>C' x h'))→∃x,C x h∧∀h'(C':AV→aiE an→Prop),C' x h'→dc P o ρ h' C':=fun F J h0 he=>by
  obtain⟨x,h1,h2⟩:=J _ h0;exact⟨x,h1,fun h' C' dD=>by rw[he];exact h2 _ dD⟩
 obtain⟨dst,op,type,pos,after,guard⟩:=o;cases op with
 |move a=>exact⟨ρ a,hc,fun _ _ h=>h⟩
 |assign a=>exact⟨ρ a,hc,fun _ _ h=>h⟩
 |pick c a b=>
  simp only[dc]at hc;split at hc
  ·rename_i t ht
   cases t with
   |true=>exact⟨ρ a,hc.1 rfl,fun h' C' dD=>by simp only[dc,ht];exact⟨fun _=>dD,fun e=>by cases e⟩⟩
   |false=>exact⟨ρ b,hc.2 rfl,fun h' C' dD=>by simp only[dc,ht];exact⟨fun e=>(by cases e),fun _=>dD⟩⟩
  ·exact hc.elim
 |nilCheck a=>
  simp only[dc]at hc;split at hc
  ·rename_i m off e;exact⟨_,hc,fun h' C' dD=>by simp only[dc,e];exact dD⟩
  ·rename_i xs i off e;exact⟨_,hc,fun h' C' dD=>by simp only[dc,e];exact dD⟩
  ·rename_i f cs e;exact⟨_,hc,fun h' C' dD=>by simp only[dc,e];exact dD⟩
  ·exact hc.elim
 |fieldAddr t a f=>
  simp only[dc]at hc;split at hc
  ·rename_i fo k g hf
   split at hc
   ·rename_i m off e;exact⟨_,hc,fun h' C' dD=>by simp only[dc,hf,e];exact dD⟩
   ·rename_i xs i off e;exact⟨_,hc,fun h' C' dD=>by simp only[dc,hf,e];exact dD⟩
   ·exact hc.elim
  ·exact hc.elim
 |field t a f=>
  refine sU (wR P t (ρ a) f) (fun K hK=> ?_) hc (fun _ _=>rfl);unfold wR at hK ⊢;split at hK
  ·rw[cr]at hK;exact⟨_,hK.2,fun K' er=>cr.2 ⟨hK.1,er⟩⟩
  ·split at hK
   ·rename_i c jC;exact⟨c,hK,fun K' er=>er⟩
   ·exact hK.elim
  ·exact hK.elim
 |indexAddr t a b=>
  refine sU (p5 P t (ρ a) (ρ b)) (fun K hK=> ?_) hc (fun _ _=>rfl);unfold p5 at hK ⊢;split at hK
  ·rename_i e k hT
   split at hK
   ·rename_i n off len cap k'
    split at hK
    ·rename_i z hz
     rw[cr]at hK;obtain⟨h1,h2,h3,h4⟩:=hK;exact⟨_,h4,fun K' er=>cr.2 ⟨h1,h2,h3,er⟩⟩
    ·exact hK.elim
   ·split at hK
    ·rename_i xs z kN hz
     obtain⟨h0,hK⟩:=hK;split at hK
     ·rename_i c jC
      exact⟨_,hK.2,fun K' er=>⟨h0,hK.1,er⟩⟩
     ·exact hK.elim
    ·exact hK.elim
  ·split at hK
   ·rename_i n e k b' off z hT hz
    obtain⟨h1,h2,h3⟩:=hK;exact⟨_,h3,fun K' er=>⟨h1,h2,er⟩⟩
   ·rename_i n e k xs i' off z hT hz
    rw[cr]at hK;obtain⟨h0,h1,h2,h3⟩:=hK;split at h3
    ·rename_i c jC
     split at h3
     ·rename_i d hd
      exact⟨_,h3,fun K' er=>cr.2 ⟨h0,h1,h2,er⟩⟩
     ·exact h3.elim
    ·exact h3.elim
   ·exact hK.elim
 |index t a b=>
  simp only[dc]at hc;split at hc
  ·rename_i bb z e1 e2
   rw[cr]at hc;obtain⟨h1,h2,h3⟩:=hc;split at h3
   ·rename_i c jC
    exact⟨_,h3,fun h' C' dD=>by simp only[dc,e1,e2];exact cr.2 ⟨h1,h2,by simp only[jC];exact dD⟩⟩
   ·exact h3.elim
  ·exact hc.elim
 |build t ps=>
  refine sU (vR P t (ps.toList.map fun p:Nat×Operand=>(p.1,ρ p.2))) (fun K hK=> ?_) hc (fun _ _=>rfl);unfold vR at hK ⊢;split at hK
  ·split at hK
   ·rename_i cs fP
    rw[cr]at hK;exact⟨_,hK.2,fun K' er=>cr.2 ⟨hK.1,er⟩⟩
   ·exact hK.elim
  ·exact hK.elim
 |buildSlice t n ps=>
  refine sU (vE P t n (ps.toList.map fun p:Nat×Operand=>(p.1,ρ p.2))) (fun K hK=> ?_) hc (fun _ _=>rfl);unfold vE at hK ⊢;split at hK
  ·split at hK
   ·split at hK
    ·rename_i cs fP
     split at hK
     ·rename_i ds tO
      rw[cr]at hK;exact⟨_,hK.2,fun K' er=>cr.2 ⟨hK.1,er⟩⟩
     ·exact hK.elim
    ·exact hK.elim
   ·exact hK.elim
  ·exact hK.elim
 |slice t a lo hi mx=>
  refine sU (sq P t ρ (ρ a) lo hi mx) (fun K hK=> ?_) hc (fun _ _=>rfl);unfold sq at hK ⊢;split at hK
  ·split at hK
   ·rw[cr]at hK;obtain⟨h0,hK⟩:=hK;obtain⟨m1,hK,j1⟩:=sF hK;obtain⟨h1,hK⟩:=hK;obtain⟨m2,hK,j2⟩:=sF hK;obtain⟨h2,hK⟩:=hK;exact⟨_,hK,fun K' er=>cr.2 ⟨h0,j1 _ ⟨h1,j2 _ ⟨h2,er⟩⟩⟩⟩
   ·split at hK
    ·rw[cr]at hK;obtain⟨h0,hK⟩:=hK;obtain⟨m1,hK,j1⟩:=sF hK;rw[cr]at hK;obtain⟨h1,hK⟩:=hK;obtain⟨m2,hK,j2⟩:=sF hK;rw[cr]at hK;obtain⟨h2,hK⟩:=hK;exact⟨_,hK,fun K' er=>by rw[cr];exact⟨h0,j1 _ (by rw[cr];exact⟨h1,j2 _ (by rw[cr];exact⟨h2,er⟩)⟩)⟩⟩
    ·exact hK.elim
   ·split at hK
    ·obtain⟨h0,hK⟩:=hK;obtain⟨m1,hK,j1⟩:=sF hK;obtain⟨h1,hK⟩:=hK;obtain⟨m2,hK,j2⟩:=sF hK;obtain⟨h2,hK⟩:=hK;exact⟨_,hK,fun K' er=>⟨h0,j1 _ ⟨h1,j2 _ ⟨h2,er⟩⟩⟩⟩
    ·exact hK.elim
  ·split at hK
   ·split at hK
    ·obtain⟨h0,hK⟩:=hK;obtain⟨m1,hK,j1⟩:=sF hK;obtain⟨h1,hK⟩:=hK;obtain⟨m2,hK,j2⟩:=sF hK;obtain⟨h2,hK⟩:=hK;exact⟨_,hK,fun K' er=>⟨h0,j1 _ ⟨h1,j2 _ ⟨h2,er⟩⟩⟩⟩
    ·exact hK.elim
   ·exact hK.elim
 |extract a i=>
  simp only[dc]at hc;split at hc
  ·rename_i cs e
   split at hc
   ·rename_i c jC;exact⟨c,hc,fun h' C' dD=>by simp only[dc,e,jC];exact dD⟩
   ·exact hc.elim
  ·exact hc.elim
 |makeFunc fn first dO=>
  cases fn with
  |func f=>
   simp only[dc]at hc;split at hc
   ·rename_i e;exact⟨_,hc,fun h' C' dD=>by simp only[dc,e];exact dD⟩
   ·exact hc.elim
  |_=>exact hc.elim
 |binOp op t a b u=>
  refine sU (wq P t op (ρ a) (ρ b)) (fun K hK=> ?_) hc (fun _ _=>rfl);unfold wq at hK ⊢;split at hK
  ·split at hK
   ·rw[cr]at hK;exact⟨_,hK.2.2,fun K' er=>cr.2 ⟨hK.1,hK.2.1,er⟩⟩
   ·split at hK
    ·exact⟨_,hK.2,fun K' er=>⟨hK.1,er⟩⟩
    ·split at hK
     ·rw[cr]at hK;exact⟨_,hK.2,fun K' er=>cr.2 ⟨hK.1,er⟩⟩
     ·exact hK.elim
  ·split at hK
   ·exact⟨_,hK,fun K' er=>er⟩
   ·split at hK
    ·exact⟨_,hK.2,fun K' er=>⟨hK.1,er⟩⟩
    ·exact hK.elim
  ·split at hK
   ·rw[cr]at hK;exact⟨_,hK.2,fun K' er=>cr.2 ⟨hK.1,er⟩⟩
   ·exact hK.elim
  ·split at hK
   ·split at hK
    ·exact⟨_,hK,fun K' er=>er⟩
    ·exact hK.elim
   ·exact hK.elim
  ·exact hK.elim
 |unOp op t a=>
  refine sU (xr op (ρ a)) (fun K hK=> ?_) hc (fun _ _=>rfl);unfold xr at hK ⊢;split at hK
  ·split at hK
   ·exact⟨_,hK,fun K' er=>er⟩
   ·exact hK.elim
  ·exact hK.elim
 |convert t u a=>
  refine sU (xG P t u (ρ a)) (fun K hK=> ?_) hc (fun _ _=>rfl);unfold xG at hK ⊢;split at hK
  ·split at hK
   ·exact⟨_,hK,fun K' er=>er⟩
   ·exact hK.elim
  ·rw[cr]at hK;exact⟨_,hK.2,fun K' er=>cr.2 ⟨hK.1,er⟩⟩
  ·split at hK
   ·rw[cr]at hK;obtain⟨h1,ns,h2,h3⟩:=hK;exact⟨_,h3,fun K' er=>cr.2 ⟨h1,ns,h2,er⟩⟩
   ·exact hK.elim
 |call c=>
  simp only[cV]at hk;cases eX:c.callee with
  |value f=>cases lx:nO f<;>simp [eX,lx]at hk
  |invoke=>simp [eX]at hk
  |builtin b=>
   cases b with
   |len=>
    simp only[dc,eX]at hc;split at hc
    ·rename_i x T e1 e2
     have key:∀F:Nat→Prop,qD P T (ρ x) F→∃m,F m∧∀F':Nat→Prop,F' m→qD P T (ρ x) F':=fun F J=>by
      unfold qD at J ⊢;split at J
      ·rw[cr]at J;exact⟨_,J.2,fun F' ky=>cr.2 ⟨J.1,ky⟩⟩
      ·rw[cr]at J;exact⟨_,J.2,fun F' ky=>cr.2 ⟨J.1,ky⟩⟩
      ·split at J
       ·rw[cr]at J;exact⟨_,J.2,fun F' ky=>cr.2 ⟨J.1,ky⟩⟩
       ·exact J.elim
     obtain⟨m,h1,h2⟩:=key _ hc;exact⟨_,h1,fun h' C' dD=>by simp only[dc,eX,e1,e2];exact h2 _ dD⟩
    ·exact hc.elim
   |max=>
    simp only[dc,eX]at hc;split at hc
    ·rename_i e1
     exact⟨_,hc,fun h' C' dD=>by simp only[dc,eX,e1];exact dD⟩
    ·exact hc.elim
   |min=>
    simp only[dc,eX]at hc;split at hc
    ·rename_i e1
     exact⟨_,hc,fun h' C' dD=>by simp only[dc,eX,e1];exact dD⟩
    ·exact hc.elim
   |_=>simp [eX]at hk
 |_=>simp [cV]at hk
theorem ae4(hk:cV o=2)(hc:dc P o ρ h C):∃B,l6 (some B)=none∧C (.ptr h.length 0) (h++[B])∧∀h'(C':AV→aiE an→Prop),C' (.ptr h'.length 0) (h'++[B])→dc P o ρ h' C':=by
 obtain⟨dst,op,type,pos,after,guard⟩:=o;cases op with
 |alloc e=>
  simp only[dc]at hc;split at hc
  ·rename_i z hz;exact⟨_,rfl,hc,fun h' C' dD=>by simp only[dc,hz];exact dD⟩
  ·exact hc.elim
 |box e x=>
  simp only[dc]at hc;rw[cr]at hc;exact⟨_,rfl,hc.2,fun h' C' dD=>by simp only[dc];rw[cr];exact⟨hc.1,dD⟩⟩
 |call c=>
  simp only[cV]at hk;cases eX:c.callee with
  |value f=>cases lx:nO f<;>simp [eX,lx]at hk
  |invoke=>simp [eX]at hk
  |builtin b=>cases b<;>simp [eX]at hk
 |_=>simp [cV]at hk
theorem abT(hk:cV o=3)(hc:dc P o ρ h C):∃x h1,C x h1∧hO h h1∧∀C':AV→aiE an→Prop,C' x h1→dc P o ρ h C':=by
 obtain⟨dst,op,type,pos,after,guard⟩:=o;cases op with
 |store t a b=>
  simp only[dc]at hc;have key:∀F:aiE an→Prop,vB P t h (ρ a) (ρ b) F→∃h1,F h1∧hO h h1∧∀F':aiE an→Prop,F' h1→vB P t h (ρ a) (ρ b) F':=fun F J=>by
   unfold vB at J ⊢;split at J
   ·split at J
    ·next hn=>
     split at J
     ·rw[cr]at J;exact⟨_,J.2,hO.set hn rfl,fun F' ky=>cr.2 ⟨J.1,ky⟩⟩
     ·exact J.elim
    ·exact J.elim
   ·exact J.elim
  obtain⟨h1,k1,kv,k2⟩:=key _ hc;exact⟨_,h1,k1,kv,fun C' dD=>by simp only[dc];exact k2 _ dD⟩
 |makeMap t r=>
  simp only[dc]at hc;split at hc
  ·rename_i x h' p hx
   refine⟨x,h',hc.2,?_,fun C' dD=>by simp only[dc,hx];exact⟨hc.1,dD⟩⟩;unfold nt at hx;cases r with
   |none=>
    simp only at hx;split at hx
    ·cases hx;exact hO.app rfl
    ·cases hx
   |some r=>cases hx
  ·exact hc.elim
 |mapUpdate t a b c=>
  simp only[dc]at hc;split at hc
  ·rename_i x h' p hx
   refine⟨x,h',hc.2,?_,fun C' dD=>by simp only[dc,hx];exact⟨hc.1,dD⟩⟩;unfold nt at hx;simp only at hx;split at hx
   ·split at hx
    ·split at hx
     ·next hn=>
      obtain⟨hb,he⟩:=lv hx;cases he
      exact hO.set hn rfl
     ·cases hx
    ·cases hx
   ·cases hx
  ·exact hc.elim
 |call c=>
  simp only[cV]at hk;cases eX:c.callee with
  |value f=>cases lx:nO f<;>simp [eX,lx]at hk
  |invoke=>simp [eX]at hk
  |builtin b=>cases b<;>simp [eX]at hk
 |_=>simp [cV]at hk
theorem Sg{n:Nat}{e:TypeId}{k l e' k' l':Nat}(hn:h[n]?=some (.front e' k' l')):CellsIn h (h.set n (.front e k l))∧CellsIn (h.set n (.front e k l)) h:=by
 refine⟨fun m cs hm hc=> ?_,fun m cs hm hc=> ?_⟩
 ·have:n≠m:=fun e=>by subst e;rw[hn]at hm;cases hm;cases hc
  rw[aio this];exact hm
 ·by_cases e:n=m
  ·subst e;rw[aij (ahP.1 hn).1]at hm;cases hm;cases hc
  ·rw[aio e]at hm;exact hm
theorem FB{e:TypeId}{k l:Nat}:CellsIn h (h++[.front e k l])∧CellsIn (h++[.front e k l]) h:=by
 refine⟨CellsIn.app _ _,fun m cs hm hc=> ?_⟩;by_cases hl:m<h.length
 ·rw[ahZ hl]at hm;exact hm
 ·rw[ah5 (by omega)]at hm;by_cases h0:m-h.length=0
  ·rw[h0]at hm;cases hm;cases hc
  ·rw[aim (by simp;omega)]at hm;cases hm
theorem ahk(hk:cV o=5)(hc:dc P o ρ h C):∃x h1,C x h1∧(CellsIn h h1∧CellsIn h1 h∧hO h h1)∧∀C':AV→aiE an→Prop,C' x h1→dc P o ρ h C':=by
 obtain⟨dst,op,type,pos,after,guard⟩:=o;cases op with
 |call c=>
  simp only[cV]at hk;cases eX:c.callee with
  |value f=>cases lx:nO f<;>simp [eX,lx]at hk
  |invoke=>simp [eX]at hk
  |builtin b=>
   cases b with
   |append=>
    simp only[dc,eX]at hc;split at hc
    ·rename_i x y T U e1 e2
     rw[cr]at hc;have aaL:∀(k:Nat)(y:AV)(F:aiE (aiE D)→Prop),s5 h k y F→∃ys,F ys∧∀F':aiE (aiE D)→Prop,F' ys→s5 h k y F':=fun k y F J=>by
       unfold s5 at J ⊢;split at J
       ·split at J
        ·split at J
         ·rw[cr]at J;exact⟨_,J.2,fun F' ky=>cr.2 ⟨J.1,ky⟩⟩
         ·exact J.elim
        ·exact J.elim
       ·split at J
        ·exact⟨_,J.2,fun F' ky=>⟨J.1,ky⟩⟩
        ·exact J.elim
     have key:∀F:AV→aiE an→Prop,tL P T h (ρ x) (ρ y) F→∃v h1,F v h1∧(CellsIn h h1∧CellsIn h1 h∧hO h h1)∧∀F':AV→aiE an→Prop,F' v h1→tL P T h (ρ x) (ρ y) F':=fun F J=>by
      unfold tL at J ⊢;split at J
      ·split at J
       ·rw[cr]at J;obtain⟨h0,J⟩:=J;obtain⟨ys,J,hs⟩:=aaL _ _ _ J;split at J
        ·split at J
         ·rename_i hn
          rw[cr]at J;obtain⟨g1,g2,g3,g4,g5,g6⟩:=J;exact⟨_,_,g6,⟨(Sg hn).1,(Sg hn).2,hO.set hn rfl⟩,fun F' ky=>cr.2 ⟨h0,hs _ (cr.2 ⟨g1,g2,g3,g4,g5,ky⟩)⟩⟩
         ·exact J.elim
        ·obtain⟨g4,g5,g6⟩:=J;exact⟨_,_,g6,⟨FB.1,FB.2,hO.app rfl⟩,fun F' ky=>cr.2 ⟨h0,hs _ ⟨g4,g5,ky⟩⟩⟩
        ·obtain⟨g3,g4,g5,g6⟩:=J;exact⟨_,_,g6,⟨FB.1,FB.2,hO.app rfl⟩,fun F' ky=>cr.2 ⟨h0,hs _ ⟨g3,g4,g5,ky⟩⟩⟩
        ·exact J.elim
       ·exact J.elim
      ·exact J.elim
     obtain⟨v,h1,k1,c1,k2⟩:=key _ hc.2;exact⟨v,h1,k1,c1,fun C' dD=>by simp only[dc,eX,e1,e2];rw[cr];exact⟨hc.1,k2 _ dD⟩⟩
    ·exact hc.elim
   |_=>simp [eX]at hk
 |_=>simp [cV]at hk
theorem QB{m:Bool}(hlo:m8 m o=false){s:St}{K:St→Prop}(hd:Al P o K s):∃x h1,eM m P o (ev s) s.h x h1∧K ((s.wh h1).put o.dst x):=by
 have km:l8 m o=cV o:=by unfold l8;rw[hlo];rfl
 have plain:po P o K s→cV o≠4→cV o≠6→∃x h1,eM m P o (ev s) s.h x h1∧K ((s.wh h1).put o.dst x):=fun ha U3 Dp=>by
  unfold po at ha;by_cases h0:cV o=0
  ·obtain⟨x,h1,h2⟩:=acj h0 ha;exact⟨x,s.h,by unfold eM;rw[km,h0];exact⟨rfl,fun h' _ C' dD=> .inl (h2 h' C' dD)⟩,h1⟩
  ·by_cases h1:cV o=1
   ·obtain⟨dst,op,type,pos,after,guard⟩:=o;cases op with
    |load t a=>
     simp only[dc]at ha;obtain⟨x,k1,k2⟩:=agU ha;exact⟨x,s.h,by unfold eM;rw[km,h1];exact⟨rfl,fun h' hh C' dD=> .inl (by simp only[dc];exact k2 h' hh _ dD)⟩,k1⟩
    |lookup t a b ok=>
     simp only[dc]at ha;split at ha
     ·rename_i x h' p hx
      obtain⟨rfl,k2⟩:=aeM hx;exact⟨x,s.h,by unfold eM;rw[km,h1];exact⟨rfl,fun h' hh C' dD=> .inl (by simp only[dc,k2 h' hh];exact⟨ha.1,dD⟩)⟩,ha.2⟩
     ·exact ha.elim
    |call c=>
     simp only[cV]at h1;cases eX:c.callee with
     |value f=>cases lx:nO f<;>simp [eX,lx]at h1
     |invoke=>simp [eX]at h1
     |builtin b=>cases b<;>simp [eX]at h1
    |_=>simp [cV]at h1
   ·by_cases h2:cV o=2
    ·obtain⟨B,kB,k1,k2⟩:=ae4 h2 ha;exact⟨_,_,by unfold eM;rw[km,h2];exact⟨B,kB,rfl,rfl,fun h' C' dD=> .inl (k2 h' C' dD)⟩,k1⟩
    ·by_cases h3:cV o=3
     ·obtain⟨x,pk,k1,kv,k2⟩:=abT h3 ha;exact⟨x,pk,by unfold eM;rw[km,h3];exact⟨kv,fun C' dD=> .inl (k2 C' dD)⟩,k1⟩
     ·by_cases h5:cV o=5
      ·obtain⟨x,pk,k1,c1,k2⟩:=ahk h5 ha;exact⟨x,pk,by unfold eM;rw[km,h5];exact⟨c1,fun C' dD=> .inl (k2 C' dD)⟩,k1⟩
      exfalso;obtain⟨dst,op,type,pos,after,guard⟩:=o;cases op with
      |call c=>
       simp only[cV]at h0 h3 U3 Dp h5;simp only[dc]at ha;cases eX:c.callee with
       |value f=>cases lx:nO f<;>simp [eX,lx]at U3 Dp
       |invoke=>simp only[eX]at ha
       |builtin b=>cases b<;>simp only[eX]at ha h0 h3 h5<;>first|exact ha|exact absurd rfl h0|exact absurd rfl h3|exact absurd rfl h5|exact h3 trivial|exact h0 trivial|exact h5 trivial
      |_=>first|exact absurd rfl h0|exact absurd rfl h1|exact absurd rfl h2|exact absurd rfl h3|exact ha
 unfold Al at hd;split at hd
 ·rename_i c gG
  split at hd
  ·rename_i f eX
   have fin:∀x:AV,(∀e,∀C':AV→aiE an→Prop,C' x (s.h++e)→dc P o (ev s) (s.h++e) C')→eM m P o (ev s) s.h x s.h:=fun x hx=>by
    have hk:cV o=4∨cV o=6:=by
     unfold cV;simp only[gG,eX];cases nO f<;>simp
    unfold eM;rw[km];rcases hk with hk|hk
    ·rw[hk];exact⟨rfl,fun e C' dD=> .inl (hx e C' dD)⟩
    ·rw[hk];refine⟨[],(aia _).symm,fun C' dD=> .inl ?_⟩;have:=hx [] C' (by rw[aia];exact dD)
     rwa [aia]at this
   split at hd
   ·rename_i g dO hg
    obtain⟨x,hK,jv⟩:=hd;refine⟨x,s.h,fin x fun e C' dD=> ?_,hK⟩;unfold dc;simp only[gG,eX,hg];exact(jv e).mono fun r' h' ⟨e1,e2⟩=>by subst e1;subst e2;exact dD
   ·rename_i q hg
    obtain⟨g,cs,rfl,x,hK,jv⟩:=hd;refine⟨x,s.h,fin x fun e C' dD=> ?_,hK⟩;unfold dc;simp only[gG,eX,hg];exact⟨g,cs,rfl,(jv e).mono fun r' h' ⟨e1,e2⟩=>by subst e1;subst e2;exact dD⟩
   ·exact hd.elim
  ·rename_i eX
   exact plain hd (by
    unfold cV;simp only[gG];cases hc:c.callee with
    |value f=>exact absurd hc (eX f)
    |invoke=>simp
    |builtin b=>cases b<;>simp) (by
    unfold cV;simp only[gG];cases hc:c.callee with
    |value f=>exact absurd hc (eX f)
    |invoke=>simp
    |builtin b=>cases b<;>simp)
 ·rename_i gG
  exact plain hd (by
   unfold cV;split<;>first|(rename_i c hc;exact(gG c hc).elim)|simp) (by
   unfold cV;split<;>first|(rename_i c hc;exact(gG c hc).elim)|simp)
theorem Tq{m:Bool}{h1:aiE an}{x:AV}(h0:eM m P o ρ h x h1):∀C:AV→aiE an→Prop,C x h1→iQ P o ρ h C:=fun C hC=>by
 unfold eM at h0;split at h0
 ·obtain⟨e,h0⟩:=h0;subst e;exact h0 _ (ia.refl _) _ hC
 ·obtain⟨e,h0⟩:=h0;subst e;exact h0 _ (CellsIn.refl _) _ hC
 ·obtain⟨B,_,rfl,rfl,h0⟩:=h0;exact h0 _ _ hC
 ·exact h0.2 _ hC
 ·obtain⟨e,h0⟩:=h0;subst e;have:=h0 [] C (by rw[aia];exact hC)
  rwa [aia]at this
 ·exact h0.2 _ hC
 ·obtain⟨e0,_,h0⟩:=h0;exact h0 _ hC
 ·exact h0 _ hC
 ·exact h0.elim
theorem LR{m:Bool}{s:St}{K:St→Prop}(hd:yP m P o K s):∃x h1,eM m P o (ev s) s.h x h1∧K ((s.wh h1).put o.dst x):=by
 cases hlo:m8 m o with
 |true=>
  have k7:l8 m o=7:=by unfold l8;rw[hlo];rfl
  rcases hd with hd|⟨_,x,h1,hK,hc⟩|⟨hv,_⟩|⟨_,x,e0,hK,hc⟩
  ·obtain⟨x,h1,h2,hK⟩:=QB (m:=false) rfl hd;refine⟨x,h1,?_,hK⟩;have:=Tq h2;unfold eM;rw[k7];exact this
  ·exact⟨x,h1,by unfold eM;rw[k7];exact fun C hC=> .inl (hc C hC),hK⟩
  ·exfalso;unfold m8 at hlo;rw[ahR]at hlo;unfold jf at hv;have hlo:=hlo.2;split at hlo
   ·next c e=>
    rw[e]at hv;split at hlo
    ·next f e2=>simp only[e2]at hv;cases hv
    ·cases hlo
   ·cases hlo
  ·exact⟨x,_,by unfold eM;rw[k7];exact fun C hC=> .inl (hc C hC),hK⟩
 |false=>
 have km:l8 m o=cV o:=by unfold l8;rw[hlo];rfl
 rcases hd with hd|⟨hb,_⟩|⟨hv,a,x,h',p,hx,hp,hK⟩|⟨hk,x,e0,hK,hc⟩
 ·exact QB hlo hd
 ·rw[hlo]at hb;cases hb
 ·have hk:cV o=0∨cV o=1∨cV o=3:=by
   unfold jf at hv;unfold cV;split at hv
   all_goals first|(next e=>simp only[e];simp)|skip
   ·next c e=>
    split at hv
    ·next e2=>simp only[e,e2];simp
    ·cases hv
   ·cases hv
  rcases hk with hk|hk|hk
  ·obtain⟨rfl,h2⟩:=W0 hv hk hx hp;refine⟨x,_,?_,hK⟩;unfold eM;rw[km,hk];exact⟨rfl,fun h' hh C hC=> .inr ⟨hv,a,x,h',by obtain⟨p',q1,q2⟩:=h2 h' hh;exact⟨p',q1,q2,hC⟩⟩⟩
  ·obtain⟨rfl,h2⟩:=abW hv hk hx hp;refine⟨x,_,?_,hK⟩;unfold eM;rw[km,hk];exact⟨rfl,fun h' hh C hC=> .inr ⟨hv,a,x,h',by obtain⟨p',q1,q2⟩:=h2 h' hh;exact⟨p',q1,q2,hC⟩⟩⟩
  ·refine⟨x,h',?_,hK⟩;unfold eM;rw[km,hk];exact⟨agR hv hk hx hp,fun C hC=> .inr ⟨hv,a,x,h',p,hx,hp,hC⟩⟩
 ·refine⟨x,_,?_,hK⟩;unfold eM;rw[km,hk];exact⟨e0,rfl,fun C hC=> .inl (hc C hC)⟩
end
structure iv(s s':St):Prop where
 n:s.n=s'.n
 h:s.h=s'.h
 t:∀i,bH s.t i=bH s'.t i
theorem iv.refl(s:St):iv s s:=⟨rfl,rfl,fun _=>rfl⟩
theorem iv.symm{s s':St}(h:iv s s'):iv s' s:=⟨h.n.symm,h.h.symm,fun i=>(h.t i).symm⟩
theorem iv.trans{a b c:St}(h:iv a b)(k:iv b c):iv a c:=⟨h.n.trans k.n,h.h.trans k.h,fun i=>(h.t i).trans (k.t i)⟩
theorem qZ(s:St)(d:aiG Nat)(x:AV)(i:Nat):bH (s.put d x).t i=if d=some i∧i<s.n then x else bH s.t i:=by
 cases d with
 |none=>simp [St.put]
 |some k=>
  by_cases hk:k<s.n
  ·rw[oH hk,lu];by_cases hi:i=k
   ·subst hi;simp [hk]
   ·rw[if_neg hi,if_neg (by simp;intro e;exact absurd e.symm hi)]
  ·rw[Ei hk];rw[if_neg (by rintro⟨e,aZ⟩;cases e;exact hk aZ)]
theorem pc(s:St)(d:aiG Nat)(x:AV):(s.put d x).n=s.n:=by
 cases d with
 |none=>rfl
 |some k=>
  by_cases hk:k<s.n
  ·rw[oH hk]
  ·rw[Ei hk]
theorem BD(s:St)(d:aiG Nat)(x:AV):(s.put d x).h=s.h:=by
 cases d with
 |none=>rfl
 |some k=>
  by_cases hk:k<s.n
  ·rw[oH hk]
  ·rw[Ei hk]
theorem iv.put{s s':St}(h:iv s s')(h1:aiE an)(d:aiG Nat)(x:AV):iv ((s.wh h1).put d x) ((s'.wh h1).put d x):=
 ⟨by rw[pc,pc];exact h.n,by rw[BD,BD];rfl,fun i=>by
  rw[qZ,qZ];show(if d=some i∧i<s.n then x else bH s.t i)=(if d=some i∧i<s'.n then x else bH s'.t i);rw[h.n,h.t]⟩
theorem ad7(s:St)(h1 pk h2:aiE an){d d':aiG Nat}(x x':AV)(dj:∀k,d=some k→d'≠some k):iv ((((s.wh h1).put d x).wh h2).put d' x') ((((s.wh pk).put d' x').wh h2).put d x):=by
 refine⟨by simp only[pc];show((s.wh h1).put d x).n=((s.wh pk).put d' x').n;simp only[pc];rfl,by simp only[BD];rfl,fun i=> ?_⟩;rw[qZ,qZ];show(if d'=some i∧i<((s.wh h1).put d x).n then x' else bH ((s.wh h1).put d x).t i)=(if d=some i∧i<((s.wh pk).put d' x').n then x else bH ((s.wh pk).put d' x').t i);rw[pc,pc,qZ,qZ];show(if d'=some i∧i<s.n then x' else(if d=some i∧i<s.n then x else bH s.t i))=(if d=some i∧i<s.n then x else(if d'=some i∧i<s.n then x' else bH s.t i));by_cases a:d=some i
 ·have:=dj i a;simp [a,this]
 ·simp [a]
section
variable {P:aiH} {ops:Array Oper}
def mq(m:Bool)(P:aiH)(ops:Array Oper)(o:Oper)(s:St)(x:AV)(h1:aiE an):Prop:=
 (iO ops o s True False∧eM m P o (ev s) s.h x h1)∨(iO ops o s False True∧x= .d (.v undef)∧h1=s.h)
theorem MZ{o:Oper}{s:St}{yes no:Prop}(h:iO ops o s yes no):(iO ops o s True False∧yes)∨(iO ops o s False True∧no):=by
 unfold iO at h ⊢;split at h
 ·exact .inl ⟨trivial,h⟩
 ·rename_i j want hg
  split at h
  ·rename_i d hd
   split at h
   ·rename_i b hb
    by_cases vN:b=want
    ·exact .inl ⟨⟨fun _=>trivial,fun e=>by subst vN;cases b<;>cases e⟩,h.1 vN⟩
    ·have hbn:b= !want:=by cases b<;>cases want<;>simp_all
     exact .inr ⟨⟨fun e=>(vN e).elim,fun _=>trivial⟩,h.2 hbn⟩
   ·exact .inr ⟨trivial,h⟩
   ·exact h.elim
  ·exact h.elim
theorem AK{o:Oper}{s s':St}{yes no:Prop}(ht:∀d,d∈o.looksAt ops→bH s'.t d=bH s.t d)(h:iO ops o s yes no):iO ops o s' yes no:=by
 unfold iO at h ⊢;split at h
 ·exact h
 ·rename_i j want hg
  split at h
  ·rename_i d hd
   have:bH s'.t d=bH s.t d:=ht d (by unfold Oper.looksAt;rw[hg];simp [hd]);rw[this];exact h
  ·exact h.elim
theorem Kg{m:Bool}{o:Oper}{s s':St}{x:AV}{h1:aiE an}(ht:∀d,d∈o.looksAt ops→bH s'.t d=bH s.t d)(hh:s'.h=s.h)(h:mq m P ops o s x h1):mq m P ops o s' x h1:=by
 have dF:∀y∈o.op.operands,ev s y=ev s' y:=fun y hy=>by
  cases y with
  |tmp t=>exact(ht t (by unfold Oper.looksAt;refine ais.2 (.inl (List.mem_filterMap.2 ⟨.tmp t,Array.mem_toList_iff.2 hy,rfl⟩)))).symm
  |_=>rfl
 rcases h with⟨g,hc⟩|⟨g,e1,e2⟩
 ·refine .inl ⟨AK ht g,?_⟩;rw[hh];have rU:∀h C,iQ P o (ev s) h C=iQ P o (ev s') h C:=fun h C=>I7 dF;unfold eM at hc ⊢;split at hc
  ·exact⟨hc.1,fun h' hh C hC=>rU h' C▸hc.2 h' hh C hC⟩
  ·exact⟨hc.1,fun h' hh C hC=>rU _ C▸hc.2 h' hh C hC⟩
  ·obtain⟨B,kB,a,b,c⟩:=hc;exact⟨B,kB,a,b,fun h' C hC=>rU h' C▸c h' C hC⟩
  ·exact⟨hc.1,fun C hC=>rU _ C▸hc.2 C hC⟩
  ·exact⟨hc.1,fun e C hC=>rU _ C▸hc.2 e C hC⟩
  ·exact⟨hc.1,fun C hC=>rU _ C▸hc.2 C hC⟩
  ·obtain⟨e0,a,b⟩:=hc;exact⟨e0,a,fun C hC=>rU _ C▸b C hC⟩
  ·exact fun C hC=>rU _ C▸hc C hC
  ·exact hc.elim
 ·exact .inr ⟨AK ht g,e1,e2.trans hh.symm⟩
theorem P8{o:Oper}(h:cV o=7):False:=by
 unfold cV at h
 repeat' (first|(split at h)|cases h)
 all_goals (cases hg:nO _<;>rw[hg]at h<;>cases h)
theorem acU{m:Bool}{o:Oper}{ρ:Operand→AV}{h h1:aiE an}{x:AV}(h7:m8 m o=false)(h0:eM m P o ρ h x h1):ia h h1:=by
 unfold eM at h0;unfold l8 at h0;rw[h7]at h0;simp only[cond_false]at h0;split at h0
 ·rw[h0.1];exact ia.refl _
 ·rw[h0.1];exact ia.refl _
 ·obtain⟨B,kB,_,e,_⟩:=h0;rw[e];exact(hO.app kB).i
 ·exact h0.1.i
 ·rw[h0.1];exact ia.refl _
 ·exact h0.1.2.2.i
 ·obtain⟨e0,e,_⟩:=h0;rw[e];exact ia.app _ _
 ·next e=>exact(P8 e).elim
 ·exact h0.elim
theorem aes{m:Bool}{o:Oper}{ρ:Operand→AV}{h h1:aiE an}{x:AV}(h7:m8 m o=false)(hk:cV o≠6)(h0:eM m P o ρ h x h1):ia h1 h:=by
 unfold eM at h0;unfold l8 at h0;rw[h7]at h0;simp only[cond_false]at h0;split at h0
 ·rw[h0.1];exact ia.refl _
 ·rw[h0.1];exact ia.refl _
 ·obtain⟨B,kB,_,e,_⟩:=h0;rw[e];exact(hO.app kB).j
 ·exact h0.1.j
 ·rw[h0.1];exact ia.refl _
 ·exact h0.1.2.2.j
 ·next e=>exact(hk e).elim
 ·next e=>exact(P8 e).elim
 ·exact h0.elim
def zh(m:Bool)(a b:Oper):Bool:= !m8 m a&& !m8 m b&&(cV a==0||(cV b==0&& !(cV a==6))||((cV a==1||cV a==4)&&(cV b==1||cV b==4||cV b==2||cV b==6))||(cV a==1&&cV b==5)||(cV a==5&&cV b==1))
theorem ahB{m:Bool}{oi oj:Oper}{s:St}{xi xj:AV}{hi hj:aiE an}(F5:oi.apart ops oj=true)(kT:zh m oi oj=true)(h1:mq m P ops oi s xi hi)(h2:mq m P ops oj ((s.wh hi).put oi.dst xi) xj hj):
 ∃iF,mq m P ops oj s xj iF∧mq m P ops oi ((s.wh iF).put oj.dst xj) xi hj:=by
 obtain⟨a1,a2,a3⟩:=Oper.apart_spec F5;unfold zh at kT;rw[ahR,ahR,Bool.not_eq_true',Bool.not_eq_true']at kT;obtain⟨⟨li,lj⟩,kT⟩:=kT;have nB:l8 m oi=cV oi:=by unfold l8;rw[li];rfl
 have rM:l8 m oj=cV oj:=by unfold l8;rw[lj];rfl
 have tj:∀d,d∈oj.looksAt ops→bH s.t d=bH ((s.wh hi).put oi.dst xi).t d:=fun d hd=>by
  rw[qZ,if_neg (fun e=>a1 d e.1 hd)];rfl
 have ti:∀(h':aiE an) d,d∈oi.looksAt ops→bH ((s.wh h').put oj.dst xj).t d=bH s.t d:=fun h' d hd=>by
  rw[qZ,if_neg (fun e=>a3 d e.1 hd)];rfl
 have fc:((s.wh hi).put oi.dst xi).h=hi:=by rw[BD];rfl
 have q7:∀h',((s.wh h').put oj.dst xj).h=h':=fun h'=>by rw[BD];rfl
 have same:hi=s.h→mq m P ops oj s xj hj:=fun e=>Kg tj (by rw[fc,e]) h2;have X9:∀h',∀y∈oi.op.operands,ev ((s.wh h').put oj.dst xj) y=ev s y:=fun h' y hy=>by
  cases y with
  |tmp t=>exact ti h' t (by unfold Oper.looksAt;refine ais.2 (.inl (List.mem_filterMap.2 ⟨.tmp t,Array.mem_toList_iff.2 hy,rfl⟩)))
  |_=>rfl
 have evj:∀y∈oj.op.operands,ev ((s.wh hi).put oi.dst xi) y=ev s y:=fun y hy=>by
  cases y with
  |tmp t=>exact(tj t (by unfold Oper.looksAt;refine ais.2 (.inl (List.mem_filterMap.2 ⟨.tmp t,Array.mem_toList_iff.2 hy,rfl⟩)))).symm
  |_=>rfl
 have ci:∀h' h C,iQ P oi (ev ((s.wh h').put oj.dst xj)) h C=iQ P oi (ev s) h C:=fun h' h C=>I7 (X9 h');have cj:∀h C,iQ P oj (ev ((s.wh hi).put oi.dst xi)) h C=iQ P oj (ev s) h C:=fun h C=>I7 evj;rcases h1 with⟨g1,o1⟩|⟨g1,e1,e2⟩
 ·rcases h2 with⟨g2,o2⟩|⟨g2,f1,f2⟩
  ·
   have Df:∀h',iO ops oi ((s.wh h').put oj.dst xj) True False:=fun h'=>AK (ti h') g1;have UN:iO ops oj s True False:=AK tj g2;by_cases k0:cV oi=0
   ·unfold eM at o1;rw[nB,k0]at o1;simp only at o1;obtain⟨e,o1⟩:=o1;refine⟨hj,same e, .inl ⟨Df hj,?_⟩⟩;unfold eM;rw[nB,k0];have hv:ia s.h hj:=by
     have:=acU lj o2;rw[fc,e]at this;exact this
    exact⟨(q7 hj).symm,fun h' hh C hC=>by rw[q7]at hh;rw[ci];exact o1 h' (hv.trans hh) C hC⟩
   ·by_cases k1:cV oj=0
    ·unfold eM at o2;rw[rM,k1]at o2;simp only at o2;obtain⟨e,o2⟩:=o2;rw[fc]at e o2;have k6:cV oi≠6:=fun k6=>by
      simp [k6,k1]at kT
     have hv:=aes li k6 o1;refine⟨s.h, .inl ⟨UN,?_⟩, .inl ⟨Df s.h,?_⟩⟩
     ·unfold eM;rw[rM,k1];exact⟨rfl,fun h' hh C hC=>by rw[←cj];exact o2 h' (hv.trans hh) C hC⟩
     ·rw[e];unfold eM at o1 ⊢;rw[q7];simp only[ci];exact o1
    ·by_cases QL:cV oi=1∧cV oj=5
     ·obtain⟨ka,kb⟩:=QL;unfold eM at o1 o2;rw[nB,ka]at o1;rw[rM,kb]at o2;simp only at o1 o2;obtain⟨e,o1⟩:=o1;obtain⟨⟨c1,c2,_⟩,o2⟩:=o2;rw[fc,e]at c1 c2;refine⟨hj,same e, .inl ⟨Df hj,?_⟩⟩;unfold eM;rw[nB,ka];simp only;refine⟨(q7 hj).symm,fun h' hh C hC=> ?_⟩;rw[q7]at hh;rw[ci];exact o1 h' (fun n cs hn hq=>hh n cs (c1 n cs hn hq) hq) C hC
     by_cases Rs:cV oi=5∧cV oj=1
     ·obtain⟨ka,kb⟩:=Rs;unfold eM at o1 o2;rw[nB,ka]at o1;rw[rM,kb]at o2;simp only at o1 o2;obtain⟨⟨c1,c2,c3⟩,o1⟩:=o1;obtain⟨e,o2⟩:=o2;rw[fc]at e o2;refine⟨s.h, .inl ⟨UN,?_⟩, .inl ⟨Df s.h,?_⟩⟩
      ·unfold eM;rw[rM,kb];simp only;exact⟨trivial,fun h' hh C hC=>by rw[←cj];exact o2 h' (fun n cs hn hq=>hh n cs (c2 n cs hn hq) hq) C hC⟩
      ·rw[e];unfold eM;rw[nB,ka];simp only;rw[q7];exact⟨⟨c1,c2,c3⟩,fun C hC=>by rw[ci];exact o1 C hC⟩
     have hc:(cV oi=1∨cV oi=4)∧(cV oj=1∨cV oj=4∨cV oj=2∨cV oj=6):=by
      simp only[Bool.or_eq_true,ahR,beq_iff_eq,k0,k1,false_or,false_and]at kT;rcases kT with(kT|kT)|kT
      ·refine⟨kT.1,?_⟩;rcases kT.2 with((h|h)|h)|h
       ·exact .inl h
       ·exact .inr (.inl h)
       ·exact .inr (.inr (.inl h))
       ·exact .inr (.inr (.inr h))
      ·exact absurd kT QL
      ·exact absurd kT Rs
     have q1:hi=s.h∧∀e(C:AV→aiE an→Prop),C xi (s.h++e)→iQ P oi (ev s) (s.h++e) C:=by
      unfold eM at o1;rcases hc.1 with k|k
      ·rw[nB,k]at o1;exact⟨o1.1,fun e C hC=>o1.2 _ (CellsIn.app _ _) C hC⟩
      ·rw[nB,k]at o1;exact o1
     have q2:∃e0,hj=s.h++e0:=by
      have nJ:=o2;unfold eM at nJ;rcases hc.2 with k|k|k|k
      ·rw[rM,k]at nJ;exact⟨[],by rw[nJ.1,fc,q1.1,aia]⟩
      ·rw[rM,k]at nJ;exact⟨[],by rw[nJ.1,fc,q1.1,aia]⟩
      ·rw[rM,k]at nJ;obtain⟨B,_,_,b,_⟩:=nJ;exact⟨[B],by rw[b,fc,q1.1]⟩
      ·rw[rM,k]at nJ;obtain⟨e0,b,_⟩:=nJ;exact⟨e0,by rw[b,fc,q1.1]⟩
     obtain⟨e0,EM⟩:=q2;refine⟨hj,same q1.1, .inl ⟨Df hj,?_⟩⟩;have:∀e(C:AV→aiE an→Prop),C xi (hj++e)→iQ P oi (ev ((s.wh hj).put oj.dst xj)) (hj++e) C:=fun e C hC=>by
      rw[ci,EM,ah6];rw[EM,ah6]at hC;exact q1.2 _ C hC
     unfold eM;rw[q7];rcases hc.1 with k|k
     ·rw[nB,k];simp only;refine⟨trivial,fun h' hh C hC=> ?_⟩;rw[ci];unfold eM at o1;rw[nB,k]at o1;exact o1.2 h' (fun n cs hn hq=>hh n cs (by rw[EM];exact CellsIn.app _ _ n cs hn hq) hq) C hC
     ·rw[nB,k];exact⟨rfl,this⟩
  ·
   subst f1;rw[fc]at f2;refine⟨s.h, .inr ⟨AK tj g2,rfl,rfl⟩,?_⟩;rw[f2];exact Kg (ti s.h) (by rw[q7]) (.inl ⟨g1,o1⟩)
 ·
  subst e1;refine⟨hj,same e2, .inr ⟨AK (ti hj) g1,rfl,(q7 hj).symm⟩⟩
def uh(K:St→Prop):Prop:=∀s s',iv s s'→K s→K s'
def mQ(m:Bool)(P:aiH)(ops:Array Oper)(K:St→Prop):Nat→Array Bool→St→Prop
 |0,listed,s=>Region.ready .any ops listed=[]∧K s
 |fuel+1,listed,s=>
  (Region.ready .any ops listed=[]→K s)∧
  ∀i∈Region.ready .any ops listed,∀o,ops[i]?=some o→∃x h1,mq m P ops o s x h1∧mQ m P ops K fuel (listed.setIfInBounds i true) ((s.wh h1).put o.dst x)
theorem OL{m:Bool}{K:St→Prop}(hK:uh K):∀(fuel:Nat)(listed:Array Bool)(s s':St),iv s s'→mQ m P ops K fuel listed s→mQ m P ops K fuel listed s'
 |0,_,s,s',hs,h=>⟨h.1,hK s s' hs h.2⟩
 |fuel+1,_,s,s',hs,h=>⟨fun h0=>hK s s' hs (h.1 h0),fun i hi o ho=>by
  obtain⟨x,h1,h2,h3⟩:=h.2 i hi o ho;exact⟨x,h1,Kg (fun d _=>(hs.t d).symm) hs.h.symm h2,OL hK fuel _ _ _ (hs.put h1 o.dst x) h3⟩⟩
def qa(M:Array Nat)(ops:Array Oper):Bool:=
 (List.range ops.size).all fun j=>(List.range ops.size).all fun i=> !(M.getD j 0).testBit i||match ops[j]? with
  |some o=>o.after.any fun e=>Region.binds .any e&&decide (e.on<j)&&(e.on==i||(M.getD e.on 0).testBit i)
  |none=>false
def Dn(ops:Array Oper)(listed:Array Bool):Prop:=∀(j:Nat)(o:Oper),ops[j]?=some o→listed.getD j false=true→∀e∈o.after,Region.binds .any e=true→listed.getD e.on false=true
theorem afO{M:Array Nat}(hM:qa M ops=true){listed:Array Bool}(hD:Dn ops listed):∀(j i:Nat)(o:Oper),i<ops.size→ops[j]?=some o→(∀e∈o.after,Region.binds .any e=true→listed.getD e.on false=true)→(M.getD j 0).testBit i=true→listed.getD i false=true:=by
 intro j
 induction j using Nat.strongRecOn with
 |_ j ih=>
  intro i o hi ho hp hb;unfold qa at hM;simp only[aif,List.mem_range]at hM;have h1:=hM j (ah4.1 ho).1 i hi;rw[hb,ho]at h1;simp only[Bool.not_true,Bool.false_or]at h1;rw[Array.any_eq_true']at h1;obtain⟨e,he,h2⟩:=h1;simp only[ahR,decide_eq_true_eq,Bool.or_eq_true,beq_iff_eq]at h2;obtain⟨⟨KA,aZ⟩,h3⟩:=h2;have hl:=hp e he KA;rcases h3 with h3|h3
  ·rw[←h3];exact hl
  ·have GO:e.on<ops.size:=Nat.lt_trans aZ (ah4.1 ho).1;exact ih e.on aZ i ops[e.on] hi (aib GO) (hD e.on _ (aib GO) hl) h3
theorem Dn.set{listed:Array Bool}(hD:Dn ops listed){i:Nat}(hr:i∈Region.ready .any ops listed):Dn ops (listed.setIfInBounds i true):=by
 intro j o ho hj e he hb;refine getD_set_true ?_;by_cases mh:i=j
 ·subst mh;obtain⟨_,o',Ez,fm⟩:=mem_ready.1 hr;rw[ho]at Ez;cases Ez;exact fm e he hb
 ·rw[getD_set_ne false mh]at hj;exact hD j o ho hj e he hb
theorem Kd{m:Bool}{K:St→Prop}(hK:uh K){M:Array Nat}(hM:qa M ops=true){i:Nat}{oi:Oper}{x:AV}{h1:aiE an}(hi:ops[i]?=some oi):
 ∀(fuel:Nat)(listed:Array Bool)(s:St),Dn ops listed→
  (∀j oj,ops[j]?=some oj→j≠i→listed.getD j true=false→(M.getD j 0).testBit i=false→oi.apart ops oj=true∧zh m oi oj=true)→
  i∈Region.ready .any ops listed→mq m P ops oi s x h1→mQ m P ops K fuel (listed.setIfInBounds i true) ((s.wh h1).put oi.dst x)→mQ m P ops K (fuel+1) listed s:=by
 intro fuel
 induction fuel generalizing x h1 with
 |zero=>
  intro listed s _ _ hr hy H;refine⟨fun h=>(by rw[h]at hr;cases hr),fun j hj o ho=> ?_⟩;by_cases oF:j=i
  ·subst oF;rw[hi]at ho;cases ho;exact⟨x,h1,hy,H⟩
  ·have:=ready_mono hj oF;rw[H.1]at this;cases this
 |succ fuel ih=>
  intro listed s hD Ul hr hy H;refine⟨fun h=>(by rw[h]at hr;cases hr),fun j hj oj Aw=> ?_⟩;by_cases oF:j=i
  ·subst oF;rw[hi]at Aw;cases Aw;exact⟨x,h1,hy,H⟩
  ·obtain⟨xj,hj1,MU,H2⟩:=H.2 j (ready_mono hj oF) oj Aw;obtain⟨TP,oj',NX,fm⟩:=mem_ready.1 hj;rw[Aw]at NX;cases NX;have A9:=(ah4.1 hi).1;have pY:listed.getD i false=false:=by
    have h0:=(mem_ready.1 hr).1;rcases Nat.lt_or_ge i listed.size with h'|h'
    ·simpa [h']using h0
    ·simp [Array.getElem?_eq_none h']at h0
   have j5:(M.getD j 0).testBit i=false:=by
    cases hb:(M.getD j 0).testBit i with
    |false=>rfl
    |true=>rw[afO hM hD j i oj A9 Aw fm hb]at pY;cases pY
   obtain⟨F5,kT⟩:=Ul j oj Aw oF TP j5;obtain⟨iF,s1,s2⟩:=ahB F5 kT hy MU;obtain⟨_,a2,_⟩:=Oper.apart_spec F5;refine⟨xj,iF,s1,ih (listed.setIfInBounds j true) _ (hD.set hj) (fun k ok hk KX V6 xo=> ?_) (ready_mono hr (Ne.symm oF)) s2 ?_⟩
   ·refine Ul k ok hk KX ?_ xo;by_cases Fp:j=k
    ·subst Fp;exact TP
    ·rw[getD_set_ne true Fp]at V6;exact V6
   ·rw[Array.setIfInBounds_comm _ _ oF];exact OL hK _ _ _ _ (ad7 s h1 iF hj1 x xj (fun k hk=>a2 k hk)) H2
def Rn(M:Array Nat)(ops:Array Oper)(k:Nat):Bool:=
 match ops[k]? with
 |none=>false
 |some oi=>(List.range ops.size).all fun j=>decide (j≤k)||(M.getD j 0).testBit k||match ops[j]? with
  |some oj=>oi.apart ops oj&&zh false oi oj
  |none=>true
def Ci(M:Array Nat)(ops:Array Oper):Nat→Nat→Array Bool→Bool
 |0,_,listed=>(Region.ready .any ops listed).isEmpty
 |fuel+1,k,listed=>(Region.ready .any ops listed).contains k&&Rn M ops k&&Ci M ops fuel (k+1) (listed.setIfInBounds k true)
def mG(ops:Array Oper):Bool:=qa (Region.before ops) ops&&Ci (Region.before ops) ops ops.size 0 (Array.replicate ops.size false)
theorem S7{K K':St→Prop}(hK:uh K')(Ca:∀s,K s→K' s){M:Array Nat}(hM:qa M ops=true):∀(l:aiE Oper)(k:Nat)(listed:Array Bool)(s:St),(∀j,l[j]?=ops[k+j]?)→(∀j,j<k→listed.getD j true=true)→Dn ops listed→
 Ci M ops l.length k listed=true→Bj P ops l K s→mQ false P ops K' l.length listed s
 |[],_,_,_,_,_,_,hB,h=>⟨by simpa [Ci]using hB,Ca _ h⟩
 |o::l,k,listed,s,hl,nN,hD,hB,h=>by
  have h0:ops[k]?=some o:=by simpa using (hl 0).symm
  simp only[ahS,Ci,ahR]at hB;obtain⟨⟨hr,hf⟩,eG⟩:=hB;have nW:k∈Region.ready .any ops listed:=by simpa using hr
  have na:∀j,l[j]?=ops[k+1+j]?:=fun j=>by have:=hl (j+1);simpa [Nat.add_assoc,Nat.add_comm 1 j]using this
  have Y8:∀j,j<k+1→(listed.setIfInBounds k true).getD j true=true:=fun j hj=>by
   by_cases e:k=j
   ·subst e;rcases Nat.lt_or_ge k listed.size with h'|h'
    ·simp [h']
    ·have:(listed.setIfInBounds k true)[k]?=none:=Array.getElem?_eq_none (by simpa using h');rw[Array.getD_eq_getD_getElem?,this];rfl
   ·rw[getD_set_ne true e];exact nN j (by omega)
  obtain⟨x,h1,hy,yc⟩:∃x h1,mq false P ops o s x h1∧Bj P ops l K ((s.wh h1).put o.dst x):=by
   rcases MZ h with⟨g,hd⟩|⟨g,hd⟩
   ·obtain⟨x,h1,h2,h3⟩:=LR hd;exact⟨x,h1, .inl ⟨g,h2⟩,h3⟩
   ·exact⟨_,s.h, .inr ⟨g,rfl,rfl⟩,hd⟩
  refine Kd hK hM h0 l.length listed s hD (fun j oj hj dj pY xo=> ?_) nW hy (S7 hK Ca hM l (k+1) _ _ na Y8 (hD.set nW) eG yc);unfold Rn at hf;rw[h0]at hf;simp only[aif,List.mem_range]at hf;have:=hf j (ah4.1 hj).1;rw[xo,hj]at this;simp only[Bool.or_false,Bool.or_eq_true,ahR,decide_eq_true_eq]at this;rcases this with this|this
  ·exfalso;have:=nN j (by omega);rw[this]at pY;cases pY
  ·exact this
def Vq(ops:Array Oper):Nat→Array Bool→aiE Nat
 |0,_=>[]
 |f+1,listed=>match (Region.ready .any ops listed).find? (fun k=>match ops[k]? with|some o=> !(cV o==6)&& !m8 true o|none=>false)with
  |some k=>k::Vq ops f (listed.setIfInBounds k true)
  |none=>match Region.ready .any ops listed with
   |k::_=>k::Vq ops f (listed.setIfInBounds k true)
   |[]=>[]
def C1(m:Bool)(M:Array Nat)(ops:Array Oper):aiE Nat→Array Bool→Bool
 |[],listed=>(Region.ready .any ops listed).isEmpty
 |k::l,listed=>(Region.ready .any ops listed).contains k&&(match ops[k]? with
  |none=>false
  |some oi=>(List.range ops.size).all fun j=>j==k||listed.getD j true||(M.getD j 0).testBit k||match ops[j]? with
   |some oj=>oi.apart ops oj&&zh m oi oj
   |none=>true)&&C1 m M ops l (listed.setIfInBounds k true)
def Ga(m:Bool)(ops:Array Oper)(p:aiE Nat):Bool:=qa (Region.before ops) ops&&C1 m (Region.before ops) ops p (Array.replicate ops.size false)
def qI(ops:Array Oper):aiE Nat→aiE Oper
 |[]=>[]
 |k::l=>match ops[k]? with
  |some o=>o::qI ops l
  |none=>qI ops l
theorem TV{m:Bool}{K K':St→Prop}(hK:uh K')(Ca:∀s,K s→K' s){M:Array Nat}(hM:qa M ops=true):∀(l:aiE Nat)(listed:Array Bool)(s:St),Dn ops listed→
 C1 m M ops l listed=true→sZ m P ops (qI ops l) K s→mQ m P ops K' l.length listed s
 |[],_,_,_,hB,h=>⟨by simpa [C1]using hB,Ca _ h⟩
 |k::l,listed,s,hD,hB,h=>by
  simp only[C1,ahR]at hB;obtain⟨⟨hr,hf⟩,eG⟩:=hB;have nW:k∈Region.ready .any ops listed:=by simpa using hr
  obtain⟨_,o,h0,_⟩:=mem_ready.1 nW;rw[h0]at hf;simp only[aif,List.mem_range]at hf;simp only[qI,h0]at h;obtain⟨x,h1,hy,yc⟩:∃x h1,mq m P ops o s x h1∧sZ m P ops (qI ops l) K ((s.wh h1).put o.dst x):=by
   rcases MZ h with⟨g,hd⟩|⟨g,hd⟩
   ·obtain⟨x,h1,h2,h3⟩:=LR hd;exact⟨x,h1, .inl ⟨g,h2⟩,h3⟩
   ·exact⟨_,s.h, .inr ⟨g,rfl,rfl⟩,hd⟩
  refine Kd hK hM h0 l.length listed s hD (fun j oj hj dj pY xo=> ?_) nW hy (TV hK Ca hM l _ _ (hD.set nW) eG yc);have:=hf j (ah4.1 hj).1;rw[xo,pY,hj]at this;simp only[Bool.or_false,Bool.or_eq_true,ahR,beq_iff_eq]at this;rcases this with this|this
  ·exact absurd this dj
  ·exact this
end
section
variable {P:aiH} {r:aiG Nat} {n N0:Nat} {G:Gh} {w:aiJ} {a:Act} {s:St} {o:Oper} {Q:Exit→St→Prop}
theorem dk.drew(hs:dk G w a s):cp G.N G w G {w with drawn:=w.drawn+1}∧dk G {w with drawn:=w.drawn+1} a s:=by
 have hE:cp G.N G w G {w with drawn:=w.drawn+1}:=⟨ah0 _,fun _ _ h=>h,fun _ _ _=>rfl,fun _ _=>rfl,fun _ _=> .inl ⟨rfl,rfl⟩,gB rfl,fun _ _=>rfl,rfl,rfl,rfl,fun _ _ h=> .inl h⟩;have hi:cw G {w with drawn:=w.drawn+1} s.h:=⟨hs.inv.len,hs.inv.z,hs.inv.S,fun n B hB=>eF.bq (hs.inv.lt hB) hE (ah0 _) ⟨rfl,rfl,rfl⟩ (fun _ _=>⟨rfl,fun _ h=>h⟩) (hs.inv.dz n B hB),hs.inv.inj,hs.inv.gl.bq hE⟩;exact⟨hE,hs.move hE (ah0 _) hi⟩
theorem aa0{m:Bool}{x:AV}{h1:aiE an}(h:eM m P o (ev s) s.h x h1):iQ P o (ev s) s.h (fun x' h'=>(s.wh h').put o.dst x'=(s.wh h1).put o.dst x):=Tq h _ rfl
theorem EJ{m:Bool}{ops:Array Oper}{K:St→Prop}{Q':Exit→Act→aiJ→Prop}(hQ:∀a' w',iJ N0 G w K a' w'→Q' .normal a' w'):∀(fuel:Nat)(listed:Array Bool)(G1:Gh)(w1:aiJ)(a:Act)(s:St),
 cp N0 G w G1 w1→N0≤G1.N→dk G1 w1 a s→mQ m P ops K fuel listed s→wpAnyIn (WF r) n P .any ops Q' fuel listed a w1
 |0,_,G1,w1,a,s,hE,hN,hs,h=>⟨h.1,hQ _ _ ⟨G1,s,hE,hN,hs,h.2⟩⟩
 |fuel+1,listed,G1,w1,a,s,hE,hN,hs,h=>by
  refine⟨fun h0=>hQ _ _ ⟨G1,s,hE,hN,hs,h.1 h0⟩,fun i hi=> ?_⟩;obtain⟨_,o,ho,_⟩:=mem_ready.1 hi;obtain⟨x,h1,hy,yc⟩:=h.2 i hi o ho;unfold wpOpIn;rw[ho];simp only;rcases hy with⟨g,hc⟩|⟨g,rfl,rfl⟩
  ·have hg:=Lp hs g;split at hg
   ·rename_i hw
    rw[if_pos hw];refine Oper.wpIn_mono (fun a' w' hn=> ?_) ((aa0 hc).elim (fun k=>V3 (K:=fun s'=>s'=(s.wh h1).put o.dst x) (r:=r) (n:=n) (N0:=N0) (Q:=Q') hs hN k) fun⟨_,va,x',h',p,k1,k2,k3⟩=>Ub (K:=fun s'=>s'=(s.wh h1).put o.dst x) (r:=r) (n:=n) (N0:=N0) (Q:=Q') hs hN ⟨va,x',h',p,k1,k2,k3⟩);obtain⟨G2,s2,e2,n2,Nb,rfl⟩:=hn;exact EJ hQ fuel _ G2 w' a' _ (hE.trans e2) n2 Nb yc
   ·exact hg.elim
  ·have hg:=Lp hs g;split at hg
   ·exact hg.elim
   ·rename_i hw
    rw[if_neg hw];exact⟨fun _ _=>trivial,EJ hQ fuel _ G1 w1 _ _ hE hN (hs.put (.d (.v undef)) o.dst) yc⟩
theorem H3{id:Nat}{l:aiE Oper}(hm:P.follows .mixedOrders=true)(hl:mG l.toArray=true)(h:Bj P l.toArray l (Q .normal) s):bS P r N0 (.region id l.toArray true) Q s:=by
 constructor
 intro G w a n hs hN;unfold mG at hl;rw[ahR]at hl;obtain⟨d1,d2⟩:=hs.drew;refine wpIn_region_any hm ?_;have hC:uh (fun s=>∃s',iv s' s∧Q .normal s'):=fun s s' e ⟨s0,e0,h0⟩=>⟨s0,e0.trans e,h0⟩;have:=S7 (K:=Q .normal) hC (fun s h=>⟨s,iv.refl s,h⟩) hl.1 l 0 (Array.replicate l.toArray.size false) s (by simp) (fun j hj=>absurd hj (aii _)) (fun j o ho hj=>by
  exfalso;rw[Array.getD_eq_getD_getElem?]at hj;rw[Array.getElem?_replicate]at hj;split at hj<;>simp at hj) (by simpa using hl.2) h
 refine EJ (G:=G) (w:=w) (N0:=N0) (K:=fun s=>∃s',iv s' s∧Q .normal s') (fun a' w' hn=> ?_) l.toArray.size _ G _ a s (d1.less hN) hN d2 (by simpa using this);obtain⟨G',s',x1,x2,x3,s0,e0,x4⟩:=hn;refine⟨G',s0,x1,x2,⟨x3.size.trans e0.n.symm,fun i=>by rw[e0.t i];exact x3.tmp i,by rw[e0.h];exact x3.inv,x3.df⟩,x4⟩
theorem ac7{m:Bool}{id:Nat}{ops:Array Oper}(p:aiE Nat)(hm:P.follows .mixedOrders=true)(hz:p.length=ops.size)(hl:Ga m ops p=true)(h:sZ m P ops (qI ops p) (Q .normal) s):bS P r N0 (.region id ops true) Q s:=by
 constructor
 intro G w a n hs hN;unfold Ga at hl;rw[ahR]at hl;obtain⟨d1,d2⟩:=hs.drew;refine wpIn_region_any hm ?_;have hC:uh (fun s=>∃s',iv s' s∧Q .normal s'):=fun s s' e ⟨s0,e0,h0⟩=>⟨s0,e0.trans e,h0⟩;have:=TV (K:=Q .normal) hC (fun s h=>⟨s,iv.refl s,h⟩) hl.1 p (Array.replicate ops.size false) s (fun j o ho hj=>by
  exfalso;rw[Array.getD_eq_getD_getElem?]at hj;rw[Array.getElem?_replicate]at hj;split at hj<;>simp at hj) hl.2 h
 rw[hz]at this;refine EJ (G:=G) (w:=w) (N0:=N0) (K:=fun s=>∃s',iv s' s∧Q .normal s') (fun a' w' hn=> ?_) ops.size _ G _ a s (d1.less hN) hN d2 this;obtain⟨G',s',x1,x2,x3,s0,e0,x4⟩:=hn;refine⟨G',s0,x1,x2,⟨x3.size.trans e0.n.symm,fun i=>by rw[e0.t i];exact x3.tmp i,by rw[e0.h];exact x3.inv,x3.df⟩,x4⟩
end
def ahM(want:Bool):AV→Bool
 | .d (.v (.bool b))=>b==want
 |_=>false
def gNo(want:Bool):AV→Bool
 | .d (.v (.bool b))=>b== !want
 | .d (.v (.tuple _))=>true
 |_=>false
def acH(t:aiE (Nat×AV)):aiG Nat→AV
 |some d=>bH t d
 |none=> .dead
def tc(ops:Array Oper)(j:Nat)(t:aiE (Nat×AV)):AV:=acH t ((ops[j]?).bind (·.dst))
section
variable {P:aiH} {ops:Array Oper} {dst:aiG Nat} {op:Op} {ty:TypeId} {pos:String} {after:Array Edge} {j:Nat} {w:Bool} {s:St} {rest:aiE Oper} {K:St→Prop} {y n:Prop}
theorem HM:iO ops ⟨dst,op,ty,pos,after,some (j,w)⟩ s y n=(match tc ops j s.t with
 | .d (.v (.bool b))=>(b=w→y)∧(b= !w→n)
 | .d (.v (.tuple _))=>n
 |_=>False):=by
 show(match (ops[j]?).bind (·.dst)with
  |some d=>match bH s.t d with
   | .d (.v (.bool b))=>(b=w→y)∧(b= !w→n)
   | .d (.v (.tuple _))=>n
   |_=>False
  |none=>False)=_
 unfold tc;cases (ops[j]?).bind (·.dst)<;>rfl
end
section
variable {P:aiH} {r:aiG Nat} {n N0:Nat} {G:Gh} {w:aiJ} {a:Act} {s:St} {o:Oper} {Q:Exit→St→Prop}
theorem cv{K:St→Prop}(h:K s):gQ K Q .normal s:=h
theorem gH{K:St→Prop}{i:Nat}(h:Q (.exit i) s):gQ K Q (.exit i) s:=h
theorem ej{K:St→Prop}(h:Q .ret s):gQ K Q .ret s:=h
theorem iA{id:Nat}(h:Q .normal s):oe id Q .normal s:=h
theorem fq{id:Nat}(h:Q .ret s):oe id Q .ret s:=h
theorem lJ{id i:Nat}(e:(i==id)=true)(h:Q .normal s):oe id Q (.exit i) s:=by simpa only[oe,e,cond_true]using h
theorem WZ{id i:Nat}(e:(i==id)=false)(h:Q (.exit i) s):oe id Q (.exit i) s:=by simpa only[oe,e,cond_false]using h
theorem lK{c:Operand}{x y:Code}(hc:ev s c= .d (.v (.bool true)))(h:bS P r N0 x Q s):bS P r N0 (.cond c x y) Q s:=MG hc (fun _=>h) fun h=>Bool.noConfusion h
theorem lQ{c:Operand}{x y:Code}(hc:ev s c= .d (.v (.bool false)))(h:bS P r N0 y Q s):bS P r N0 (.cond c x y) Q s:=MG hc (fun h=>Bool.noConfusion h) fun _=>h
theorem fB{c:Operand}{x y:Code}{t:Bool}(hc:ev s c= .d (.v (.bool t)))(e:t=true)(h:bS P r N0 x Q s):bS P r N0 (.cond c x y) Q s:=lK (by rw[hc,e]) h
theorem fv{c:Operand}{x y:Code}{t:Bool}(hc:ev s c= .d (.v (.bool t)))(e:t=false)(h:bS P r N0 y Q s):bS P r N0 (.cond c x y) Q s:=lQ (by rw[hc,e]) h
theorem Pm{c:Code}(k:Nat)(e:TypeId)(sz:Nat)(xs:aiE (aiE D))(hx:bH s.t k= .full xs∨(bH s.t k= .d (.v (.slice none 0 0))∧xs=[]))
 (h:bS P r N0 c Q ⟨s.n,(k, .own s.h.length xs)::s.t,s.h++[.front e sz xs.length]⟩):bS P r N0 c Q s:=by
 constructor
 intro G w a n hs hN;have hp:dG G.S w (a.tmps.getD k undef) (.sl xs)∧∃A,a.tmps.getD k undef= .slice A xs.length xs.length:=by
  have hv:=hs.tmp k;revert hv;generalize a.tmps.getD k undef=u;intro hv;rcases hx with hx|⟨hx,rfl⟩
  ·rw[hx]at hv;cases hv with|full _ hp hf=>exact⟨hp,hf⟩
  ·rw[hx]at hv;rw[hv.val];exact⟨DE,none,rfl⟩
 obtain⟨a1,a2,a3,a4⟩:=IL hs.inv hp.1 hp.2 e sz;have cY:dk (G.gM (a.tmps.getD k undef) xs.length) w a ⟨s.n,(k, .own s.h.length xs)::s.t,s.h++[.front e sz xs.length]⟩:=by
  refine⟨hs.size,fun i=> ?_,a3,hs.df.bq a1⟩;show aL _ _ _ (bH ((k, .own s.h.length xs)::s.t) i);rw[lu];split
  ·next e=>exact e▸a4
  ·exact(hs.tmp i).bq a1 a2
 exact wpIn_mono (h.run _ w a n cY (ah7 hN a2)) fun _ _ _ hn=>hn.trans (a1.less hN)
end
theorem LB{G:Gh}{w:aiJ}{h:aiE an}{b:Nat}{cs cB:aiE AV}(hi:cw G w h)(hb:h[b]?=some (.cells cs))(hl:cB.length=cs.length)
 (hc:∀(vs:Array aiI)(T:TypeId),w.heap[G.bA b]?=some (.cells vs T (0,0))→∀(i:Nat)(u:aiI)(c:AV),vs[i]?=some u→cB[i]?=some c→aL G w u c):cw G w (h.set b (an.cells cB)):=by
 have ho:∀n,cA (h.set b (an.cells cB)) G n=cA h G n:=fun n=>by
  have aZ:=(ahP.1 hb).1;unfold cA;by_cases e:b=n
  ·subst e;rw[aij aZ,hb];rfl
  ·rw[aio e]
 refine⟨by rw[List.length_set];exact hi.len,hi.z,hi.S,fun n B hB=> ?_,fun m n x hm hn=>hi.inj m n x (by rw[←ho];exact hm) (by rw[←ho];exact hn),hi.gl⟩;have aZ:=(ahP.1 hb).1;by_cases e:b=n
 ·subst e;rw[aij aZ]at hB;cases hB
  obtain⟨h1,h2,vs,T,h3,h4,_⟩:=hi.dz _ _ hb;exact⟨h1,h2,vs,T,h3,h4.trans hl.symm,hc vs T h3⟩
 ·rw[aio e]at hB;exact hi.dz n B hB
theorem Fj{P:aiH}{r:aiG Nat}{N0:Nat}{s:St}{Q:Exit→St→Prop}{c:Code}(b i:Nat)(e:TypeId)(sz:Nat)(xs:aiE (aiE D)){cs:aiE AV}(hb:s.h[b]?=some (.cells cs))(hx:cs[i]?=some (.full xs)∨(cs[i]?=some (.d (.v (.slice none 0 0)))∧xs=[]))
 (h:bS P r N0 c Q ⟨s.n,s.t,(s.h++[an.front e sz xs.length]).set b (an.cells (cs.set i (AV.own s.h.length xs)))⟩):bS P r N0 c Q s:=by
 constructor
 intro G w a n hs hN;obtain⟨h1,h2,vs,T,h3,h4,h5⟩:=hs.inv.dz _ _ hb;have hi:i<cs.length:=by rcases hx with hx|⟨hx,_⟩<;>exact(ahP.1 hx).1
 have hv:vs[i]?=some vs[i]:=aib (by omega);have hp:dG G.S w vs[i] (.sl xs)∧∃A,vs[i]= .slice A xs.length xs.length:=by
  rcases hx with hx|⟨hx,rfl⟩
  ·have:=h5 i _ _ hv hx;generalize vs[i]=u at this;cases this with|full _ hp hf=>exact⟨hp,hf⟩
  ·have:=h5 i _ _ hv hx;rw[this.val];exact⟨DE,none,rfl⟩
 obtain⟨a1,a2,a3,a4⟩:=IL hs.inv hp.1 hp.2 e sz;have aZ:=(ahP.1 hb).1;have cY:dk (G.gM vs[i] xs.length) w a ⟨s.n,s.t,(s.h++[an.front e sz xs.length]).set b (an.cells (cs.set i (AV.own s.h.length xs)))⟩:=by
  refine⟨hs.size,fun j=>(hs.tmp j).bq a1 a2,LB a3 (by rw[ahZ aZ];exact hb) (by rw[List.length_set]) fun fU T' sV j u c hu hc=> ?_,hs.df.bq a1⟩;have e1:(G.gM vs[i] xs.length).bA b=G.bA b:=by
   have:b≠G.N:=by have:=hs.inv.len;omega
   simp [Gh.gM]
  rw[e1,h3]at sV;cases sV
  by_cases e2:i=j
  ·subst e2;rw[aij hi]at hc;cases hc
   rw[hv]at hu;cases hu
   exact a4
  ·rw[aio e2]at hc;exact(h5 j u c hu hc).bq a1 a2
 exact wpIn_mono (h.run _ w a n cY (ah7 hN a2)) fun _ _ _ hn=>hn.trans (a1.less hN)
def AV.Le(x y:AV):Prop:=∀(G:Gh)(w:aiJ)(u:aiI),aL G w u x→aL G w u y
theorem AV.Le.refl(x:AV):AV.Le x x:=fun _ _ _ h=>h
theorem AV.Le.full(xs:aiE (aiE D)):AV.Le (.full xs) (.d (.sl xs)):=fun _ _ _ h=>by
 cases h with|full _ hp _=>exact .d hp
theorem AV.Le.nil:AV.Le (.d (.v (.slice none 0 0))) (.d (.sl [])):=fun _ _ _ h=>by
 rw[h.val];exact .d DE
theorem AV.Le.agg{cs ds:aiE AV}(hl:cs.length=ds.length)(h:∀(i:Nat)(c d:AV),cs[i]?=some c→ds[i]?=some d→AV.Le c d):AV.Le (.agg cs) (.agg ds):=fun G w u hu=>by
 cases hu with
 |agg vs _ na hv=>
  refine .agg vs ds (na.trans hl) fun i u d hui hd=> ?_;have aZ:i<cs.length:=by rw[hl];exact(ahP.1 hd).1
  exact h i _ d (ahT aZ) hd G w u (hv i u _ hui (ahT aZ))
set_option linter.unusedSimpArgs false
set_option linter.unusedVariables false
def rn:aiE Nat→Nat→Nat→Nat
 |[],base,i=>base+i
 |j::_,_,0=>j
 |_::l,base,i+1=>rn l base i
theorem AD:∀(l:aiE Nat)(base i:Nat)(j:Nat),l[i]?=some j→rn l base i=j
 |[],_,i,j,h=>by simp at h
 |a::l,base,0,j,h=>by simpa [rn]using h
 |a::l,base,i+1,j,h=>by rw[rn];exact AD l base i j (by simpa using h)
theorem FN:∀(l:aiE Nat)(base i:Nat),l.length≤i→rn l base i=base+(i-l.length)
 |[],base,i,_=>by simp [rn]
 |a::l,base,0,h=>by simp at h
 |a::l,base,i+1,h=>by rw[rn,FN l base i (by simpa using h)];simp
mutual
def AV.aY(σ:Nat→Nat):AV→AV
 | .ptr n off=> .ptr (σ n) off
 | .own n xs=> .own (σ n) xs
 | .row n off len cap k=> .row (σ n) off len cap k
 | .mp n=> .mp (σ n)
 | .dp n=> .dp (σ n)
 | .vec n o len L k=> .vec (σ n) o len L k
 | .dw n i j L k=> .dw (σ n) i j L k
 | .agg cs=> .agg (AV.fj σ cs)
 | .cb cs=> .cb (AV.fj σ cs)
 | .fn f cs=> .fn f (AV.fj σ cs)
 | .d x=> .d x
 | .bt xs i off=> .bt xs i off
 | .full xs=> .full xs
 | .hid c=> .hid c
 | .dead=> .dead
def AV.fj(σ:Nat→Nat):aiE AV→aiE AV
 |[]=>[]
 |x::l=>x.aY σ::AV.fj σ l
end
theorem gW(σ:Nat→Nat):∀l,AV.fj σ l=l.map (AV.aY σ)
 |[]=>by simp [AV.fj]
 |x::l=>by simp [AV.fj,gW σ l]
def an.aY(σ:Nat→Nat):an→an
 | .cells cs=> .cells (AV.fj σ cs)
 | .lp ls p as bd cs=> .lp ls p as bd (AV.fj σ cs)
 | .it sn cs=> .it sn (AV.fj σ cs)
 | .vec e k cs=> .vec e k (cs.map (AV.fj σ))
 | .front e k len=> .front e k len
 | .map kv=> .map kv
 | .gone=> .gone
def gA:aiE Nat→aiE an→aiE an→aiE an
 |[],Bs,h=>h++Bs
 |_::_,[],h=>h
 |i::l,B::Bs,h=>gA l Bs (h.set i B)
structure oS(σ:Nat→Nat)(G G2:Gh):Prop where
 lt:∀n,n<G.N→σ n<G2.N
 bA:∀n,n<G.N→G2.bA (σ n)=G.bA n
 sg:∀n,n<G.N→G2.sg (σ n)=G.sg n
 fl:∀n,n<G.N→G2.fl (σ n)=G.fl n
 ow:∀n,n<G.N→G2.ow (σ n)=G.ow n
 S:∀b o,G2.S b o↔G.S b o
theorem dG.sb{S S':Nat→Nat→Prop}{w:aiJ}(hS:∀b o,S b o→S' b o){u:aiI}{x:D}(h:dG S w u x):dG S' w u x:=h.bq hS (fun _ _ _=>rfl)
theorem aL.aY{σ:Nat→Nat}{G G2:Gh}{w:aiJ}(hR:oS σ G G2){u:aiI}{x:AV}(h:aL G w u x):aL G2 w u (x.aY σ):=by
 have hS:∀b o,G.S b o→G2.S b o:=fun b o h=>(hR.S b o).2 h;have fF:∀(vs:Array aiI)(cs:aiE AV),(∀(i:Nat)(u:aiI)(c:AV),vs[i]?=some u→cs[i]?=some c→aL G2 w u (c.aY σ))→∀(i:Nat)(u:aiI)(c:AV),vs[i]?=some u→(AV.fj σ cs)[i]?=some c→aL G2 w u c:=by
  intro vs cs ih i u c hu hc;rw[gW,ahW]at hc;cases hx:cs[i]? with
  |none=>rw[hx]at hc;cases hc
  |some x=>rw[hx]at hc;cases hc;exact ih i u x hu hx
 induction h with
 |agg vs cs hl _ ih=>rw[AV.aY];exact .agg vs _ (by rw[gW,ahU];exact hl) (fF vs cs ih)
 |cb vs cs hl _ ih=>rw[AV.aY];exact .cb vs _ (by rw[gW,ahU];exact hl) (fF vs cs ih)
 |fn f vs cs hl _ ih=>rw[AV.aY];exact .fn f vs _ (by rw[gW,ahU];exact hl) (fF vs cs ih)
 |d h=>rw[AV.aY];exact .d (h.sb hS)
 |full xs hp hf=>rw[AV.aY];exact .full xs (hp.sb hS) hf
 |ptr n off h=>rw[AV.aY,←hR.bA n h];exact .ptr _ off (hR.lt n h)
 |row n off len cap k h hl hm=>rw[AV.aY,←hR.bA n h];exact .row _ off len cap k (hR.lt n h) hl hm
 |mp n h=>rw[AV.aY,←hR.bA n h];exact .mp _ (hR.lt n h)
 |dp n h=>rw[AV.aY,←hR.bA n h];exact .dp _ (hR.lt n h)
 |own n xs h hp hle hf=>rw[AV.aY];exact .own _ xs (hR.lt n h) (hp.sb hS) (by rw[hR.fl n h];exact hle) (by rw[hR.fl n h,hR.sg n h];exact hf)
 |vec n o len L k h hs hL hf=>rw[AV.aY];exact .vec _ o len L k (hR.lt n h) hs (by rw[hR.fl n h];exact hL) (by rw[hR.fl n h,hR.sg n h];exact hf)
 |dw n i j L k h hs hL hf=>rw[AV.aY];exact .dw _ i j L k (hR.lt n h) hs (by rw[hR.fl n h];exact hL) (by rw[hR.fl n h,hR.sg n h];exact hf)
 |bt xs i off b o u x hx pA hu=>rw[AV.aY];exact .bt xs i off b o u x hx (fun j hj=>⟨hS _ _ (pA j hj).1,(pA j hj).2⟩) (fun j d hd=>(hu j d hd).sb hS)
 |hid h h1=>rw[AV.aY];exact .hid (h.bq hS (fun _ _ _=>rfl)) h1
 |dead u=>rw[AV.aY];exact .dead u
theorem aL.tP{σ:Nat→Nat}{G G2:Gh}{w:aiJ}(hR:oS σ G G2){u:aiI}{y:AV}(h:aL G2 w u y):∀x:AV,x.aY σ=y→x.bf G.N=true→aL G w u x:=by
 have hS:∀b o,G2.S b o→G.S b o:=fun b o h=>(hR.S b o).1 h;have lt:∀n,(!cN G.N n)=true→n<G.N:=fun n h=>by rw[Bool.not_eq_true',←Bool.not_eq_true,dQ]at h;omega
 have fF:∀(vs:Array aiI)(cs xs:aiE AV),(∀(i:Nat)(u:aiI)(c:AV),vs[i]?=some u→cs[i]?=some c→∀x:AV,x.aY σ=c→x.bf G.N=true→aL G w u x)→AV.fj σ xs=cs→AV.mo G.N xs=true→∀(i:Nat)(u:aiI)(c:AV),vs[i]?=some u→xs[i]?=some c→aL G w u c:=by
  intro vs cs xs ih e hb i u c hu hc;subst e;rw[l5,aif]at hb;exact ih i u (c.aY σ) hu (by rw[gW,ahW,hc];rfl) c rfl (hb c (ah2 hc))
 induction h with
 |agg vs cs hl _ ih=>
  intro x e hb;cases x<;>simp only[AV.aY,AV.agg.injEq,reduceCtorEq]at e
  next xs=>
   rw[AV.bf]at hb;exact .agg vs xs (by rw[hl,←e,gW,ahU]) (fF vs cs xs ih e hb)
 |cb vs cs hl _ ih=>
  intro x e hb;cases x<;>simp only[AV.aY,AV.cb.injEq,reduceCtorEq]at e
  next xs=>
   rw[AV.bf]at hb;exact .cb vs xs (by rw[hl,←e,gW,ahU]) (fF vs cs xs ih e hb)
 |fn f vs cs hl _ ih=>
  intro x e hb;cases x<;>simp only[AV.aY,AV.fn.injEq,reduceCtorEq]at e
  next g xs=>
   obtain⟨rfl,e⟩:=e;rw[AV.bf]at hb;exact .fn _ vs xs (by rw[hl,←e,gW,ahU]) (fF vs cs xs ih e hb)
 |d h=>
  intro x e hb;cases x<;>simp only[AV.aY,AV.d.injEq,reduceCtorEq]at e
  next y=>subst e;exact .d (h.sb hS)
 |full xs hp hf=>
  intro x e hb;cases x<;>simp only[AV.aY,AV.full.injEq,reduceCtorEq]at e
  next y=>subst e;exact .full y (hp.sb hS) hf
 |ptr n off h=>
  intro x e hb;cases x<;>simp only[AV.aY,AV.ptr.injEq,reduceCtorEq]at e
  next m o=>
   obtain⟨e1,rfl⟩:=e;rw[AV.bf]at hb;have hm:=lt _ hb;rw[←e1,hR.bA _ hm];exact .ptr _ _ hm
 |row n off len cap k h hl kW=>
  intro x e hb;cases x<;>simp only[AV.aY,AV.row.injEq,reduceCtorEq]at e
  next m o l c q=>
   obtain⟨e1,rfl,rfl,rfl,rfl⟩:=e;rw[AV.bf]at hb;have hm:=lt _ hb;rw[←e1,hR.bA _ hm];exact .row _ _ _ _ _ hm hl kW
 |mp n h=>
  intro x e hb;cases x<;>simp only[AV.aY,AV.mp.injEq,reduceCtorEq]at e
  next m=>
   rw[AV.bf]at hb;have hm:=lt _ hb;rw[←e,hR.bA _ hm];exact .mp _ hm
 |dp n h=>
  intro x e hb;cases x<;>simp only[AV.aY,AV.dp.injEq,reduceCtorEq]at e
  next m=>
   rw[AV.bf]at hb;have hm:=lt _ hb;rw[←e,hR.bA _ hm];exact .dp _ hm
 |own n xs h hp hle hf=>
  intro x e hb;cases x<;>simp only[AV.aY,AV.own.injEq,reduceCtorEq]at e
  next m l=>
   obtain⟨e1,rfl⟩:=e;rw[AV.bf]at hb;have hm:=lt _ hb;rw[←e1]at hle hf;exact .own _ _ hm (hp.sb hS) (by rw[←hR.fl _ hm];exact hle) (by rw[←hR.fl _ hm,←hR.sg _ hm];exact hf)
 |vec n o len L k h hs hL hf=>
  intro x e hb;cases x<;>simp only[AV.aY,AV.vec.injEq,reduceCtorEq]at e
  next m a1 a2 a3 a4=>
   obtain⟨e1,rfl,rfl,rfl,rfl⟩:=e;rw[AV.bf]at hb;have hm:=lt _ hb;rw[←e1]at hL hf;exact .vec _ _ _ _ _ hm hs (by rw[←hR.fl _ hm];exact hL) (by rw[←hR.fl _ hm,←hR.sg _ hm];exact hf)
 |dw n i j L k h hs hL hf=>
  intro x e hb;cases x<;>simp only[AV.aY,AV.dw.injEq,reduceCtorEq]at e
  next m a1 a2 a3 a4=>
   obtain⟨e1,rfl,rfl,rfl,rfl⟩:=e;rw[AV.bf]at hb;have hm:=lt _ hb;rw[←e1]at hL hf;exact .dw _ _ _ _ _ hm hs (by rw[←hR.fl _ hm];exact hL) (by rw[←hR.fl _ hm,←hR.sg _ hm];exact hf)
 |bt xs i off b o u y hx pA hu=>
  intro x e hb;cases x<;>simp only[AV.aY,AV.bt.injEq,reduceCtorEq]at e
  next a1 a2 a3=>
   obtain⟨rfl,rfl,rfl⟩:=e;exact .bt _ _ _ b o u y hx (fun j hj=>⟨hS _ _ (pA j hj).1,(pA j hj).2⟩) (fun j d hd=>(hu j d hd).sb hS)
 |hid h h1=>
  intro x e hb;cases x<;>simp only[AV.aY,AV.hid.injEq,reduceCtorEq]at e
  next c=>subst e;exact .hid (h.bq hS (fun _ _ _=>rfl)) h1
 |dead u=>
  intro x e hb;cases x<;>simp only[AV.aY,reduceCtorEq]at e
  exact .dead u
theorem Ms{σ:Nat→Nat}{G G2:Gh}(hR:oS σ G G2){n:Nat}(hn:n<G.N)(B:an):(B.aY σ).eo G2 (σ n)=B.eo G n:=by
 cases B<;>simp only[an.aY,an.eo,hR.bA n hn,hR.ow n hn]
theorem eF.aY{σ:Nat→Nat}{G G2:Gh}{w:aiJ}(hR:oS σ G G2){n:Nat}(hn:n<G.N){B:an}(hz:∀b,B.eo G n=some b→¬G2.Z b)(h:eF G w n B):eF G2 w (σ n) (B.aY σ):=by
 have hS:∀b o,¬G.S b o→¬G2.S b o:=fun b o h h2=>h ((hR.S b o).1 h2);cases B with
 |gone=>trivial
 |cells cs=>
  obtain⟨h1,h2,vs,T,h3,h4,h5⟩:=h;rw[an.aY];refine⟨by rw[hR.bA n hn];exact hz _ rfl,by rw[hR.bA n hn];exact fun o=>hS _ _ (h2 o),vs,T,by rw[hR.bA n hn];exact h3,by rw[gW,ahU];exact h4,fun i u c hu hc=> ?_⟩;rw[gW,ahW]at hc;cases hx:cs[i]? with
  |none=>rw[hx]at hc;cases hc
  |some x=>rw[hx]at hc;cases hc;exact(h5 i u x hu hx).aY hR
 |lp ls p as bd cs=>
  obtain⟨h1,h2,fn,vs,T,h3,h4,h5⟩:=h;rw[an.aY];refine⟨by rw[hR.bA n hn];exact hz _ rfl,by rw[hR.bA n hn];exact fun o=>hS _ _ (h2 o),fn,vs,T,by rw[hR.bA n hn];exact h3,by rw[gW,ahU];exact h4,fun i u c hu hc=> ?_⟩;rw[gW,ahW]at hc;cases hx:cs[i]? with
  |none=>rw[hx]at hc;cases hc
  |some x=>rw[hx]at hc;cases hc;exact(h5 i u x hu hx).aY hR
 |it sn cs=>
  obtain⟨h1,h2,fn,vs,T,h3,h4,h5⟩:=h;rw[an.aY];refine⟨by rw[hR.bA n hn];exact hz _ rfl,by rw[hR.bA n hn];exact fun o=>hS _ _ (h2 o),fn,vs,T,by rw[hR.bA n hn];exact h3,by rw[gW,ahU];exact h4,fun i u c hu hc=> ?_⟩;rw[gW,ahW]at hc;cases hx:cs[i]? with
  |none=>rw[hx]at hc;cases hc
  |some x=>rw[hx]at hc;cases hc;exact(h5 i u x hu hx).aY hR
 |map kv=>
  obtain⟨h1,h2,es,c,h3,h4⟩:=h;exact⟨by rw[hR.bA n hn];exact hz _ rfl,by rw[hR.bA n hn];exact fun o=>hS _ _ (h2 o),es,c,by rw[hR.bA n hn];exact h3,h4.bq (fun b o h=>(hR.S b o).2 h) (fun _ _ _=>rfl)⟩
 |front e k len=>
  obtain⟨h1,hm,h2⟩:=h;refine⟨(hR.fl n hn).trans h1,hm,?_⟩;rcases h2 with⟨h2,A,h3⟩|⟨g,cap,cur,h2,h3,h4,h5,h6,h7,h8,h9⟩
  ·exact .inl ⟨(hR.ow n hn).trans h2,A,(hR.sg n hn).trans h3⟩
  ·exact .inr ⟨g,cap,cur,(hR.ow n hn).trans h2,(hR.sg n hn).trans h3,hz g h2,h5,h6,h7,h8,fun o ho=>hS _ _ (h9 o ho)⟩
 |vec e k cs=>
  obtain⟨h1,hm,hk,h2⟩:=h;rw[an.aY];refine⟨by rw[ahU];exact(hR.fl n hn).trans h1,by rw[ahU];exact hm,fun c hc=> ?_,?_⟩
  ·obtain⟨x,hx,rfl⟩:=List.mem_map.1 hc;rw[gW,ahU];exact hk x hx
  ·rcases h2 with⟨h2,e2,A,h3⟩|⟨g,cap,cur,h2,h3,h4,h5,h6,h7,h8,h9,aA⟩
   ·exact .inl ⟨(hR.ow n hn).trans h2,by rw[e2];rfl,A,(hR.sg n hn).trans h3⟩
   ·refine .inr ⟨g,cap,cur,(hR.ow n hn).trans h2,by rw[ahU];exact(hR.sg n hn).trans h3,hz g h2,h5,by rw[ahU];exact h6,h7,h8,fun o=>hS _ _ (h9 o),fun i j c x u hc hx hu=> ?_⟩;rw[ahW]at hc;cases hy:cs[i]? with
    |none=>rw[hy]at hc;cases hc
    |some y=>
     rw[hy]at hc;cases hc
     rw[gW,ahW]at hx;cases hw:y[j]? with
     |none=>rw[hw]at hx;cases hx
     |some z=>rw[hw]at hx;cases hx;exact(aA i j y z u hy hw hu).aY hR
theorem eF.tP{σ:Nat→Nat}{G G2:Gh}{w:aiJ}(hR:oS σ G G2){n:Nat}(hn:n<G.N){B:an}(hb:B.bf G.N=true)(hz:∀b,B.eo G n=some b→¬G.Z b)(h:eF G2 w (σ n) (B.aY σ)):eF G w n B:=by
 have hS:∀b o,¬G2.S b o→¬G.S b o:=fun b o h h2=>h ((hR.S b o).2 h2);cases B with
 |gone=>trivial
 |cells cs=>
  rw[an.aY]at h;obtain⟨h1,h2,vs,T,h3,h4,h5⟩:=h;rw[hR.bA n hn]at h2 h3;rw[gW,ahU]at h4;simp only[an.bf,aif]at hb;exact⟨hz _ rfl,fun o=>hS _ _ (h2 o),vs,T,h3,h4,fun i u c hu hc=>aL.tP hR (h5 i u (c.aY σ) hu (by rw[gW,ahW,hc];rfl)) c rfl (hb c (ah2 hc))⟩
 |lp ls p as bd cs=>
  rw[an.aY]at h;obtain⟨h1,h2,fn,vs,T,h3,h4,h5⟩:=h;rw[hR.bA n hn]at h2 h3;rw[gW,ahU]at h4;simp only[an.bf,aif]at hb;exact⟨hz _ rfl,fun o=>hS _ _ (h2 o),fn,vs,T,h3,h4,fun i u c hu hc=>aL.tP hR (h5 i u (c.aY σ) hu (by rw[gW,ahW,hc];rfl)) c rfl (hb c (ah2 hc))⟩
 |it sn cs=>
  rw[an.aY]at h;obtain⟨h1,h2,fn,vs,T,h3,h4,h5⟩:=h;rw[hR.bA n hn]at h2 h3;rw[gW,ahU]at h4;simp only[an.bf,aif]at hb;exact⟨hz _ rfl,fun o=>hS _ _ (h2 o),fn,vs,T,h3,h4,fun i u c hu hc=>aL.tP hR (h5 i u (c.aY σ) hu (by rw[gW,ahW,hc];rfl)) c rfl (hb c (ah2 hc))⟩
 |map kv=>
  obtain⟨h1,h2,es,c,h3,h4⟩:=h;rw[hR.bA n hn]at h2 h3;exact⟨hz _ rfl,fun o=>hS _ _ (h2 o),es,c,h3,h4.bq (fun b o h=>(hR.S b o).1 h) (fun _ _ _=>rfl)⟩
 |front e k len=>
  obtain⟨h1,hm,h2⟩:=h;rw[hR.fl n hn]at h1;rw[hR.ow n hn,hR.sg n hn]at h2;refine⟨h1,hm,?_⟩;rcases h2 with⟨h2,A,h3⟩|⟨g,cap,cur,h2,h3,h4,h5,h6,h7,h8,h9⟩
  ·exact .inl ⟨h2,A,h3⟩
  ·exact .inr ⟨g,cap,cur,h2,h3,hz g h2,h5,h6,h7,h8,fun o ho=>hS _ _ (h9 o ho)⟩
 |vec e k cs=>
  rw[an.aY]at h;obtain⟨h1,hm,hk,h2⟩:=h;rw[hR.fl n hn,ahU]at h1;rw[ahU]at hm;rw[hR.ow n hn,hR.sg n hn,ahU]at h2;simp only[an.bf,aif]at hb;refine⟨h1,hm,fun c hc=> ?_,?_⟩
  ·have:=hk _ (List.mem_map.2 ⟨c,hc,rfl⟩)
   rwa [gW,ahU]at this
  ·rcases h2 with⟨h2,e2,A,h3⟩|⟨g,cap,cur,h2,h3,h4,h5,h6,h7,h8,h9,aA⟩
   ·exact .inl ⟨h2,List.map_eq_nil_iff.1 e2,A,h3⟩
   ·refine .inr ⟨g,cap,cur,h2,h3,hz g h2,h5,h6,h7,h8,fun o=>hS _ _ (h9 o),fun i j c x u hc hx hu=> ?_⟩;exact aL.tP hR (aA i j (AV.fj σ c) (x.aY σ) u (by rw[ahW,hc];rfl) (by rw[gW,ahW,hx];rfl) hu) x rfl (hb c (ah2 hc) x (ah2 hx))
theorem Rx:∀(l:aiE Nat)(Bs h:aiE an),l.length≤Bs.length→(gA l Bs h).length=h.length+(Bs.length-l.length)
 |[],Bs,h,_=>by simp [gA]
 |j::l,[],h,hl=>by simp at hl
 |j::l,B::Bs,h,hl=>by rw[gA,Rx l Bs _ (by simpa using hl),List.length_set];simp
theorem Ln:∀(l:aiE Nat)(Bs h:aiE an)(n:Nat),l.length≤Bs.length→n<h.length→n ∉ l→(gA l Bs h)[n]?=h[n]?
 |[],Bs,h,n,_,hn,_=>by rw[gA,ahZ hn]
 |j::l,[],h,n,hl,_,_=>by simp at hl
 |j::l,B::Bs,h,n,hl,hn,hm=>by
  simp only[aik,not_or]at hm;rw[gA,Ln l Bs _ n (by simpa using hl) (by rw[List.length_set];exact hn) hm.2,aio (Ne.symm hm.1)]
theorem Nx:∀(l:aiE Nat)(Bs h:aiE an)(i:Nat),l.length≤Bs.length→l.Nodup→(∀j∈l,j<h.length)→i<Bs.length→(gA l Bs h)[rn l h.length i]?=Bs[i]?
 |[],Bs,h,i,_,_,_,hi=>by rw[gA,rn,ah5 (aiv _ _),Nat.add_sub_cancel_left]
 |j::l,[],h,i,hl,_,_,_=>by simp at hl
 |j::l,B::Bs,h,0,hl,hd,aZ,_=>by
  rw[List.nodup_cons]at hd;rw[gA,rn,Ln l Bs _ j (by simpa using hl) (by rw[List.length_set];exact aZ j (by simp)) hd.1,aij (aZ j (by simp))];rfl
 |j::l,B::Bs,h,i+1,hl,hd,aZ,hi=>by
  rw[List.nodup_cons]at hd;have:=Nx l Bs (h.set j B) i (by simpa using hl) hd.2 (fun x hx=>by rw[List.length_set];exact aZ x (by simp [hx])) (by simpa using hi);rw[List.length_set]at this;rw[gA,rn,this];simp
def xq(l:aiE Nat)(base n:Nat):aiG Nat:=if n∈l then some (l.idxOf n)else if base≤n then some (l.length+(n-base))else none
theorem LN{l:aiE Nat}{base:Nat}(hd:l.Nodup)(aZ:∀j∈l,j<base)(i:Nat):xq l base (rn l base i)=some i:=by
 unfold xq;by_cases hi:i<l.length
 ·have e:l[i]?=some l[i]:=ahT hi;rw[AD l base i _ e,if_pos (List.getElem_mem _),List.Nodup.idxOf_getElem hd i hi]
 ·rw[FN l base i (by omega),if_neg (fun h=>by have:=aZ _ h;omega),if_pos (aiv _ _)]
  congr 1;omega
theorem Lz{l:aiE Nat}{base n i:Nat}(h:xq l base n=some i):rn l base i=n:=by
 unfold xq at h;split at h
 ·rename_i hm
  cases h
  have aZ:=List.idxOf_lt_length_of_mem hm;refine AD l base _ n ?_;rw[ahT aZ,List.getElem_idxOf]
 ·split at h
  ·cases h
   rw[FN _ _ _ (by omega)];omega
  ·cases h
theorem XJ{l:aiE Nat}{base n:Nat}(h:xq l base n=none):n<base∧n ∉ l:=by
 unfold xq at h;split at h
 ·cases h
 ·split at h
  ·cases h
  ·rename_i h1 h2;exact⟨by omega,h1⟩
def qG{α:Type}(o:aiG Nat)(f:Nat→α)(d:α):α:=match o with|some i=>f i|none=>d
theorem NO{H:aiE an}{l:aiE Nat}{h:aiE an}
 (hd:l.Nodup) (aZ:∀j∈l,j<h.length) (hH:∀(i j:Nat),l[i]?=some j→h[j]?=(H[i]?).map (an.aY (rn l h.length))) (hk:l.length=H.length)
 (hb:H.all (an.bf H.length)=true) {G:Gh} {w:aiJ} (hi:cw G w h):
 ∃G0:Gh,G0.N=H.length∧cw G0 w H∧oS (rn l h.length) G0 G∧∀(G1:Gh)(w':aiJ)(H':aiE an),cp H.length G0 w G1 w'→H.length≤G1.N→cw G1 w' H'→
  ∃G2:Gh,cp G.N G w G2 w'∧G.N≤G2.N∧cw G2 w' (gA l (H'.map (an.aY (rn l h.length))) h)∧oS (rn l h.length) G1 G2:=by
 obtain⟨σ,hσ⟩:∃σ,σ=rn l h.length:=⟨_,rfl⟩;rw[←hσ]at hH ⊢;have HB:h.length=G.N:=hi.len;obtain⟨own,eg⟩:∃own:Nat→Prop,own=fun b=>∃j∈l,cA h G j=some b:=⟨_,rfl⟩;obtain⟨G0,jU⟩:∃G0:Gh,G0={N:=H.length,Z:=fun b=>b<w.heap.size∧¬own b,S:=G.S,bA:=fun i=>G.bA (σ i),sg:=fun i=>G.sg (σ i),ow:=fun i=>G.ow (σ i),fl:=fun i=>G.fl (σ i),M:=G.M}:=⟨_,rfl⟩;have FQ:∀i,i<H.length→∃j,l[i]?=some j∧σ i=j∧j∈l:=fun i dT=>by
  have iY:i<l.length:=by rw[hk];exact dT
  exact⟨l[i],ahT iY,by rw[hσ];exact AD l _ i _ (ahT iY),List.getElem_mem _⟩
 have rj:oS σ G0 G:=by
  subst jU;refine⟨fun n hn=> ?_,fun _ _=>rfl,fun _ _=>rfl,fun _ _=>rfl,fun _ _=>rfl,fun _ _=>Iff.rfl⟩;obtain⟨j,_,e,hj⟩:=FQ n hn;rw[e,←HB];exact aZ j hj
 have cZ:G0.N=H.length:=by rw[jU]
 have QN:∀(i:Nat)(B:an),H[i]?=some B→h[σ i]?=some (B.aY σ):=fun i B hB=>by
  obtain⟨j,e1,e2,_⟩:=FQ i (ahP.1 hB).1;rw[e2,hH i j e1,hB];rfl
 have J9:∀(i:Nat)(B:an)(b:Nat),H[i]?=some B→B.eo G0 i=some b→cA h G (σ i)=some b:=fun i B b hB gk=>by
  rw[dV (QN i B hB),Ms rj (by rw[cZ];exact(ahP.1 hB).1) B];exact gk
 have uX:∀(i:Nat)(B:an)(b:Nat),H[i]?=some B→B.eo G0 i=some b→¬G0.Z b:=fun i B b hB gk hz=>by
  rw[jU]at hz;refine hz.2 ?_;rw[eg];obtain⟨j,_,e2,hj⟩:=FQ i (ahP.1 hB).1;exact⟨j,hj,by rw[←e2];exact J9 i B b hB gk⟩
 have acg:∀i i',σ i=σ i'→i=i':=fun i i' e=>by
  have h1:=LN hd aZ i;have h2:=LN hd aZ i';rw[hσ]at e;rw[e,h2]at h1;exact(ah8 h1).symm
 have qj:cw G0 w H:=by
  refine⟨cZ.symm,fun b hz=> ?_,fun b o hs=> ?_,fun i B hB=> ?_,fun m n b h1 h2=> ?_,by rw[jU];exact hi.gl⟩
  ·rw[jU]at hz;exact hz.1
  ·rw[jU]at hs;exact hi.S b o hs
  ·have hiN:i<G0.N:=by rw[cZ];exact(ahP.1 hB).1
   rw[aif]at hb;exact eF.tP rj hiN (by rw[cZ];exact hb B (ah2 hB)) (fun b gk=>uX i B b hB gk) (hi.dz (σ i) _ (QN i B hB))
  ·obtain⟨B1,pe,jo⟩:=kQ h1;obtain⟨B2,Ly,kX⟩:=kQ h2;exact acg m n (hi.inj _ _ b (J9 m B1 b pe jo) (J9 n B2 b Ly kX))
 refine⟨G0,cZ,qj,rj,fun G1 w' H' hE gi iH=> ?_⟩;have AR:H'.length=G1.N:=iH.len;obtain⟨ps,DB⟩:∃ps,ps=xq l h.length:=⟨_,rfl⟩;obtain⟨G2,gX⟩:∃G2:Gh,G2={N:=G.N+(G1.N-H.length),Z:=G.Z,S:=G1.S,bA:=fun n=>qG (ps n) G1.bA (G.bA n),sg:=fun n=>qG (ps n) G1.sg (G.sg n),ow:=fun n=>qG (ps n) G1.ow (G.ow n),fl:=fun n=>qG (ps n) G1.fl (G.fl n),M:=G.M}:=⟨_,rfl⟩;have Hj:∀i,ps (σ i)=some i:=fun i=>by rw[DB,hσ];exact LN hd aZ i
 have Hk:∀i,H.length≤i→σ i=G.N+(i-H.length):=fun i js=>by rw[hσ,FN l _ i (by omega),HB,hk]
 have abn:∀i,i<H.length→σ i<G.N:=fun i GO=>by
  obtain⟨j,_,e,hj⟩:=FQ i GO;rw[e,←HB];exact aZ j hj
 have MF:oS σ G1 G2:=by
  subst gX;refine⟨fun n hn=> ?_,fun n _=>by simp only[Hj];rfl,fun n _=>by simp only[Hj];rfl,fun n _=>by simp only[Hj];rfl,fun n _=>by simp only[Hj];rfl,fun _ _=>Iff.rfl⟩;show σ n<G.N+(G1.N-H.length);by_cases fJ:n<H.length
  ·have:=abn n fJ;omega
  ·rw[Hk n (by omega)];omega
 have Po:∀b,G0.Z b→G1.Z b:=hE.Z.1.1;have J4:∀b,G.Z b→G0.Z b:=fun b hz=>by
  rw[jU];refine⟨hi.z b hz,fun ho=> ?_⟩;rw[eg]at ho;obtain⟨j,_,ho⟩:=ho;obtain⟨B,hB,gk⟩:=kQ ho;exact(hi.dz j B hB).lz gk hz
 have jR:cp G.N G w G2 w':=by
  refine⟨hE.size,fun b o hs=> ?_,fun b o hs=> ?_,fun n hn=> ?_,fun n hn=> ?_,gB (by rw[gX]) (by rw[gX]),fun b hz=>hE.old b (J4 b hz),hE.os,hE.tape,hE.output,fun b o hs=> ?_⟩
  ·rw[gX];exact hE.S b o (by rw[jU];exact hs)
  ·exact hE.cell b o (by rw[jU];exact hs)
  ·rw[gX];show qG (ps n) G1.bA (G.bA n)=G.bA n;cases hp:ps n with
   |none=>rfl
   |some i=>
    have e:σ i=n:=by rw[hσ];rw[DB]at hp;exact Lz hp
    have dT:i<H.length:=Nat.lt_of_not_le fun js=>by rw[Hk i js]at e;omega
    show G1.bA i=G.bA n;rw[hE.bA i dT,jU,←e]
  ·rw[gX];show(qG (ps n) G1.fl (G.fl n)=G.fl n∧qG (ps n) G1.sg (G.sg n)=G.sg n)∨G.fl n<qG (ps n) G1.fl (G.fl n);cases hp:ps n with
   |none=>exact .inl ⟨rfl,rfl⟩
   |some i=>
    have e:σ i=n:=by rw[hσ];rw[DB]at hp;exact Lz hp
    have dT:i<H.length:=Nat.lt_of_not_le fun js=>by rw[Hk i js]at e;omega
    have:=hE.fr i dT;rw[jU]at this;simp only[e]at this;exact this
  ·rw[gX]at hs;rcases hE.new b o hs with h1|h1
   ·rw[jU]at h1;exact .inl h1
   ·exact .inr fun hz=>h1 (J4 b hz)
 have hlen:(gA l (H'.map (an.aY σ)) h).length=G2.N:=by
  rw[Rx _ _ _ (by rw[ahU,hk,AR];omega),ahU,AR,hk,HB,gX]
 have afB:∀i,i<G1.N→(gA l (H'.map (an.aY σ)) h)[σ i]?=(H'[i]?).map (an.aY σ):=fun i dT=>by
  rw[←ahW,hσ];exact Nx l _ h i (by rw[ahU,hk,AR];omega) hd aZ (by rw[ahU,AR];exact dT)
 have GQ:∀(n:Nat)(B:an),(gA l (H'.map (an.aY σ)) h)[n]?=some B→(∃i B',i<G1.N∧n=σ i∧H'[i]?=some B'∧B=B'.aY σ)∨(ps n=none∧n ∉ l∧h[n]?=some B):=fun n B hB=>by
  have TQ:n<G2.N:=by rw[←hlen];exact(ahP.1 hB).1
  cases hp:ps n with
  |none=>
   rw[DB]at hp;obtain⟨h1,h2⟩:=XJ hp;exact .inr ⟨rfl,h2,by rw[←Ln l (H'.map (an.aY σ)) h n (by rw[ahU,hk,AR];omega) h1 h2];exact hB⟩
  |some i=>
   have e:σ i=n:=by rw[hσ];rw[DB]at hp;exact Lz hp
   have dT:i<G1.N:=Nat.lt_of_not_le fun js=>by
    rw[Hk i (by omega)]at e;rw[gX]at TQ;have:n<G.N+(G1.N-H.length):=TQ;omega
   rw[←e,afB i dT]at hB;cases hx:H'[i]? with
   |none=>rw[hx]at hB;cases hB
   |some B'=>rw[hx]at hB;cases hB;exact .inl ⟨i,B',dT,e.symm,hx,rfl⟩
 have hold:∀(n b:Nat),n ∉ l→cA h G n=some b→G0.Z b:=fun n b hn gk=>by
  rw[jU];refine⟨hi.iL gk,fun ho=> ?_⟩;rw[eg]at ho;obtain⟨j,hj,ho⟩:=ho;exact hn ((hi.inj n j b gk ho)▸hj)
 have Cp:∀(n b:Nat),cA (gA l (H'.map (an.aY σ)) h) G2 n=some b→(∃i,n=σ i∧cA H' G1 i=some b∧¬G0.Z b)∨(n ∉ l∧cA h G n=some b∧G0.Z b):=fun n b gk=>by
  obtain⟨B,hB,jo⟩:=kQ gk;rcases GQ n B hB with⟨i,B',dT,rfl,eG,rfl⟩|⟨hp,hn,eG⟩
  ·rw[Ms MF dT]at jo;exact .inl ⟨i,rfl,(dV eG).trans jo,fun hz=>(iH.dz i B' eG).lz jo (Po _ hz)⟩
  ·have e:B.eo G2 n=B.eo G n:=by
    subst gX;cases B<;>simp only[an.eo,hp,qG]
   have:=(dV eG).trans (e▸jo);exact .inr ⟨hn,this,hold n b hn this⟩
 refine⟨G2,jR,by rw[gX];exact aiv _ _,⟨hlen,fun b hz=> ?_,fun b o hs=> ?_,fun n B hB=> ?_,fun m n b h1 h2=> ?_,hi.gl.bq jR⟩,MF⟩
 ·rw[gX]at hz;exact aid (hi.z b hz) hE.size
 ·rw[gX]at hs;exact iH.S b o hs
 ·rcases GQ n B hB with⟨i,B',dT,rfl,eG,rfl⟩|⟨hp,hn,eG⟩
  ·refine eF.aY MF dT (fun b gk hz=> ?_) (iH.dz i B' eG);have:=(iH.dz i B' eG).lz gk;rw[gX]at hz;exact this (Po b (J4 b hz))
  ·have mV:n<G.N:=by rw[←hi.len];exact(ahP.1 eG).1
   refine eF.bq mV jR (by rw[gX];exact aiv _ _) (by rw[gX];simp only[hp];exact⟨rfl,rfl,rfl⟩) (fun b gk=> ?_) (hi.dz n B eG);have hz:=hold n b hn ((dV eG).trans gk);refine⟨hE.old b hz,fun o kj hs=> ?_⟩;rw[gX]at hs;rcases hE.new b o hs with h1|h1
   ·rw[jU]at h1;exact kj h1
   ·exact h1 hz
 ·rcases Cp m b h1 with⟨i,rfl,a1,a2⟩|⟨a0,a1,a2⟩<;>rcases Cp n b h2 with⟨j,rfl,b1,b2⟩|⟨b0,b1,b2⟩
  ·rw[iH.inj i j b a1 b1]
  ·exact absurd b2 a2
  ·exact absurd a2 b2
  ·exact hi.inj m n b a1 b1
theorem bY.QX{P:aiH}{f:FuncId}{args:aiE AV}{H:aiE an}{K:AV→aiE an→Prop}(hc:bY P f args H K){l:aiE Nat}{h:aiE an}
 (hd:l.Nodup) (aZ:∀j∈l,j<h.length) (hH:∀(i j:Nat),l[i]?=some j→h[j]?=(H[i]?).map (an.aY (rn l h.length))) (hk:l.length=H.length)
 (ha:args.all (AV.bf H.length)=true) (hb:H.all (an.bf H.length)=true):
 bY P f (args.map (AV.aY (rn l h.length))) h fun r' h'=>∃r H',K r H'∧r'=r.aY (rn l h.length)∧h'=gA l (H'.map (an.aY (rn l h.length))) h:=by
 refine⟨hc.1,fun G w vs hi x9 Wn=> ?_⟩;obtain⟨G0,cZ,qj,rj,Ng⟩:=NO hd aZ hH hk hb hi;refine(hc.2 G0 w vs qj (by rw[x9,ahU]) fun i u c hu hx=> ?_).mono fun e w' hp=> ?_
 ·rw[aif]at ha;exact aL.tP rj (Wn i u (c.aY (rn l h.length)) hu (by rw[ahW,hx];rfl)) c rfl (by rw[cZ];exact ha c (ah2 hx))
 ·obtain⟨v,G1,r,H',rfl,hE,gi,iH,hv,hK⟩:=hp;rw[cZ]at gi hE;obtain⟨G2,e1,e2,e3,e4⟩:=Ng G1 w' H' hE gi iH;exact⟨v,G2,r.aY _,_,rfl,e1,e2,e3,hv.aY e4,r,H',hK,rfl,rfl⟩
mutual
theorem vy{σ τ:Nat→Nat}{k:Nat}(h:∀i,i<k→σ i=τ i):∀x:AV,x.bf k=true→x.aY σ=x.aY τ
 | .ptr n off,hb=>by rw[AV.bf]at hb;rw[AV.aY,AV.aY,h n (by rw[Bool.not_eq_true',←Bool.not_eq_true,dQ]at hb;omega)]
 | .own n xs,hb=>by rw[AV.bf]at hb;rw[AV.aY,AV.aY,h n (by rw[Bool.not_eq_true',←Bool.not_eq_true,dQ]at hb;omega)]
 | .row n off len cap q,hb=>by rw[AV.bf]at hb;rw[AV.aY,AV.aY,h n (by rw[Bool.not_eq_true',←Bool.not_eq_true,dQ]at hb;omega)]
 | .mp n,hb=>by rw[AV.bf]at hb;rw[AV.aY,AV.aY,h n (by rw[Bool.not_eq_true',←Bool.not_eq_true,dQ]at hb;omega)]
 | .dp n,hb=>by rw[AV.bf]at hb;rw[AV.aY,AV.aY,h n (by rw[Bool.not_eq_true',←Bool.not_eq_true,dQ]at hb;omega)]
 | .vec n o len L q,hb=>by rw[AV.bf]at hb;rw[AV.aY,AV.aY,h n (by rw[Bool.not_eq_true',←Bool.not_eq_true,dQ]at hb;omega)]
 | .dw n i j L q,hb=>by rw[AV.bf]at hb;rw[AV.aY,AV.aY,h n (by rw[Bool.not_eq_true',←Bool.not_eq_true,dQ]at hb;omega)]
 | .agg cs,hb=>by rw[AV.bf]at hb;rw[AV.aY,AV.aY,um h cs hb]
 | .cb cs,hb=>by rw[AV.bf]at hb;rw[AV.aY,AV.aY,um h cs hb]
 | .fn f cs,hb=>by rw[AV.bf]at hb;rw[AV.aY,AV.aY,um h cs hb]
 | .d x,_=>by rw[AV.aY,AV.aY]
 | .bt xs i off,_=>by rw[AV.aY,AV.aY]
 | .full xs,_=>by rw[AV.aY,AV.aY]
 | .hid c,_=>by rw[AV.aY,AV.aY]
 | .dead,_=>by rw[AV.aY,AV.aY]
theorem um{σ τ:Nat→Nat}{k:Nat}(h:∀i,i<k→σ i=τ i):∀l:aiE AV,AV.mo k l=true→AV.fj σ l=AV.fj τ l
 |[],_=>by rw[AV.fj,AV.fj]
 |x::l,hb=>by
  rw[AV.mo,ahR]at hb;rw[AV.fj,AV.fj,vy h x hb.1,um h l hb.2]
end
theorem ME{σ τ:Nat→Nat}{k:Nat}(h:∀i,i<k→σ i=τ i)(B:an)(hb:B.bf k=true):B.aY σ=B.aY τ:=by
 cases B with
 |cells cs=>rw[an.aY,an.aY,um h cs (by rw[l5];exact hb)]
 |lp ls p as bd cs=>rw[an.aY,an.aY,um h cs (by rw[l5];exact hb)]
 |it sn cs=>rw[an.aY,an.aY,um h cs (by rw[l5];exact hb)]
 |vec e q cs=>
  rw[an.aY,an.aY]
  congr 1
  refine ail fun c hc=>um h c ?_;simp only[an.bf,aif]at hb;rw[l5,aif];exact hb c hc
 |_=>rfl
theorem Ti:∀(l:aiE Nat)(b c i:Nat),i<l.length→rn l b i=rn l c i
 |[],b,c,i,h=>by simp at h
 |a::l,b,c,0,_=>by rw[rn,rn]
 |a::l,b,c,i+1,h=>by rw[rn,rn];exact Ti l b c i (by simpa using h)
def sw:aiE Nat→Bool
 |[]=>true
 |a::l=> !l.any (·==a)&&sw l
theorem Tt:∀{l:aiE Nat},sw l=true→l.Nodup
 |[],_=>List.nodup_nil
 |a::l,h=>by
  rw[sw,ahR,Bool.not_eq_true',←Bool.not_eq_true]at h;rw[List.nodup_cons];exact⟨fun hm=>h.1 (List.any_eq_true.2 ⟨a,hm,by simp⟩),Tt h.2⟩
theorem O7:∀(l:aiE Nat)(h Bs:aiE an),l.map (fun j=>h[j]?)=Bs.map some→gA l Bs h=h
 |[],h,Bs,e=>by
  cases Bs with
  |nil=>rw[gA,aia]
  |cons=>simp at e
 |j::l,h,Bs,e=>by
  cases Bs with
  |nil=>simp at e
  |cons B Bs=>
   rw[aie,aie]at e;injection e with e1 e2;have hs:h.set j B=h:=by
     refine List.ext_getElem? fun m=> ?_;by_cases em:j=m
     ·subst em;rw[aij (ahP.1 e1).1,e1]
     ·rw[aio em]
   rw[gA,hs];exact O7 l h Bs e2
section
variable {P:aiH} {f:FuncId} {fE:aiE AV} {H:aiE an} {l:aiE Nat} {h:aiE an}
theorem Ro{l:aiE Nat}{h H:aiE an}{σ:Nat→Nat}(hb:l.map (fun j=>h[j]?)=H.map fun B=>some (B.aY σ)):l.length=H.length∧(∀j∈l,j<h.length)∧∀(i j:Nat),l[i]?=some j→h[j]?=(H[i]?).map (an.aY σ):=by
 have h1:l.length=H.length:=by simpa using congrArg List.length hb
 have key:∀(i j:Nat),l[i]?=some j→∃B,H[i]?=some B∧h[j]?=some (B.aY σ):=fun i j e=>by
  have aZ:i<H.length:=by rw[←h1];exact(ahP.1 e).1
  have:=congrArg (·[i]?) hb;simp only[ahW,e,ahT aZ,Option.map_some,Option.some.injEq]at this;exact⟨_,ahT aZ,this⟩
 refine⟨h1,fun j hj=> ?_,fun i j e=> ?_⟩
 ·obtain⟨i,hi⟩:=List.mem_iff_getElem?.1 hj;obtain⟨B,_,h2⟩:=key i j hi;exact(ahP.1 h2).1
 ·obtain⟨B,h2,h3⟩:=key i j e;rw[h2,h3];rfl
theorem bY.iK{r:AV}{H':aiE an}(hc:bY P f fE H fun r1 h1=>r1=r∧h1=H')(hd:sw l=true)(hb:l.map (fun j=>h[j]?)=H.map fun B=>some (B.aY (rn l h.length)))(hl:(fE.all (AV.bf H.length)&&H.all (an.bf H.length))=true):
 bY P f (fE.map (AV.aY (rn l h.length))) h fun r1 h1=>r1=r.aY (rn l h.length)∧h1=gA l (H'.map (an.aY (rn l h.length))) h:=by
 rw[ahR]at hl;obtain⟨h1,h2,h3⟩:=Ro hb;exact(hc.QX (Tt hd) h2 h3 h1 hl.1 hl.2).mono fun r1 h1 ⟨r2,H2,⟨e1,e2⟩,e3,e4⟩=>by subst e1;subst e2;exact⟨e3,e4⟩
theorem bY.rq{r:AV}(hc:bY P f fE H fun r1 h1=>r1=r∧h1=H)(hd:sw l=true)(hb:l.map (fun j=>h[j]?)=H.map fun B=>some (B.aY (rn l 0)))(hl:(fE.all (AV.bf H.length)&&H.all (an.bf H.length)&&r.bf H.length)=true)(e:aiE an):
 bY P f (fE.map (AV.aY (rn l 0))) (h++e) fun r1 h1=>r1=r.aY (rn l 0)∧h1=h++e:=by
 rw[ahR,ahR]at hl;obtain⟨⟨l1,l2⟩,l3⟩:=hl;obtain⟨h1,h2,_⟩:=Ro hb;have JR:∀i,i<H.length→rn l (h++e).length i=rn l 0 i:=fun i hi=>Ti l _ _ i (by rw[h1];exact hi);have jo:H.map (fun B=>some (B.aY (rn l (h++e).length)))=H.map fun B=>some (B.aY (rn l 0)):=by
   refine ail fun B hB=> ?_;rw[aif]at l2;rw[ME JR B (l2 B hB)]
 have kX:l.map (fun j=>(h++e)[j]?)=H.map fun B=>some (B.aY (rn l (h++e).length)):=by
  rw[jo,←hb];refine ail fun j hj=> ?_;rw[ahZ (h2 j hj)]
 have:=hc.iK hd kX (by rw[l1,l2];rfl);have ha:fE.map (AV.aY (rn l (h++e).length))=fE.map (AV.aY (rn l 0)):=by
  refine ail fun x hx=> ?_;rw[aif]at l1;exact vy JR x (l1 x hx)
 rw[ha,vy JR r l3]at this;refine this.mono fun r1 h1 ⟨e1,e2⟩=>⟨e1,?_⟩;rw[e2];refine O7 l _ _ ?_;rw[kX,List.map_map];rfl
end
end Go.Proofs.YtphmhnabilhbgaaGreatDoor
namespace Go.Proofs.YtphmhnabilhbgaaGreatDoor
open Go.RowKit
def an.vd:an→Prop
 | .vec _ _ cs=>(∀f,cs.map (AV.fj f)=cs)∧∀m,cs.all (·.all (AV.bf m))=true
 |_=>True
theorem abe(f:Nat→Nat)(c:aiE D):AV.fj f (c.map AV.d)=c.map AV.d:=by
 induction c with
 |nil=>simp [AV.fj]
 |cons x c ih=>simp only[aie,AV.fj,AV.aY,ih]
theorem IW(xs:aiE (aiE D)):(∀f,(aO xs).map (AV.fj f)=aO xs)∧∀m,(aO xs).all (·.all (AV.bf m))=true:=by
 refine⟨fun f=> ?_,fun m=>by simp [aO,AV.bf]⟩;unfold aO;rw[List.map_map];exact ail fun c _=>abe f c
theorem Ph(k:Nat):(∀f,AV.fj f (List.replicate k .dead)=List.replicate k .dead)∧∀m,(List.replicate k AV.dead).all (AV.bf m)=true:=by
 refine⟨fun f=> ?_,fun m=>by simp [AV.bf]⟩
 induction k with
 |zero=>simp [AV.fj]
 |succ k ih=>simp only[List.replicate_succ,AV.fj,AV.aY,ih]
def VD:aiE an→Prop
 |[]=>True
 |B::l=>B.vd∧VD l
theorem gZ:VD []:=trivial
theorem kH{e k:Nat}{xs:aiE (aiE D)}{l:aiE an}(h:VD l):VD (.vec e k (aO xs)::l):=⟨IW xs,h⟩
theorem Yg{e k q:Nat}{xs:aiE (aiE D)}{l:aiE an}(h:VD l):VD (.vec e k (aO xs++[List.replicate q .dead])::l):=
 ⟨⟨fun f=>by rw[List.map_append,(IW xs).1 f,aie,(Ph q).1 f];rfl,fun m=>by rw[List.all_append,(IW xs).2 m,aiA,(Ph q).2 m];rfl⟩,h⟩
theorem VD.mem:∀{l:aiE an},VD l→∀B∈l,B.vd
 |[],_,B,hB=>by cases hB
 |_::_,h,B,hB=>by
  rcases aik.1 hB with rfl|hB
  ·exact h.1
  ·exact VD.mem h.2 B hB
def an.qc(f:Nat→Nat):an→an
 | .vec e k cs=> .vec e k cs
 |B=>B.aY f
theorem V7{f:Nat→Nat}{B:an}(h:B.vd):B.qc f=B.aY f:=by
 cases B with
 |vec e k cs=>simp only[an.qc,an.aY];rw[h.1 f]
 |_=>rfl
theorem Zv{f:Nat→Nat}{l:aiE an}(h:VD l):l.map (an.qc f)=l.map (an.aY f):=ail fun B hB=>V7 (h.mem B hB)
def an.xa(m:Nat):an→Bool
 | .vec .. =>true
 |B=>B.bf m
theorem ad5{m:Nat}{B:an}(h:B.vd)(hl:B.xa m=true):B.bf m=true:=by
 cases B with
 |vec e k cs=>exact h.2 m
 |_=>exact hl
theorem XQ{m:Nat}{l:aiE an}(h:VD l)(hl:l.all (an.xa m)=true):l.all (an.bf m)=true:=by
 rw[aif]at hl ⊢;exact fun B hB=>ad5 (h.mem B hB) (hl B hB)
theorem agk{f:Nat→Nat}{l:aiE an}(h:VD l):(l.map fun B=>some (B.qc f))=l.map fun B=>some (B.aY f):=ail fun B hB=>congrArg some (V7 (h.mem B hB))
inductive In
 |none
 |bit (x:AV)
 |eq (x:AV)
 |el (xs:List (List D)) (i:Int)
 |lt (z:Int) (n:Nat)
 |len (xs:List (List D))
 |sub (xs:List (List D)) (lo:Int) (hi:Option Int) (k:Nat)
 |app (xs ys:List (List D)) (len k dx:Nat)
 |nz (b:Int)
 |nn (b:Int)
 |str (b:ByteArray) (lo hi:Int)
 |cat (n:Nat)
 |pr (p:Prop)
 |sd (p:Sd)
 |G6 (xs:List (List D))
 |Hh (c:List D) (z:Int) (n:Nat)
 |ch (b:ByteArray) (i:Int)
 |call (f:FuncId) (args:List AV)
 |jv (f:FuncId) (args:List AV) (h:List an)
 |Dr (c:gV) (args:List AV)
 |iK (f:FuncId) (args:List AV) (h:List an)
def I6(P:aiH)(c:gV)(args:aiE AV)(r:AV):Prop:=∃g cs,c= .fn g cs∧bg P g (args++cs.map gV.av) (·=r)
inductive cD
 |none
 |bit (b:Bool)
 |Dg
 |eq (y:AV)
 |el (c:List D)
 |ok
 |nat (n:Nat)
 |list (ys:List (List D))
 |P0 (ys:List (List D)) (n:Nat)
 |byte (c:UInt8)
 |bytes (s:ByteArray)
 |one (d:D)
 |va (a:VA)
 |ret (r:AV)
 |Kp (r:AV) (h:List an)
 |LD (l:List Nat) (fE:List AV) (H:List an) (r:AV) (H':List an)
 |rq (l:List Nat) (fE:List AV) (H:List an) (r:AV)
 |BC (l:List Nat) (fE:List AV) (H:List an) (r:AV) (H':List an)
inductive OK(P:Program):In→cD→Prop
 |none {o:cD}:OK P .none o
 |bit {e b:Bool} (h:e=b):OK P (.bit (.d (.v (.bool e)))) (.bit b)
 |Dg:OK P (.bit (.d (.v undef))) .Dg
 |eq {x y:AV} (h:x=y):OK P (.eq x) (.eq y)
 |el {xs:List (List D)} {i:Int} {c:List D} (h0:0≤i) (h:xs[i.toNat]?=some c):OK P (.el xs i) (.el c)
 |lt {z:Int} {n:Nat} (h0:0≤z) (h:z<n):OK P (.lt z n) .ok
 |len {xs:List (List D)} {n:Nat} (h:xs.length=n):OK P (.len xs) (.nat n)
 |sub {xs ys:List (List D)} {lo hi:Int} {k:Nat} (h0:0≤lo) (h1:lo.toNat≤hi.toNat) (h2:0≤hi) (h3:hi.toNat≤xs.length) (hk:∀c∈xs,c.length=k) (h:(xs.take hi.toNat).drop lo.toNat=ys):OK P (.sub xs lo (some hi) k) (.list ys)
 |DF {xs ys:List (List D)} {lo:Int} {k:Nat} (h0:0≤lo) (h1:lo.toNat≤xs.length) (hk:∀c∈xs,c.length=k) (h:xs.drop lo.toNat=ys):OK P (.sub xs lo .none k) (.list ys)
 |app {xs ys zs:List (List D)} {len k dx n:Nat} (hl:len=xs.length) (hx:∀c∈xs,c.length=k) (hy:∀c∈ys,c.length=k) (hm:xs.length+ys.length≤maxLen) (hb:(xs.length+ys.length)*dx≤140737488355328) (hz:xs++ys=zs) (hn:xs.length+ys.length=n):OK P (.app xs ys len k dx) (.P0 zs n)
 |nz {b:Int} (h:b≠0):OK P (.nz b) .ok
 |nn {b:Int} (h:0≤b):OK P (.nn b) .ok
 |str {b:ByteArray} {lo hi:Int} (h0:0≤lo) (h1:lo.toNat≤hi.toNat) (h2:0≤hi) (h3:hi.toNat≤b.size):OK P (.str b lo hi) .ok
 |ch {b:ByteArray} {i:Int} {c:UInt8} (h0:0≤i) (h:b[i.toNat]?=some c):OK P (.ch b i) (.byte c)
 |cat {n:Nat} (h:n≤maxLen):OK P (.cat n) .ok
 |pr {p:Prop} (a:VA) (h:p):OK P (.pr p) (.va a)
 |sd {p:Sd} {o:cD} (h:p.ok):OK P (.sd p) o
 |G6 {xs:List (List D)} {s:ByteArray} (h:∃ns:List Int,xs=ns.map (fun n=>[.v (.int .u8 n)])∧s=⟨(ns.map fun n=>UInt8.ofNat n.toNat).toArray⟩):OK P (.G6 xs) (.bytes s)
 |Hh {c:List D} {z:Int} {n:Nat} {d:D} (h0:0≤z) (h1:z<n) (h:c[z.toNat]?=some d):OK P (.Hh c z n) (.one d)
 |call {f:FuncId} {args:List AV} {r:AV} (h:bg P f args (·=r)):OK P (.call f args) (.ret r)
 |Dr {c:gV} {args:List AV} {r:AV} (h:I6 P c args r):OK P (.Dr c args) (.ret r)
 |iK {f:FuncId} {cQ fE:List AV} {h H H':List an} {l:List Nat} {r:AV} (ha:cQ=fE.map (AV.aY (rn l h.length))) (hd:sw l=true) (hb:l.map (fun j=>h[j]?)=H.map fun B=>some (B.aY (rn l h.length))) (hl:(fE.all (AV.bf H.length)&&H.all (an.bf H.length))=true)
  (hc:bY P f fE H fun r1 h1=>r1=r∧h1=H'):OK P (.iK f cQ h) (.LD l fE H r H')
 |me {f:FuncId} {cQ fE:List AV} {h H H':List an} {l:List Nat} {r:AV} (sr:VD H) (hv:VD H') (ha:cQ=fE.map (AV.aY (rn l h.length))) (hd:sw l=true) (hb:l.map (fun j=>h[j]?)=H.map fun B=>some (B.qc (rn l h.length))) (hl:(fE.all (AV.bf H.length)&&H.all (an.xa H.length))=true)
  (hc:bY P f fE H fun r1 h1=>r1=r∧h1=H'):OK P (.iK f cQ h) (.BC l fE H r H')
 |rq {f:FuncId} {cQ fE:List AV} {h H:List an} {l:List Nat} {r:AV} (ha:cQ=fE.map (AV.aY (rn l 0))) (hd:sw l=true) (hb:l.map (fun j=>h[j]?)=H.map fun B=>some (B.aY (rn l 0))) (hl:(fE.all (AV.bf H.length)&&H.all (an.bf H.length)&&r.bf H.length)=true)
    (hc:bY P f fE H fun r1 h1=>r1=r∧h1=H):OK P (.iK f cQ h) (.rq l fE H r)
 |jv {f:FuncId} {args:List AV} {h h':List an} {r:AV} (hc:bY P f args h fun r1 h1=>r1=r∧h1=h'):OK P (.jv f args h) (.Kp r h')
def yC(P:aiH)(t:TypeId)(cs:aiE AV)(off:Nat):aiG AV:=
 match lr P t,fO P t with
 |some true,some k=>bif cN (off+k) cs.length then some (.agg ((cs.drop off).take k))else none
 |some false,some _=>cs[off]?
 |_,_=>none
def xh(h:aiE an)(p:AV):aiG (aiE AV×Nat):=
 match p with
 | .ptr n off=>match h[n]? with
   |some (.cells cs)=>some (cs,off)
   |_=>none
 | .bt xs i off=>match xs[i]? with
   |some c=>some (c.map .d,off)
   |none=>none
 |_=>none
def M4(x:AV)(i:aiG Int)(k:Nat)(a:cD):aiG (AV×In):=
 match x.fY,i,a with
 |some xs,some z, .el c=>bif c.length==k then some (.bt [c] 0 0, .el xs z)else none
 |_,_,_=>none
def Jr(P:aiH)(T:TypeId)(x i:AV)(a:cD):aiG (AV×In):=
 match eE P T with
 |some (_,k)=>
  match x with
  | .row n off len _ k'=>match i.int? with
    |some z=>bif k'==k then some (.ptr n (off+z.toNat*k), .lt z len)else none
    |none=>none
  |x=>M4 x i.int? k a
 |none=>match sP P T,x,i.int? with
  |some (n,_,k), .ptr b off,some z=>some (.ptr b (off+z.toNat*k), .lt z n)
  |some (n,_,k), .bt [c] 0 0,some z=>match a with
   | .one d=>bif k==1 then some (.bt [[d]] 0 0, .Hh c z n)else none
   |_=>none
  |_,_,_=>none
def MD(P:aiH)(T:TypeId)(x:AV)(a:cD):aiG (AV×In):=
 match x with
 | .d (.v (.string s))=>bif gK P T then some (.d (.v (.int .i64 s.size)), .none)else none
 | .row _ _ len _ _=>bif (eE P T).isSome then some (.d (.v (.int .i64 len)), .none)else none
 |x=>match x.fY,a with
  |some xs, .nat n=>bif (eE P T).isSome then some (.d (.v (.int .i64 n)), .len xs)else none
  |_,_=>none
def oN(l:aiG Int)(d:Nat):Nat:=match l with|some z=>z.toNat|none=>d
def Es(ρ:Operand→AV):aiG Operand→aiG (aiG Int)
 |none=>some none
 |some y=>match (ρ y).int? with
  |some z=>some (some z)
  |none=>none
def MH(P:aiH)(T:TypeId)(ρ:Operand→AV)(x:AV)(lo hi mx:aiG Operand)(a:cD):aiG (AV×In):=
 match mx with
 |none=>match Es ρ lo,Es ρ hi with
  |some l,some h=>match x with
   | .d (.v (.string b))=>bif gK P T then some (.d (.v (.string (b.extract (oN l 0) (oN h b.size)))), .str b (l.getD 0) (h.getD b.size))else none
   | .ptr n off=>match sP P T,l,h with
     |some (m,_,k),none,none=>bif cN m 4096&& !cN m 0 then some (.row n off m m k, .none)else none
     |_,_,_=>none
   |x=>match x.fY,eE P T,a with
    |some xs,some (_,k), .list ys=>some (.d (.sl ys), .sub xs (l.getD 0) h k)
    |_,_,_=>none
  |_,_=>none
 |some m=>match lo,hi,ρ m with
  |none,some y, .d (.v (.int _ 0))=>match x.fY,eE P T,ρ y,a with
   |some xs,some (_,k), .d (.v (.int _ 0)), .list _=>some (.full [], .sub xs 0 (some 0) k)
   |_,_,_,_=>none
  |_,_,_=>none
def FR(h:aiE an)(k:Nat)(x:AV):aiG (aiE (aiE D)):=
 match x with
 | .row n off len _ k'=>match h[n]? with
   |some (.cells cs)=>match mf ((cs.drop off).take (len*k))with
    |some ds=>bif k'==k&&cN (off+len*k) cs.length&&((cs.drop off).take (len*k)).all AV.jm then some (my k len ds)else none
    |none=>none
   |_=>none
 |x=>x.fY
def Ls(P:aiH)(T:TypeId)(h:aiE an)(x y:AV)(a:cD):aiG (AV×aiE an×In):=
 match eE P T,a with
 |some (e,k), .P0 zs n'=>match ib P e,ou P e with
  |some z,some dx=>bif cN 1 k&&z.cells.toList.length==k then
   match FR h k y with
   |some ys=>match x with
    | .own n xs=>match h[n]? with
      |some (.front e' k' len)=>bif e'==e&&k'==k then some (.own n zs,h.set n (.front e k n'), .app xs ys len k dx)else none
      |_=>none
    | .d (.v (.slice none 0 0))=>some (.own h.length zs,h++[.front e k n'], .app [] ys 0 k dx)
    | .full xs=>some (.own h.length zs,h++[.front e k n'], .app xs ys xs.length k dx)
    |_=>none
   |none=>none
   else none
  |_,_=>none
 |_,_=>none
def Jo(P:aiH)(T:TypeId)(ps:aiE (Nat×AV)):aiG AV:=
 match JC P T,ib P T with
 |some places,some z=>match np places (z.cells.toList.map fun u=> .d (.v u)) ps with
  |some cs=>bif (ps.all fun p=>p.2.iS)&&z.cells.toList.all Value.oneCell' then some (.agg cs)else none
  |none=>none
 |_,_=>none
def Lv(P:aiH)(T:TypeId)(len:Nat)(ps:aiE (Nat×AV)):aiG AV:=
 match eE P T with
 |some (e,k)=>match ib P e with
  |some z=>match np (tG k 0 len) (pO len (z.cells.toList.map fun u=> .d (.v u))) ps with
   |some cs=>match mf cs with
    |some ds=>bif cN 1 k&&cN (len*k) 16777216&&z.cells.toList.length==k&&z.cells.toList.all Value.oneCell'&&(ps.all fun p=>p.2.iS)then some (.full (my k len ds))else none
    |none=>none
   |none=>none
  |none=>none
 |none=>none
def Fg(P:aiH)(T:TypeId)(op:BinOp)(x y:AV):aiG (AV×In):=
 match x,y with
 | .d (.v (.int k a)), .d (.v (.int k' b))=>
   match Mb op k a b with
   |some v=>bif wx k k' then some (.d (.v v), .nz b)else none
   |none=>match L7 op k a b with
    |some v=>some (.d (.v v), .nn b)
    |none=>match Ni op k a b with
     |some v=>bif wx k k' then some (.d (.v v), .none)else none
     |none=>none
 | .d (.v (.string a)), .d (.v (.string b))=>match Mq op a b with
   |some v=>some (.d (.v v), .none)
   |none=>match op with
    | .add=>some (.d (.v (.string (a++b))), .cat (a.size+b.size))
    |_=>none
 | .d (.v (.bool a)), .d (.v (.bool b))=>match KO op a b with
   |some v=>bif Aj P T then some (.d (.v v), .none)else none
   |none=>none
 | .agg xs, .agg ys=>match E1 P T xs ys with
   |some b=>match uQ op b with
    |some v=>some (.d (.v v), .none)
    |none=>none
   |none=>none
 |_,_=>none
def Ic(P:aiH)(src dst:TypeId)(x:AV)(a:cD):aiG (AV×In):=
 match x with
 | .d (.v (.int _ n))=>match o6 P src,o6 P dst with
   |some _,some k=>some (.d (.v (.int k (k.wrap n))), .none)
   |_,_=>none
 | .d (.v (.string b))=>bif gK P src&&gK P dst then some (.d (.v (.string b)), .none)else none
 |x=>match x.fY,eE P src,a with
  |some xs,some (e,_), .bytes s=>bif EI P e&&gK P dst then some (.d (.v (.string s)), .G6 xs)else none
  |_,_,_=>none
def FT(P:aiH)(T:TypeId)(x:AV)(f:Nat):aiG AV:=
 match q6 P T f,x with
 |some (off,k,true), .agg cs=>bif cN (off+k) cs.length then some (.agg ((cs.drop off).take k))else none
 |some (off,_,false), .agg cs=>cs[off]?
 |_,_=>none
def Hy(h:aiE an):aiG AV→aiG (AV×aiE an×In)
 |some x=>some (x,h, .none)
 |none=>none
def zB(h:aiE an):aiG (AV×In)→aiG (AV×aiE an×In)
 |some (x,i)=>some (x,h,i)
 |none=>none
mutual
def AV.nrm:AV→AV
 | .full xs=> .d (.sl xs)
 | .d (.v (.slice none 0 0))=> .d (.sl [])
 | .agg cs=> .agg (AV.vq cs)
 | .cb cs=> .cb (AV.vq cs)
 |x=>x
def AV.vq:aiE AV→aiE AV
 |[]=>[]
 |x::l=>x.nrm::AV.vq l
end
mutual
def AV.cap:AV→aiG gV
 | .d x=>some (.d x)
 | .own _ xs=>some (.d (.sl xs))
 | .full xs=>some (.d (.sl xs))
 | .bt xs i off=>match xs[i]? with
   |some c=>some (.bt c off)
   |none=>none
 | .fn f cs=>match AV.yl cs with
   |some l=>some (.fn f l)
   |none=>none
 | .hid c=>some c
 |_=>none
def AV.yl:aiE AV→aiG (aiE gV)
 |[]=>some []
 |x::l=>match x.cap,AV.yl l with
  |some c,some l=>some (c::l)
  |_,_=>none
end
def AV.DX:AV→AV
 | .fn f cs=>match AV.yl cs with
   |some l=> .hid (.fn f l)
   |none=> .fn f cs
 |x=>x
def AV.arg(x:AV):AV:=((x.bU 0).nrm).DX
def AV.u5(x:AV):AV:=(x.bU 0).nrm
def Y3:Sd→In
 | .no=> .none
 |p=> .sd p
def xR:aiG (AV×aiE an×Sd)→aiG (AV×aiE an×In)
 |some (x,h,p)=>some (x,h,Y3 p)
 |none=>none
def vD(P:aiH)(op:Op)(ρ:Operand→AV)(h:aiE an)(a:cD):aiG (AV×aiE an×In):=
 match op with
 | .move x| .assign x=>some (ρ x,h, .none)
 | .pick c x y=>match a with
   | .bit b=>some (bif b then ρ x else ρ y,h, .bit (ρ c))
   |_=>none
 | .alloc e=>match ib P e with
   |some z=>some (.ptr h.length 0,h++[an.cells (z.cells.toList.map fun u=> .d (.v u))], .none)
   |none=>none
 | .box _ x=>bif (ρ x).iS then some (.ptr h.length 0,h++[an.cells (ρ x).cells], .none)else none
 | .load t p=>match xh h (ρ p)with
   |some (cs,off)=>match yC P t cs off with
    |some x=>some (x,h, .none)
    |none=>none
   |none=>none
 | .store t p x=>match ρ p with
   | .ptr n off=>match h[n]? with
     |some (.cells cs)=>match fO P t with
      |some k=>bif k==(ρ x).cells.length&&(ρ x).iS&&cN (off+(ρ x).cells.length) cs.length then some (.d (.v undef),h.set n (.cells (gO cs off (ρ x).cells)), .none)else none
      |none=>none
     |_=>none
   |_=>none
 | .nilCheck x=>match ρ x with
   | .ptr n off=>some (.ptr n off,h, .none)
   | .bt xs i off=>some (.bt xs i off,h, .none)
   | .fn f cs=>some (.fn f cs,h, .none)
   |_=>none
 | .fieldAddr S x f=>match q6 P S f with
   |some (fo,_,_)=>match ρ x with
    | .ptr n off=>some (.ptr n (off+fo),h, .none)
    | .bt xs i off=>some (.bt xs i (off+fo),h, .none)
    |_=>none
   |none=>none
 | .field T x f=>Hy h (FT P T (ρ x) f)
 | .indexAddr T x i=>zB h (Jr P T (ρ x) (ρ i) a)
 | .index T x i=>match ρ x,(ρ i).int?,a with
   | .d (.v (.string b)),some z, .byte c=>bif gK P T then some (.d (.v (.int .u8 c.toNat)),h, .ch b z)else none
   |_,_,_=>none
 | .build T ps=>Hy h (Jo P T (ps.toList.map fun p=>(p.1,ρ p.2)))
 | .buildSlice T len ps=>Hy h (Lv P T len (ps.toList.map fun p=>(p.1,ρ p.2)))
 | .slice T x lo hi mx=>zB h (MH P T ρ (ρ x) lo hi mx a)
 | .extract x i=>match ρ x with
   | .cb cs=>match cs[i]? with
     |some c=>some (c,h, .none)
     |none=>none
   |_=>none
 | .makeFunc (.func f) first dO=>match first.toList with
   |[]=>some (.fn f (dO.toList.map ρ),h, .none)
   |_=>none
 | .binOp op T x y _=>zB h (Fg P T op (ρ x) (ρ y))
 | .unOp op _ x=>match ρ x with
   | .d (.v u)=>match Ge op u with
     |some v=>some (.d (.v v),h, .none)
     |none=>none
   |_=>none
 | .convert s t x=>zB h (Ic P s t (ρ x) a)
 | .call c=>match c.callee with
   | .builtin .len=>match c.args.toList,c.argTypes.toList with
     |[x],[T]=>zB h (MD P T (ρ x) a)
     |_,_=>none
   | .builtin .append=>match c.args.toList,c.argTypes.toList with
     |[x,y],[T,U]=>bif (eE P U).isSome then Ls P T h (ρ x) (ρ y) a else none
     |_,_=>none
   | .builtin .max=>match AJ true (c.args.toList.map ρ)with
     |some (k,a)=>some (.d (.v (.int k a)),h, .none)
     |none=>none
   | .builtin .min=>match AJ false (c.args.toList.map ρ)with
     |some (k,a)=>some (.d (.v (.int k a)),h, .none)
     |none=>none
   | .value f=>match ρ f,a with
     | .fn g dO, .ret r=>bif ((c.args.toList.map ρ++dO).map AV.arg).all (AV.bf 0)&&r.bf 0 then some (r,h, .call g ((c.args.toList.map ρ++dO).map AV.arg))else none
     | .fn g dO, .Kp r h'=>some (r,h', .jv g (c.args.toList.map ρ++dO) h)
     | .fn g dO, .LD l _ _ r H'=>some (r.aY (rn l h.length),gA l (H'.map (an.aY (rn l h.length))) h, .iK g ((c.args.toList.map ρ++dO).map AV.u5) h)
     | .fn g dO, .BC l _ _ r H'=>some (r.aY (rn l h.length),gA l (H'.map (an.qc (rn l h.length))) h, .iK g ((c.args.toList.map ρ++dO).map AV.u5) h)
     | .fn g dO, .rq l _ _ r=>some (r.aY (rn l 0),h, .iK g ((c.args.toList.map ρ++dO).map AV.u5) h)
     | .hid q, .ret r=>bif ((c.args.toList.map ρ).map AV.arg).all (AV.bf 0)&&r.bf 0 then some (r,h, .Dr q ((c.args.toList.map ρ).map AV.arg))else none
     |_,_=>none
   |_=>none
 |op=>xR (nt P op ρ h)
theorem EX:∀l,AV.vq l=l.map AV.nrm
 |[]=>by simp [AV.vq]
 |x::l=>by simp [AV.vq,EX l]
theorem aL.nrm{G:Gh}{w:aiJ}{u:aiI}{x:AV}(h:aL G w u x):aL G w u x.nrm:=by
 have fF:∀(vs:Array aiI)(cs:aiE AV),(∀(i:Nat)(u:aiI)(c:AV),vs[i]?=some u→cs[i]?=some c→aL G w u c.nrm)→∀(i:Nat)(u:aiI)(c:AV),vs[i]?=some u→(AV.vq cs)[i]?=some c→aL G w u c:=by
  intro vs cs ih i u c hu hc;rw[EX,ahW]at hc;cases hx:cs[i]? with
  |none=>rw[hx]at hc;cases hc
  |some x=>rw[hx]at hc;cases hc;exact ih i u x hu hx
 induction h with
 |agg vs cs hl _ ih=>rw[AV.nrm];exact .agg vs _ (by rw[EX,ahU];exact hl) (fF vs cs ih)
 |cb vs cs hl _ ih=>rw[AV.nrm];exact .cb vs _ (by rw[EX,ahU];exact hl) (fF vs cs ih)
 |full xs hp hf=>rw[AV.nrm];exact .d hp
 | @d u x h=>
   by_cases hx:x= .v (.slice none 0 0)
   ·subst hx;cases h with|v=>simp only[AV.nrm];exact .d DE
   ·have:(AV.d x).nrm= .d x:=by
     unfold AV.nrm;split<;>simp_all
    rw[this];exact .d h
 |own n xs h hp hle hf=>simp only[AV.nrm];exact .own n xs h hp hle hf
 |ptr n off h=>simp only[AV.nrm];exact .ptr n off h
 |bt xs i off b o u x hx hS hu=>simp only[AV.nrm];exact .bt xs i off b o u x hx hS hu
 |row n off len cap k h hl hm=>simp only[AV.nrm];exact .row n off len cap k h hl hm
 |fn f vs cs hl h=>simp only[AV.nrm];exact .fn f vs cs hl h
 |mp n h=>simp only[AV.nrm];exact .mp n h
 |dp n h=>simp only[AV.nrm];exact .dp n h
 |vec n o len L k h hs hL hf=>simp only[AV.nrm];exact .vec n o len L k h hs hL hf
 |dw n i j L k h hs hL hf=>simp only[AV.nrm];exact .dw n i j L k h hs hL hf
 |hid h h1=>simp only[AV.nrm];exact .hid h h1
 |dead u=>simp only[AV.nrm];exact .dead u
theorem NU:∀(cs:aiE AV)(l:aiE gV),AV.yl cs=some l→cs.length=l.length∧∀(i:Nat)(x:AV)(c:gV),cs[i]?=some x→l[i]?=some c→x.cap=some c
 |[],l,h=>by
  unfold AV.yl at h;cases h;exact⟨rfl,fun i x c hx=>by simp at hx⟩
 |x::cs,l,h=>by
  unfold AV.yl at h;split at h
  ·next c l' e1 e2=>
   cases h
   obtain⟨h1,h2⟩:=NU cs l' e2;refine⟨by simp [h1],fun i y d hy hd=> ?_⟩
   match i with
   |0=>simp only[List.getElem?_cons_zero,Option.some.injEq]at hy hd;subst hy;subst hd;exact e1
   |i+1=>exact h2 i y d (by simpa using hy) (by simpa using hd)
  ·cases h
theorem aL.cap{G:Gh}{w:aiJ}{u:aiI}{x:AV}(h:aL G w u x):∀c,x.cap=some c→ny G.S w u c:=by
 induction h with
 |d h=>intro c hc;simp only[AV.cap]at hc;cases hc;exact .d h
 |own n xs h hp hle hf=>intro c hc;simp only[AV.cap]at hc;cases hc;exact .d hp
 |full xs hp hf=>intro c hc;simp only[AV.cap]at hc;cases hc;exact .d hp
 |bt xs i off b o u x hx hS hu=>
  intro c hc;simp only[AV.cap,hx]at hc;cases hc
  exact .bt x off b o u hS hu
 |fn f vs cs hl h ih=>
  intro c hc;simp only[AV.cap]at hc;split at hc
  ·next l e=>
   cases hc
   obtain⟨h1,h2⟩:=NU cs l e;refine .fn f vs l (hl.trans h1) fun i v d hv hd=> ?_;have aZ:i<cs.length:=by rw[h1];exact(ahP.1 hd).1
   exact ih i v _ hv (ahT aZ) d (h2 i _ d (ahT aZ) hd)
  ·cases hc
 |hid h h1=>intro c hc;simp only[AV.cap]at hc;cases hc;exact h
 |agg=>intro c hc;simp [AV.cap]at hc
 |cb=>intro c hc;simp [AV.cap]at hc
 |ptr=>intro c hc;simp [AV.cap]at hc
 |row=>intro c hc;simp [AV.cap]at hc
 |mp=>intro c hc;simp [AV.cap]at hc
 |dp=>intro c hc;simp [AV.cap]at hc
 |vec=>intro c hc;simp [AV.cap]at hc
 |dw=>intro c hc;simp [AV.cap]at hc
 |dead=>intro c hc;simp [AV.cap]at hc
theorem AV.Le.DX(x:AV):AV.Le x x.DX:=fun G w u h=>by
 unfold AV.DX;split
 ·next f cs=>
  split
  ·next l e=>
   have:=h.cap (.fn f l) (by simp only[AV.cap,e]);cases h with|fn=>exact .hid this rfl
  ·exact h
 ·exact h
theorem AV.Le.arg(x:AV):AV.Le x x.arg:=fun _ _ _ h=>AV.Le.DX _ _ _ _ (h.bU 0).nrm
theorem bY.args{P:aiH}{f:FuncId}{as:aiE AV}{h:aiE an}{K:AV→aiE an→Prop}(hc:bY P f as h K)(bs:aiE AV)(hl:as.length=bs.length)(hle:∀(i:Nat)(c d:AV),bs[i]?=some c→as[i]?=some d→AV.Le c d):bY P f bs h K:=
 ⟨hc.1,fun G w vs hi hs hr=>hc.2 G w vs hi (hs.trans hl.symm) fun i u d hu hd=>by
  have aZ:i<bs.length:=by rw[←hl];exact(ahP.1 hd).1
  exact hle i _ d (ahT aZ) hd G w u (hr i u _ hu (ahT aZ))⟩
theorem bY.T6{P:aiH}{f:FuncId}{as:aiE AV}{h:aiE an}{K:AV→aiE an→Prop}(hc:bY P f (as.map AV.arg) h K):bY P f as h K:=
 hc.args as (by rw[ahU]) fun i c d hc hd=>by
  rw[ahW,hc]at hd;cases hd;exact AV.Le.arg c
theorem AV.Le.u5(x:AV):AV.Le x x.u5:=fun _ _ _ h=>(h.bU 0).nrm
theorem bY.HN{P:aiH}{f:FuncId}{as:aiE AV}{h:aiE an}{K:AV→aiE an→Prop}(hc:bY P f (as.map AV.u5) h K):bY P f as h K:=
 hc.args as (by rw[ahU]) fun i c d hc hd=>by
  rw[ahW,hc]at hd;cases hd;exact AV.Le.u5 c
theorem Ye(l:aiE gV):(l.map gV.av).all (AV.bf 0)=true:=by
 rw[aif];intro x hx;obtain⟨c,_,rfl⟩:=List.mem_map.1 hx;cases c<;>rfl
theorem I6.use{P:aiH}{q:gV}{args:aiE AV}{r:AV}{h:aiE an}{C:AV→aiE an→Prop}(hc:I6 P q (args.map AV.arg) r)(ha:(args.map AV.arg).all (AV.bf 0)=true)(hr:r.bf 0=true)(hC:C r h):∃g cs,q= .fn g cs∧bY P g (args++cs.map gV.av) h C:=by
 obtain⟨g,cs,rfl,hc⟩:=hc;refine⟨g,cs,rfl,bY.args (hc.use (h:=h) (C:=C) (by rw[List.all_append,ha,Ye];rfl) hr hC) _ (by simp) fun i c d h1 h2=> ?_⟩;by_cases hi:i<args.length
 ·rw[ahZ hi]at h1;rw[ahZ (by simpa using hi),ahW,h1]at h2;cases h2;exact AV.Le.arg c
 ·rw[ah5 (by omega)]at h1;rw[ah5 (by simpa using hi),ahU,h1]at h2;cases h2;exact AV.Le.refl c
theorem eh{α:Type}{b:Bool}{x y:α}(h:(bif b then some x else none)=some y):b=true∧x=y:=by
 cases b with
 |true=>exact⟨rfl,ah8 h⟩
 |false=>cases h
theorem mB{α:Type}{b:Bool}{x:aiG α}{y:α}(h:(bif b then x else none)=some y):b=true∧x=some y:=by
 cases b with
 |true=>exact⟨rfl,h⟩
 |false=>cases h
section
variable {P:aiH} {ρ:Operand→AV} {h h':aiE an} {a:cD} {i:In} {x:AV} {C:AV→aiE an→Prop}
theorem OK.GJ{x:AV}{b:Bool}(h:OK P (.bit x) (.bit b)):x= .d (.v (.bool b)):=by
 cases h with|bit h=>subst h;rfl
theorem Jg{t:TypeId}{p:AV}{cs:aiE AV}{off:Nat}{K:AV→Prop}(h1:xh h p=some (cs,off))(h2:yC P t cs off=some x)(hK:K x):mH P t h p K:=by
 have key:(match lr P t,fO P t with
     |some true,some k=>gj (cN (off+k) cs.length) (K (.agg ((cs.drop off).take k)))
     |some false,some _=>match cs[off]? with
      |some c=>K c
      |none=>False
     |_,_=>False):=by
  unfold yC at h2;split at h2
  ·next k e1 e2=>
   obtain⟨h3,rfl⟩:=eh h2;exact cr.2 ⟨h3,hK⟩
  ·next k e1 e2=>rw[h2];exact hK
  ·cases h2
 unfold mH qx;unfold xh at h1;split at h1
 ·split at h1
  ·next cB e=>cases h1;simp only[e];exact key
  ·cases h1
 ·split at h1
  ·next c e=>cases h1;simp only[e];exact key
  ·cases h1
 ·cases h1
theorem adk{y:AV}{z:aiG Int}{k:Nat}(h1:M4 y z k a=some (x,i))(cE:OK P i a):∃xs w c,y.fY=some xs∧z=some w∧0≤w∧xs[w.toNat]?=some c∧c.length=k∧x= .bt [c] 0 0:=by
 unfold M4 at h1;split at h1
 ·next xs w c hx=>
  obtain⟨hk,he⟩:=eh h1;cases he
  cases cE with
  |el h0 hc=>exact⟨_,_,_,hx,rfl,h0,hc,by simpa using hk,rfl⟩
 ·cases h1
theorem aaT{T:TypeId}{y z:AV}{K:AV→Prop}(h1:Jr P T y z a=some (x,i))(cE:OK P i a)(hK:K x):p5 P T y z K:=by
 unfold Jr at h1;unfold p5;cases hT:eE P T with
 |some p=>
  obtain⟨e,k⟩:=p;simp only[hT]at h1 ⊢;cases y with
  |row n off len cap k'=>
   simp only at h1 ⊢;split at h1
   ·next w hw=>
    obtain⟨hk,he⟩:=eh h1;cases he
    cases cE with|lt h0 hl=>simp only[hw];exact cr.2 ⟨hk,h0,hl,hK⟩
   ·cases h1
  |_=>
   obtain⟨xs,w,c,e1,e2,e3,e4,e5,rfl⟩:=adk h1 cE;simp only[e1,e2,e4,e5];exact⟨e3,trivial,hK⟩
 |none=>
  simp only[hT]at h1 ⊢;split at h1
  ·next n e k b off w hA hw=>
   cases h1
   simp only[hA,hw];cases cE with|lt h0 hl=>exact⟨h0,hl,hK⟩
  ·next n e k c w hA hw=>
   split at h1
   ·next d=>
    obtain⟨hb,he⟩:=eh h1;cases he;simp only[hA,hw];cases cE with|Hh h0 hl h=>exact cr.2 ⟨hb,h0,hl,by simp only[List.getElem?_cons_zero,ah9,h];exact hK⟩
   ·cases h1
  ·cases h1
theorem afk{T:TypeId}{y:AV}{K:Nat→Prop}{C:AV→Prop}(h1:MD P T y a=some (x,i))(cE:OK P i a)(hK:C x)(hc:∀n:Nat,C (.d (.v (.int .i64 n)))→K n):qD P T y K:=by
 unfold MD at h1;unfold qD;split at h1
 ·obtain⟨hb,he⟩:=eh h1;cases he;exact cr.2 ⟨hb,hc _ hK⟩
 ·obtain⟨hb,he⟩:=eh h1;cases he;exact cr.2 ⟨hb,hc _ hK⟩
 ·next n1 n2=>
  split at h1
  ·next xs n hx=>
   obtain⟨hb,he⟩:=eh h1;cases he;cases cE with
   |len hl=>
    subst hl;split
    ·next s=>exact absurd rfl (n1 s)
    ·next a b c d e=>exact absurd rfl (n2 a b c d e)
    ·simp only[hx];exact cr.2 ⟨hb,hc _ hK⟩
  ·cases h1
theorem agK{y:aiG Operand}{l:aiG Int}(h1:Es ρ y=some l):(y=none∧l=none)∨∃o z,y=some o∧l=some z∧(ρ o).int?=some z:=by
 unfold Es at h1;cases y with
 |none=>cases h1;exact .inl ⟨rfl,rfl⟩
 |some o=>
  simp only at h1;split at h1
  ·next z hz=>cases h1;exact .inr ⟨o,z,rfl,rfl,hz⟩
  ·cases h1
theorem tz{y:aiG Operand}{l:aiG Int}{d:Nat}{K:Nat→Prop}(h1:Es ρ y=some l)(h0:∀z,l=some z→0≤z)(hK:K (oN l d)):jn ρ y d K:=by
 rcases agK h1 with⟨rfl,rfl⟩|⟨o,z,rfl,rfl,hz⟩
 ·exact hK
 ·simp only[jn,hz];exact⟨h0 z rfl,hK⟩
theorem acm{T:TypeId}{y:AV}{lo hi mx:aiG Operand}{K:AV→Prop}(h1:MH P T ρ y lo hi mx a=some (x,i))(cE:OK P i a)(hK:K x):sq P T ρ y lo hi mx K:=by
 unfold MH at h1;unfold sq;split at h1
 ·split at h1
  ·next l hh hl pH=>
   split at h1
   ·next b=>
    obtain⟨hb,he⟩:=eh h1;cases he;cases cE with
    |str h0 h2 h3 h4=>
     refine cr.2 ⟨hb,tz pH (fun z e=>by subst e;exact h3) ?_⟩;have e1:oN hh b.size=(hh.getD b.size).toNat:=by cases hh<;>simp [oN]
     have e2:oN l 0=(l.getD 0).toNat:=by cases l<;>simp [oN]
     rw[e1];refine⟨h4,tz hl (fun z e=>by subst e;exact h0) ?_⟩;rw[e2];rw[e1,e2]at hK;exact⟨h2,hK⟩
   ·next n off=>
    split at h1
    ·next m e k hT=>
     obtain⟨hb,he⟩:=eh h1;cases he;simp only[hT];generalize cN m 4096=q at hb ⊢;rw[ahR]at hb;refine cr.2 ⟨hb.1,tz pH (fun z e=>by cases e) (cr.2 ⟨dQ.2 (ah0 _),tz hl (fun z e=>by cases e) (cr.2 ⟨?_,?_⟩)⟩)⟩
     ·rw[ahR];exact⟨dQ.2 (Nat.zero_le _),hb.2⟩
     ·show K (.row n (off+0*k) (m-0) (m-0) k);rw[Nat.zero_mul,Nat.add_zero,Nat.sub_zero];exact hK
    ·cases h1
   ·next xp mj=>
    split at h1
    ·next xs e k ys hx hT=>
     cases h1
     dsimp only;split
     ·next b=>exact absurd rfl (xp b)
     ·next n off=>exact absurd rfl (mj n off)
     ·simp only[hx,hT];cases hh with
      |none=>
       cases cE with
       |DF h0 h2 hk he=>
        refine⟨hk,tz pH (fun z e=>by cases e) ⟨ah0 _,tz hl (fun z e=>by subst e;exact h0) ?_⟩⟩;have e2:oN l 0=(l.getD 0).toNat:=by cases l<;>simp [oN]
        rw[e2];refine⟨h2,?_⟩;rw[show oN none xs.length=xs.length from rfl,List.take_length,he];exact hK
      |some z=>
       cases cE with
       |sub h0 h2 h3 h4 hk he=>
        refine⟨hk,tz pH (fun z e=>by cases e;exact h3) ⟨h4,tz hl (fun z e=>by subst e;exact h0) ?_⟩⟩;have e2:oN l 0=(l.getD 0).toNat:=by cases l<;>simp [oN]
        rw[e2];refine⟨h2,?_⟩;rw[show oN (some z) xs.length=z.toNat from rfl,he];exact hK
    ·cases h1
  ·cases h1
 ·split at h1
  ·next m _ _ y' _ hm=>
   split at h1
   ·next xs e k _ _ ys hx hT hy=>
    cases h1
    cases cE with
    |sub h0 h2 h3 h4 hk he=>
     simp only[hx,hT];refine⟨hk,?_⟩;simp only[jn,hm,hy,AV.int?];refine⟨Int.le_refl _,Nat.zero_le _,Int.le_refl _,?_,by simpa using hK⟩;first|rfl|trivial
   ·cases h1
  ·cases h1
theorem Mp{k:Nat}{y:AV}{ys:aiE (aiE D)}{K:aiE (aiE D)→Prop}(h1:FR h k y=some ys)(hy:∀c∈ys,c.length=k)(hK:K ys):s5 h k y K:=by
 unfold FR at h1;unfold s5;split at h1
 ·split at h1
  ·next cs e=>
   split at h1
   ·next ds e2=>
    obtain⟨hb,rfl⟩:=eh h1;simp only[e,e2];exact cr.2 ⟨hb,hK⟩
   ·cases h1
  ·cases h1
 ·next hn=>
  split
  ·next n off len cap k'=>exact absurd rfl (hn n off len cap k')
  ·simp only[h1];exact⟨hy,hK⟩
theorem af7{T:TypeId}{y z:AV}(h1:Ls P T h y z a=some (x,h',i))(cE:OK P i a)(hC:C x h'):tL P T h y z C:=by
 unfold Ls at h1;unfold tL;split at h1
 ·next e k zs n' hT=>
  simp only[hT];split at h1
  ·next zv dx hz nM=>
   simp only[hz,nM];obtain⟨hb,h1⟩:=mB h1;refine cr.2 ⟨hb,?_⟩;split at h1
   ·next ys iC=>
    split at h1
    ·next n xs=>
     split at h1
     ·next e' k' len hn=>
      obtain⟨hc,he⟩:=eh h1;cases he;cases cE with
      |app hl hx hy hm lG iV sW=>
       subst iV;subst sW;refine Mp iC hy ?_;simp only[hn];exact cr.2 ⟨hc,hl,hx,hm,lG,hC⟩
     ·cases h1
    ·cases h1
     cases cE with
     |app hl hx hy hm lG iV sW=>
      subst iV;subst sW;refine Mp iC hy ?_;simp only[List.nil_append,ah1,ah9]at hC hm lG ⊢;exact⟨hm,lG,hC⟩
    ·cases h1
     cases cE with
     |app hl hx hy hm lG iV sW=>
      subst iV;subst sW;exact Mp iC hy ⟨hx,hm,lG,hC⟩
    ·cases h1
   ·cases h1
  ·cases h1
 ·cases h1
theorem X3{T:TypeId}{ps:aiE (Nat×AV)}{K:AV→Prop}(h1:Jo P T ps=some x)(hK:K x):vR P T ps K:=by
 unfold Jo at h1;unfold vR;split at h1
 ·next pl z e1 e2=>
  simp only[e1,e2];split at h1
  ·next cs e3=>obtain⟨hb,rfl⟩:=eh h1;simp only[e3];exact cr.2 ⟨hb,hK⟩
  ·cases h1
 ·cases h1
theorem ae8{T:TypeId}{len:Nat}{ps:aiE (Nat×AV)}{K:AV→Prop}(h1:Lv P T len ps=some x)(hK:K x):vE P T len ps K:=by
 unfold Lv at h1;unfold vE;split at h1
 ·next e k hT=>
  simp only[hT];split at h1
  ·next z hz=>
   simp only[hz];split at h1
   ·next cs fP=>
    simp only[fP];split at h1
    ·next ds tO=>obtain⟨hb,rfl⟩:=eh h1;simp only[tO];exact cr.2 ⟨hb,hK⟩
    ·cases h1
   ·cases h1
  ·cases h1
 ·cases h1
theorem SW{T:TypeId}{op:BinOp}{y z:AV}{K:AV→Prop}(h1:Fg P T op y z=some (x,i))(cE:OK P i a)(hK:K x):wq P T op y z K:=by
 unfold Fg at h1;unfold wq;split at h1
 ·split at h1
  ·next v e=>
   obtain⟨hb,he⟩:=eh h1;cases he;cases cE with|nz h0=>simp only[e];exact cr.2 ⟨hb,h0,hK⟩
  ·next e=>
   simp only[e];split at h1
   ·next v e2=>
    cases h1
    cases cE with|nn h0=>simp only[e2];exact⟨h0,hK⟩
   ·next e2=>
    simp only[e2];split at h1
    ·next v e3=>obtain⟨hb,he⟩:=eh h1;cases he;simp only[e3];exact cr.2 ⟨hb,hK⟩
    ·cases h1
 ·split at h1
  ·next v e=>cases h1;simp only[e];exact hK
  ·next e=>
   simp only[e];split at h1
   ·cases h1;cases cE with|cat h=>exact⟨h,hK⟩
   ·cases h1
 ·split at h1
  ·next v e=>obtain⟨hb,he⟩:=eh h1;cases he;simp only[e];exact cr.2 ⟨hb,hK⟩
  ·cases h1
 ·split at h1
  ·next b e=>
   simp only[e];split at h1
   ·next v e2=>cases h1;simp only[e2];exact hK
   ·cases h1
  ·cases h1
 ·cases h1
theorem abO{s t:TypeId}{y:AV}{K:AV→Prop}(h1:Ic P s t y a=some (x,i))(cE:OK P i a)(hK:K x):xG P s t y K:=by
 unfold Ic at h1;unfold xG;split at h1
 ·split at h1
  ·next e1 e2=>cases h1;simp only[e1,e2];exact hK
  ·cases h1
 ·obtain⟨hb,he⟩:=eh h1;cases he;exact cr.2 ⟨hb,hK⟩
 ·next h8 h9=>
  split at h1
  ·next xs e k s' e1 e2=>
   obtain⟨hb,he⟩:=eh h1;cases he;cases cE with
   |G6 h=>
    obtain⟨ns,k1,k2⟩:=h;subst k2;split
    ·next k' n=>exact absurd rfl (h8 k' n)
    ·next b'=>exact absurd rfl (h9 b')
    ·simp only[e1,e2];exact cr.2 ⟨hb,ns,k1,hK⟩
  ·cases h1
theorem Uw{T:TypeId}{y:AV}{f:Nat}{K:AV→Prop}(h1:FT P T y f=some x)(hK:K x):wR P T y f K:=by
 unfold FT at h1;unfold wR;split at h1
 ·next e=>obtain⟨hb,rfl⟩:=eh h1;simp only[e];exact cr.2 ⟨hb,hK⟩
 ·next e=>simp only[e,h1];exact hK
 ·cases h1
theorem Jv{y:aiG AV}(h1:Hy h y=some (x,h',i)):y=some x∧h'=h:=by
 cases y with
 |none=>cases h1
 |some y=>cases h1;exact⟨rfl,rfl⟩
theorem CR{y:aiG (AV×In)}(h1:zB h y=some (x,h',i)):y=some (x,i)∧h'=h:=by
 cases y with
 |none=>cases h1
 |some y=>cases h1;exact⟨rfl,rfl⟩
theorem zR{o:Oper}(h1:vD P o.op ρ h a=some (x,h',i))(cE:OK P i a)(hC:C x h'):dc P o ρ h C:=by
 obtain⟨dst,op,type,pos,after,guard⟩:=o;simp only at h1;unfold vD at h1;unfold dc;split at h1
 ·cases h1;exact hC
 ·cases h1;exact hC
 ·next c y z=>
  split at h1
  ·next b=>
   cases h1
   simp only[OK.GJ cE];cases b<;>simp_all
  ·cases h1
 ·split at h1
  ·next z e=>cases h1;simp only[e];exact hC
  ·cases h1
 ·obtain⟨hb,he⟩:=eh h1;cases he;exact cr.2 ⟨hb,hC⟩
 ·split at h1
  ·next cs off e=>
   split at h1
   ·next y e2=>cases h1;exact Jg e e2 hC
   ·cases h1
  ·cases h1
 ·split at h1
  ·next n off e=>
   split at h1
   ·next cs e2=>
    split at h1
    ·next k e3=>obtain⟨hb,he⟩:=eh h1;cases he;simp only[e,vB,e2,e3];exact cr.2 ⟨hb,hC⟩
    ·cases h1
   ·cases h1
  ·cases h1
 ·split at h1
  ·next e=>cases h1;simp only[e];exact hC
  ·next e=>cases h1;simp only[e];exact hC
  ·next e=>cases h1;simp only[e];exact hC
  ·cases h1
 ·split at h1
  ·next e=>
   simp only[e];split at h1
   ·next e2=>cases h1;simp only[e2];exact hC
   ·next e2=>cases h1;simp only[e2];exact hC
   ·cases h1
  ·cases h1
 ·obtain⟨e,rfl⟩:=Jv h1;exact Uw e hC
 ·obtain⟨e,rfl⟩:=CR h1;exact aaT e cE hC
 ·split at h1
  ·next b z c e1 e2=>
   obtain⟨hb,he⟩:=eh h1;cases he;cases cE with
   |ch h0 hc=>simp only[e1,e2];refine cr.2 ⟨hb,h0,?_⟩;simp only[hc];exact hC
  ·cases h1
 ·obtain⟨e,rfl⟩:=Jv h1;exact X3 e hC
 ·obtain⟨e,rfl⟩:=Jv h1;exact ae8 e hC
 ·obtain⟨e,rfl⟩:=CR h1;exact acm e cE hC
 ·split at h1
  ·next e=>
   split at h1
   ·next e2=>cases h1;simp only[e,e2];exact hC
   ·cases h1
  ·cases h1
 ·split at h1
  ·next e=>cases h1;simp only[e];exact hC
  ·cases h1
 ·obtain⟨e,rfl⟩:=CR h1;exact SW e cE hC
 ·unfold xr;split at h1
  ·next e=>
   split at h1
   ·next e2=>cases h1;simp only[e,e2];exact hC
   ·cases h1
  ·cases h1
 ·obtain⟨e,rfl⟩:=CR h1;exact abO e cE hC
 ·next c=>
  split at h1
  ·next hc=>
   simp only[hc];split at h1
   ·next e1 e2=>obtain⟨e,rfl⟩:=CR h1;simp only[e1,e2];exact afk (C:=fun x=>C x _) e cE hC (fun n hn=>hn)
   ·cases h1
  ·next hc=>
   simp only[hc];split at h1
   ·next e1 e2=>obtain⟨hb,h1⟩:=mB h1;simp only[e1,e2];exact cr.2 ⟨hb,af7 h1 cE hC⟩
   ·cases h1
  ·next hc=>
   simp only[hc];split at h1
   ·next e1=>cases h1;simp only[e1];exact hC
   ·cases h1
  ·next hc=>
   simp only[hc];split at h1
   ·next e1=>cases h1;simp only[e1];exact hC
   ·cases h1
  ·next f hc=>
   simp only[hc];split at h1
   ·next g dO r e=>
    obtain⟨hb,he⟩:=eh h1;cases he;simp only[ahR]at hb;simp only[e];cases cE with|call jv=>exact(jv.use hb.1 hb.2 hC).T6
   ·next g dO r h2 e=>
    cases h1
    simp only[e];cases cE with|jv jv=>exact jv.mono fun r1 h1 ⟨e1,e2⟩=>by subst e1;subst e2;exact hC
   ·next g dO l fE H r H' e=>
    cases h1
    simp only[e];cases cE with|iK ha hd hb hl hc=>exact(ha▸(hc.iK hd hb hl).mono fun r1 h1 ⟨e1,e2⟩=>by subst e1;subst e2;exact hC:bY P g _ _ _).HN
   ·next g dO l fE H r H' e=>
    cases h1
    simp only[e];cases cE with|me sr hv ha hd hb hl hc=>exact(ha▸(hc.iK hd (by rw[hb,agk sr]) (by rw[ahR]at hl ⊢;exact⟨hl.1,XQ sr hl.2⟩)).mono fun r1 h1 ⟨e1,e2⟩=>by subst e1;subst e2;rw[←Zv hv];exact hC:bY P g _ _ _).HN
   ·next g dO l fE H r e=>
    cases h1
    simp only[e];cases cE with|rq ha hd hb hl hc=>exact(ha▸(by have:=hc.rq hd hb hl [];rw[aia]at this;exact this.mono fun r1 h1 ⟨e1,e2⟩=>by subst e1;subst e2;exact hC):bY P g _ _ _).HN
   ·next q r e=>
    obtain⟨hb,he⟩:=eh h1;cases he;simp only[ahR]at hb;simp only[e];cases cE with|Dr hq=>exact hq.use hb.1 hb.2 hC
   ·cases h1
  ·cases h1
 ·next op _=>
  unfold xR at h1;split at h1
  ·next y h2 p e=>
   cases h1
   simp only[e];refine⟨?_,hC⟩;cases p with
   |no=>trivial
   |lt n=>cases cE with|sd h=>exact h
  ·cases h1
end
def iE:aiE (Nat×cD)→Nat→cD
 |[],_=> .none
 |(k,x)::l,i=>bif k==i then x else iE l i
def sf(i:In)(a:cD)(r:aiG (St×aiE (In×cD))):aiG (St×aiE (In×cD)):=
 match i with
 | .none=>r
 |i=>match r with
  |some (s,l)=>some (s,(i,a)::l)
  |none=>none
def DD:cD→Bool
 | .Kp .. | .LD .. | .BC .. =>true
 |_=>false
def yq(o:Oper):cD→Bool
 | .BC [] .. =>cV o==6
 |_=>false
def GN(P:aiH)(dr vk:Bool)(op:Op)(ρ:Operand→AV)(h:aiE an)(a:cD):aiG (AV×aiE an×In):=
 match a with
 | .va va=>bif dr&& !vk then none else match ij P op ρ h va with
   |some (x,h',p)=>some (x,h', .pr p)
   |none=>none
 |a=>vD P op ρ h a
def om(P:aiH)(dr:Bool)(o:Oper)(j:Nat)(as:aiE (Nat×cD))(s:St):aiG (St×aiE (In×cD)):=
 bif dr&&DD (iE as (3*j+1))&& !yq o (iE as (3*j+1))then none else
 match GN P dr (jf o) o.op (ev s) s.h (iE as (3*j+1))with
 |some (x,h',i)=>match iE as (3*j+2)with
  | .eq y=>sf i (iE as (3*j+1)) (some ((s.wh h').put o.dst y,[(.eq x, .eq y)]))
  |_=>sf i (iE as (3*j+1)) (some ((s.wh h').put o.dst x,[]))
 |none=>none
def B6(o:Oper)(s:St):St:=s.put o.dst (.d (.v undef))
def pv(l:aiE (In×cD)):aiG (St×aiE (In×cD))→aiG (St×aiE (In×cD))
 |some (s,m)=>some (s,l++m)
 |none=>none
def mS(P:aiH)(ops:Array Oper)(dr:Bool)(o:Oper)(j:Nat)(as:aiE (Nat×cD))(s:St):aiG (St×aiE (In×cD)):=
 match o.guard with
 |none=>om P dr o j as s
 |some (g,want)=>match iE as (3*j)with
  | .bit b=>pv [(.bit (tc ops g s.t), .bit b)] (bif b==want then om P dr o j as s else some (B6 o s,[]))
  | .Dg=>pv [(.bit (tc ops g s.t), .Dg)] (some (B6 o s,[]))
  |_=>none
def mF(P:aiH)(ops:Array Oper)(dr:Bool):aiE Oper→Nat→aiE (Nat×cD)→St→aiG (St×aiE (In×cD))
 |[],_,_,s=>some (s,[])
 |o::rest,j,as,s=>match mS P ops dr o j as s with
  |some (s1,l)=>pv l (mF P ops dr rest (j+1) as s1)
  |none=>none
def gU(P:aiH)(l:aiE (In×cD)):Prop:=∀p∈l,OK P p.1 p.2
section
variable {P:aiH} {ops:Array Oper} {dr:Bool} {o:Oper} {j:Nat} {as:aiE (Nat×cD)} {s s1:St} {l:aiE (In×cD)} {K:St→Prop}
theorem HY{i:In}{a:cD}{r:aiG (St×aiE (In×cD))}(h:sf i a r=some (s1,l))(cE:gU P l):∃m,r=some (s1,m)∧gU P m∧OK P i a:=by
 unfold sf at h;split at h
 ·exact⟨l,h,cE, .none⟩
 ·split at h
  ·next s2 m=>
   cases h
   exact⟨m,rfl,fun p hp=>cE p (ahY _ hp),cE (i,a) ahV⟩
  ·cases h
theorem yf{r:aiG (St×aiE (In×cD))}{m:aiE (In×cD)}(h:pv m r=some (s1,l))(cE:gU P l):∃n,r=some (s1,n)∧gU P n∧gU P m:=by
 unfold pv at h;split at h
 ·next s2 n=>
  cases h
  exact⟨n,rfl,fun p hp=>cE p (List.mem_append_right _ hp),fun p hp=>cE p (List.mem_append_left _ hp)⟩
 ·cases h
def Gl(P:aiH)(dr:Bool)(o:Oper)(K:St→Prop)(s:St):Prop:=bif dr then UH P o K s else mJ P o K s
theorem aar{x:AV}{h':aiE an}{i:In}{a:cD}(h1:vD P o.op (ev s) s.h a=some (x,h',i))(cE:OK P i a)(hh:DD a=false)(hK:K ((s.wh h').put o.dst x)):UH P o K s:=by
 refine .inl ?_;unfold Al;split
 ·next c gG=>
  split
  ·next f hc=>
   rw[gG]at h1;unfold vD at h1;simp only[hc]at h1;split at h1
   ·next g dO r e=>
    obtain⟨hb,he⟩:=eh h1;cases he;simp only[ahR]at hb;simp only[e];cases cE with
    |call jv=>exact⟨_,hK,fun e=>(jv.use hb.1 hb.2 ⟨rfl,rfl⟩).T6⟩
   ·cases hh
   ·cases hh
   ·cases hh
   ·next g dO l fE H r e=>
    cases h1
    simp only[e];cases cE with|rq ha hd hb hl hc=>exact⟨_,hK,fun e=>(ha▸hc.rq hd hb hl e:bY P g _ _ _).HN⟩
   ·next q r e=>
    obtain⟨hb,he⟩:=eh h1;cases he;simp only[ahR]at hb;simp only[e];cases cE with
    |Dr hq=>
     have:=fun h=>hq.use (h:=h) (C:=fun r' h'=>r'=x∧h'=h) hb.1 hb.2 ⟨rfl,rfl⟩;obtain⟨g,cs,e1,_⟩:=this [];refine⟨g,cs,e1,x,hK,fun e=> ?_⟩;obtain⟨g',cB,e2,h9⟩:=this (s.h++e);rw[e1]at e2;cases e2
     exact h9
   ·cases h1
  ·exact zR (C:=fun x h'=>K ((s.wh h').put o.dst x)) h1 cE hK
 ·exact zR (C:=fun x h'=>K ((s.wh h').put o.dst x)) h1 cE hK
theorem ahf{o:Oper}{ρ:Operand→AV}{h h':aiE an}{fE:aiE AV}{H H':aiE an}{r x:AV}{i:In}(hk:cV o=6)(hr:vD P o.op ρ h (.BC [] fE H r H')=some (x,h',i)):h'=h++H'.map (an.qc (rn [] h.length)):=by
 unfold cV at hk;split at hk
 all_goals first|(cases hk;done)|skip
 next c gG=>
  split at hk
  all_goals first|(cases hk;done)|skip
  next f hc=>
   rw[gG]at hr;unfold vD at hr;simp only[hc]at hr;generalize ρ f=v at hr;cases v<;>first|(cases hr;rfl)|cases hr
theorem Vi(h:om P dr o j as s=some (s1,l))(cE:gU P l)(hK:K s1):Gl P dr o K s:=by
 unfold om at h;cases hd:dr&&DD (iE as (3*j+1))&& !yq o (iE as (3*j+1))with
 |true=>rw[hd]at h;cases h
 |false=>
  rw[hd]at h;simp only[cond_false]at h;split at h
  ·next x h' i hr=>
   have fin:OK P i (iE as (3*j+1))→K ((s.wh h').put o.dst x)→Gl P dr o K s:=fun h1 h2=>by
    unfold Gl;cases dr with
    |true=>
     unfold GN at hr;split at hr
     ·next va e=>
      cases hv:jf o with
      |false=>rw[hv]at hr;cases hr
      |true=>
       rw[hv]at hr;simp only[Bool.not_true,Bool.and_false,cond_false]at hr;split at hr
       ·next x2 NS p e2=>
        cases hr
        rw[e]at h1;cases h1 with|pr _ hp=>exact .inr (.inr (.inl ⟨hv,va,x,h',p,e2,hp,h2⟩))
       ·cases hr
     ·by_cases hx:yq o (iE as (3*j+1))=true
      ·refine .inr (.inr (.inr ?_));generalize iE as (3*j+1)=a at hx h1 hr;unfold yq at hx;split at hx
       ·next fE H r H'=>
        have Dp:cV o=6:=by simpa using hx
        have this:h'=s.h++H'.map (an.qc (rn [] s.h.length)):=ahf Dp hr;refine⟨Dp,x,H'.map (an.qc (rn [] s.h.length)),?_,fun C hC=> ?_⟩
        ·rw[←this];exact h2
        ·rw[←this]at hC;exact zR hr h1 hC
       ·cases hx
      ·exact aar hr h1 (by simpa [hx]using hd) h2
    |false=>
     unfold GN at hr;split at hr
     ·next va e=>
      simp only[Bool.false_and,cond_false]at hr;split at hr
      ·next x2 NS p e2=>
       cases hr
       rw[e]at h1;cases h1 with|pr _ hp=>exact .inl ⟨va,x,h',p,e2,hp,h2⟩
      ·cases hr
     ·exact .inr (.inr (.inl (zR (C:=fun x h'=>K ((s.wh h').put o.dst x)) hr h1 h2)))
   split at h
   ·next y hy=>
    obtain⟨m,e,h2,h3⟩:=HY h cE;cases e
    have:=h2 (.eq x, .eq y) ahV;cases this with|eq e=>subst e;exact fin h3 hK
   ·obtain⟨m,e,h2,h3⟩:=HY h cE;cases e
    exact fin h3 hK
  ·cases h
theorem KS(h:mS P ops dr o j as s=some (s1,l))(cE:gU P l)(hK:K s1):iO ops o s (Gl P dr o K s) (K (s.put o.dst (.d (.v undef)))):=by
 unfold mS at h;split at h
 ·next hg=>unfold iO;rw[hg];exact Vi h cE hK
 ·next g want hg=>
  obtain⟨dst,op,ty,pos,after,guard⟩:=o;simp only at hg;subst hg;split at h
  ·next b hb=>
   obtain⟨n,e,h2,h3⟩:=yf h cE;have h4:=OK.GJ (h3 (_,_) ahV);rw[HM,h4];refine⟨fun e2=> ?_,fun e2=> ?_⟩
   ·subst e2;simp only[BEq.rfl,cond_true]at e;exact Vi e h2 hK
   ·subst e2;have:((!want)==want)=false:=by cases want<;>rfl
    rw[this]at e;simp only[cond_false]at e;cases e
    exact hK
  ·next hb=>
   obtain⟨n,e,h2,h3⟩:=yf h cE;cases e
   have h4:=h3 (_,_) ahV;have h5:tc ops g s.t= .d (.v undef):=by
    generalize tc ops g s.t=z at h4;cases h4;rfl
   rw[HM,h5];exact hK
  ·cases h
theorem wO:∀(ol:aiE Oper)(j:Nat)(s:St)(l:aiE (In×cD)),mF P ops dr ol j as s=some (s1,l)→gU P l→K s1→(bif dr then Bj P ops ol K s else qQ P ops ol K s)
 |[],_,s,l,h,_,hK=>by cases h;cases dr<;>exact hK
 |o::rest,j,s,l,h,cE,hK=>by
  unfold mF at h;split at h
  ·next s2 m hg=>
   obtain⟨n,e,h2,h3⟩:=yf h cE;have ih:=wO rest (j+1) s2 n e h2 hK;cases dr with
   |true=>exact KS (K:=Bj P ops rest K) hg h3 ih
   |false=>exact KS (K:=qQ P ops rest K) hg h3 ih
  ·cases h
theorem JD(s:St)(d:aiG Nat)(x:AV):∃pre,(s.put d x).t=pre++s.t:=by
 cases d with
 |none=>exact⟨[],rfl⟩
 |some k=>
  by_cases hk:k<s.n
  ·exact⟨[(k,x)],by rw[oH hk];rfl⟩
  ·exact⟨[],by rw[Ei hk];rfl⟩
theorem Su(h:mS P ops dr o j as s=some (s1,l)):(∃pre,s1.t=pre++s.t)∧s1.n=s.n:=by
 have cI:∀{i a r l},sf i a r=some (s1,l)→∃m,r=some (s1,m):=fun{i a r l} h=>by
  unfold sf at h;split at h
  ·exact⟨_,h⟩
  ·split at h
   ·cases h;exact⟨_,rfl⟩
   ·cases h
 have cR:∀{m r l},pv m r=some (s1,l)→∃m,r=some (s1,m):=fun{m r l} h=>by
  unfold pv at h;split at h
  ·cases h;exact⟨_,rfl⟩
  ·cases h
 have st:∀l,om P dr o j as s=some (s1,l)→(∃pre,s1.t=pre++s.t)∧s1.n=s.n:=fun l h=>by
  unfold om at h;cases hd:dr&&DD (iE as (3*j+1))&& !yq o (iE as (3*j+1))with
  |true=>rw[hd]at h;cases h
  |false=>
   rw[hd]at h;simp only[cond_false]at h;split at h
   ·split at h<;>(obtain⟨m,e⟩:=cI h;cases e;exact⟨JD _ _ _,by rw[pc];rfl⟩)
   ·cases h
 unfold mS at h;split at h
 ·exact st _ h
 ·split at h
  ·obtain⟨m,e⟩:=cR h;revert e;generalize ((_:Bool)==_)=q;intro e;cases q with
   |true=>exact st _ e
   |false=>cases e;exact⟨JD _ _ _,by unfold B6;rw[pc]⟩
  ·obtain⟨m,e⟩:=cR h;cases e;exact⟨JD _ _ _,by unfold B6;rw[pc]⟩
  ·cases h
theorem My:∀(ol:aiE Oper)(j:Nat)(s:St)(l:aiE (In×cD)),mF P ops dr ol j as s=some (s1,l)→(∃pre,s1.t=pre++s.t)∧s1.n=s.n
 |[],_,s,l,h=>by cases h;exact⟨⟨[],rfl⟩,rfl⟩
 |o::rest,j,s,l,h=>by
  unfold mF at h;split at h
  ·next s2 m hg=>
   unfold pv at h;split at h
   ·next s3 n e=>
    cases h
    obtain⟨⟨p1,e1⟩,n1⟩:=Su hg;obtain⟨⟨p2,e2⟩,n2⟩:=My rest (j+1) s2 n e;exact⟨⟨p2++p1,by rw[e2,e1,ah6]⟩,n2.trans n1⟩
   ·cases h
  ·cases h
end
def N1:AV→Bool
 | .dead=>true
 |_=>false
def mC(P:aiH)(dr:Bool)(l:aiE Oper)(as:aiE (Nat×cD))(bq:aiE Nat)(s:St):aiG (aiE (Nat×AV)×aiE an×aiE (In×cD)):=
 match mF P l.toArray dr l 0 as s with
 |some (s1,ps)=>bif (s1.t.take (s1.t.length-s.t.length)).all (fun p=>bq.any (·==p.1)||N1 (bH s.t p.1))then some (bq.map fun k=>(k,bH s1.t k),s1.h,ps)else none
 |none=>none
theorem BN:∀(a b:aiE (Nat×AV))(i:Nat),(i∈a.map (·.1)∧bH (a++b) i=bH a i)∨(i ∉ a.map (·.1)∧bH (a++b) i=bH b i)
 |[],b,i=> .inr ⟨by simp,rfl⟩
 |(k,x)::a,b,i=>by
  by_cases e:i=k
  ·subst e;exact .inl ⟨by simp,by simp [lu]⟩
  ·rcases BN a b i with⟨h1,h2⟩|⟨h1,h2⟩
   ·exact .inl ⟨by simp at h1 ⊢;exact .inr h1,by rw[List.cons_append,lu,if_neg e,h2,lu,if_neg e]⟩
   ·exact .inr ⟨by simp at h1 ⊢;exact⟨e,h1⟩,by rw[List.cons_append,lu,if_neg e,h2]⟩
section
variable {P:aiH} {dr:Bool} {as:aiE (Nat×cD)} {s s1 s':St} {ps:aiE (In×cD)} {bq:aiE Nat} {ol:aiE Oper} {Δ:aiE (Nat×AV)} {h':aiE an}
theorem FP(h:mC P dr ol as bq s=some (Δ,h',ps)):∃s1,mF P ol.toArray dr ol 0 as s=some (s1,ps)∧s1.n=s.n∧s1.h=h'∧∀i,bH (Δ++s.t) i=bH s1.t i∨bH (Δ++s.t) i= .dead:=by
 unfold mC at h;split at h
 ·next s1 YX hr=>
  obtain⟨hb,he⟩:=eh h;cases he
  obtain⟨⟨pre,e1⟩,n1⟩:=My _ _ _ _ hr;refine⟨s1,hr,n1,rfl,fun i=> ?_⟩;have DO:∀(f:Nat→AV),(bq.map fun k=>(k,f k)).map (·.1)=bq:=fun f=>by rw[List.map_map];exact List.map_id _
  rcases BN (bq.map fun k=>(k,bH s1.t k)) s.t i with⟨h1,h2⟩|⟨h1,h2⟩
  ·rw[DO]at h1;rw[h2,nS (fun k=>bH s1.t k),if_pos h1];exact .inl rfl
  ·rw[DO]at h1;rw[h2];rw[e1,ahQ,Nat.add_sub_cancel,List.take_left']at hb
   ·rw[e1];rcases BN pre s.t i with⟨h3,h4⟩|⟨h3,h4⟩
    ·right
     obtain⟨p,hp,rfl⟩:=List.mem_map.1 h3;have:=aif.1 hb p hp;rw[Bool.or_eq_true]at this;rcases this with this|this
     ·exfalso;obtain⟨k,hk,e⟩:=List.any_eq_true.1 this;rw[beq_iff_eq]at e;exact h1 (e▸hk)
     ·generalize bH s.t p.1=z at this;cases z<;>first|rfl|cases this
    ·exact .inl h4.symm
   ·rfl
 ·cases h
theorem dk.less{G:Gh}{w:aiJ}{a:Act}(hs:dk G w a s1)(hn:s'.n=s1.n)(hh:s'.h=s1.h)(ht:∀i,bH s'.t i=bH s1.t i∨bH s'.t i= .dead):dk G w a s':=
 ⟨hs.size.trans hn.symm,fun i=>by
  rcases ht i with e|e
  ·rw[e];exact hs.tmp i
  ·rw[e];exact .dead _,by rw[hh];exact hs.inv,hs.df⟩
end
structure Ob(P:Program) where
 i:In
 o:cD
 ok:OK P i o
def bT{P:aiH}{e:Bool}(h:e=true):Ob P:=⟨_,_, .bit (b:=true) h⟩
def bF{P:aiH}{e:Bool}(h:e=false):Ob P:=⟨_,_, .bit (b:=false) h⟩
def uN{P:aiH}:Ob P:=⟨_,_, .Dg⟩
def cL{P:aiH}{f:FuncId}{args:aiE AV}{r:AV}(h:bg P f args (·=r)):Ob P:=⟨_,_, .call h⟩
def jL{P:aiH}(l:aiE (Nat×Ob P)):aiE (Nat×cD):=l.map fun b=>(b.1,b.2.o)
def jl{P:aiH}(l:aiE (Nat×Ob P)):aiE (In×cD):=l.map fun b=>(b.2.i,b.2.o)
theorem pQ{P:aiH}(l:aiE (Nat×Ob P)):gU P (jl l):=fun p hp=>by
 obtain⟨b,_,rfl⟩:=List.mem_map.1 hp;exact b.2.ok
section
variable {P:aiH} {r:aiG Nat} {N0 id:Nat} {ol:aiE Oper} {y:Code} {s:St} {Q Q':Exit→St→Prop} {bE:aiE (Nat×Ob P)} {Δ:aiE (Nat×AV)} {h':aiE an}
theorem HC{c:Code}{s':St}(hn:s'.n=s.n)(hh:s'.h=s.h)(ht:∀i,bH s'.t i=bH s.t i∨bH s'.t i= .dead)(h:bS P r N0 c Q s'):bS P r N0 c Q s:=
 ⟨fun G w a n hs hN=>h.run G w a n (hs.less hn hh ht) hN⟩
theorem O6(bE:aiE (Nat×Ob P))(Δ:aiE (Nat×AV))(h':aiE an)(h:mC P false ol (jL bE) (Δ.map (·.1)) s=some (Δ,h',jl bE))(k:bS P r N0 y Q' ⟨s.n,Δ++s.t,h'⟩):bS P r N0 (.region id ol.toArray false) (gQ (fun s=>bS P r N0 y Q' s) Q) s:=by
 obtain⟨s1,h1,h2,h3,h4⟩:=FP h;refine fD ?_;exact wO (dr:=false) ol 0 s _ h1 (pQ bE) (HC (s:=s1) (s':=⟨s.n,Δ++s.t,h'⟩) h2.symm h3.symm h4 k)
theorem S0(hm:P.follows .mixedOrders=true)(hl:mG ol.toArray=true)(bE:aiE (Nat×Ob P))(Δ:aiE (Nat×AV))(h':aiE an)(h:mC P true ol (jL bE) (Δ.map (·.1)) s=some (Δ,h',jl bE))(k:bS P r N0 y Q' ⟨s.n,Δ++s.t,h'⟩):bS P r N0 (.region id ol.toArray true) (gQ (fun s=>bS P r N0 y Q' s) Q) s:=by
 obtain⟨s1,h1,h2,h3,h4⟩:=FP h;refine H3 hm hl ?_;exact wO (dr:=true) ol 0 s _ h1 (pQ bE) (HC (s:=s1) (s':=⟨s.n,Δ++s.t,h'⟩) h2.symm h3.symm h4 k)
def zb(P:aiH)(dr:Bool)(l:aiE Oper)(as:aiE (Nat×cD))(s:St):aiG (aiE (Nat×AV)×aiE an×aiE (In×cD)):=
 match mF P l.toArray dr l 0 as s with
 |some (s1,ps)=>some (s1.t,s1.h,ps)
 |none=>none
theorem QQ{dr:Bool}{as:aiE (Nat×cD)}{t:aiE (Nat×AV)}{ps:aiE (In×cD)}(h:zb P dr ol as s=some (t,h',ps)):mF P ol.toArray dr ol 0 as s=some (⟨s.n,t,h'⟩,ps):=by
 unfold zb at h;split at h
 ·next s1 YX hr=>
  cases h
  obtain⟨_,n1⟩:=My _ _ _ _ hr;rw[hr,←n1]
 ·cases h
theorem Xc(bE:aiE (Nat×Ob P))(Δ:aiE (Nat×AV))(h':aiE an)(h:zb P false ol (jL bE) s=some (Δ++s.t,h',jl bE))(k:Q .normal ⟨s.n,Δ++s.t,h'⟩):bS P r N0 (.region id ol.toArray false) Q s:=
 fD (wO (dr:=false) ol 0 s _ (QQ h) (pQ bE) k)
theorem afI(hm:P.follows .mixedOrders=true)(hl:mG ol.toArray=true)(bE:aiE (Nat×Ob P))(Δ:aiE (Nat×AV))(h':aiE an)(h:zb P true ol (jL bE) s=some (Δ++s.t,h',jl bE))(k:Q .normal ⟨s.n,Δ++s.t,h'⟩):bS P r N0 (.region id ol.toArray true) Q s:=
 H3 hm hl (wO (dr:=true) ol 0 s _ (QQ h) (pQ bE) k)
end
def AV.fin(m:Nat)(x:AV):AV:=(x.bU m).nrm
def an.ni:an→an
 | .cells cs=> .cells (cs.map AV.nrm)
 | .lp ls p as bd cs=> .lp ls p as bd (cs.map AV.nrm)
 | .it sn cs=> .it sn (cs.map AV.nrm)
 | .vec e k cs=> .vec e k (cs.map (·.map AV.nrm))
 |B=>B
def iB(s:St)(live:aiE Nat)(m:Nat):aiG St:=
 bif cN m s.h.length&&(live.all fun k=>((bH s.t k).bU m).bf m)&&(((s.h.take m).map (an.bU m)).all (an.bf m))then some ⟨s.n,live.map fun k=>(k,(bH s.t k).fin m),((s.h.take m).map (an.bU m)).map an.ni⟩else none
theorem L1{G:Gh}{w:aiJ}{h:aiE an}(hi:cw G w h):cw G w (h.map an.ni):=by
 have ff:∀(n:Nat)(B:an),(h.map an.ni)[n]?=some B→∃B',h[n]?=some B'∧B=B'.ni:=fun n B hB=>by
  rw[ahW]at hB;cases hx:h[n]? with
  |none=>rw[hx]at hB;cases hB
  |some B'=>rw[hx]at hB;cases hB;exact⟨B',rfl,rfl⟩
 have eg:∀n b,cA (h.map an.ni) G n=some b→cA h G n=some b:=fun n b hb=>by
  obtain⟨B,hB,hb⟩:=kQ hb;obtain⟨B',h1,rfl⟩:=ff n B hB;rw[dV h1,←hb];cases B'<;>rfl
 refine⟨by rw[ahU];exact hi.len,hi.z,hi.S,fun n B hB=> ?_,fun i j b h1 h2=>hi.inj i j b (eg i b h1) (eg j b h2),hi.gl⟩;obtain⟨B',h1,rfl⟩:=ff n B hB;have eG:=hi.dz n B' h1;cases B' with
 |gone=>trivial
 |front e k len=>exact eG
 |map kv=>exact eG
 |vec e k cs=>
  obtain⟨c1,c2,c3,c4⟩:=eG;refine⟨by rw[ahU];exact c1,by rw[ahU];exact c2,fun c hc=> ?_,?_⟩
  ·obtain⟨x,hx,rfl⟩:=List.mem_map.1 hc;rw[ahU];exact c3 x hx
  ·rcases c4 with⟨d1,d2,A,d3⟩|⟨g,cap,cur,d1,d2,d3,d4,d5,d6,d7,d8,d9⟩
   ·exact .inl ⟨d1,by rw[d2];rfl,A,d3⟩
   ·refine .inr ⟨g,cap,cur,d1,by rw[ahU];exact d2,d3,d4,by rw[ahU];exact d5,d6,d7,d8,fun i j c x u hc hx hu=> ?_⟩;rw[ahW]at hc;cases hy:cs[i]? with
    |none=>rw[hy]at hc;cases hc
    |some y=>
     rw[hy]at hc;cases hc
     rw[ahW]at hx;cases hw:y[j]? with
     |none=>rw[hw]at hx;cases hx
     |some z=>rw[hw]at hx;cases hx;exact(d9 i j y z u hy hw hu).nrm
 |cells cs=>
  obtain⟨c1,c2,vs,T,c3,c4,c5⟩:=eG;refine⟨c1,c2,vs,T,c3,by rw[ahU];exact c4,fun i u c hu hc=> ?_⟩;rw[ahW]at hc;cases hx:cs[i]? with
  |none=>rw[hx]at hc;cases hc
  |some x=>rw[hx]at hc;cases hc;exact(c5 i u x hu hx).nrm
 |lp ls p as bd cs=>
  obtain⟨c1,c2,fn,vs,T,c3,c4,c5⟩:=eG;refine⟨c1,c2,fn,vs,T,c3,by rw[ahU];exact c4,fun i u c hu hc=> ?_⟩;rw[ahW]at hc;cases hx:cs[i]? with
  |none=>rw[hx]at hc;cases hc
  |some x=>rw[hx]at hc;cases hc;exact(c5 i u x hu hx).nrm
 |it sn cs=>
  obtain⟨c1,c2,fn,vs,T,c3,c4,c5⟩:=eG;refine⟨c1,c2,fn,vs,T,c3,by rw[ahU];exact c4,fun i u c hu hc=> ?_⟩;rw[ahW]at hc;cases hx:cs[i]? with
  |none=>rw[hx]at hc;cases hc
  |some x=>rw[hx]at hc;cases hc;exact(c5 i u x hu hx).nrm
section
variable {P:aiH} {r:aiG Nat} {n N0:Nat} {G:Gh} {w:aiJ} {a:Act} {s s':St} {Q Q':Exit→St→Prop} {live:aiE Nat} {m:Nat}
theorem W6(h:iB s live m=some s'):s.yj live m∧s'.n=s.n∧s'.t=(live.map fun k=>(k,(bH s.t k).fin m))∧s'.h=((s.h.take m).map (an.bU m)).map an.ni:=by
 unfold iB at h;obtain⟨hb,rfl⟩:=eh h;rw[ahR,ahR]at hb;exact⟨⟨dQ.1 hb.1.1,hb.1.2,hb.2⟩,rfl,rfl,rfl⟩
theorem dk.iB(hs:dk G w a s)(h:iB s live m=some s'):dk (G.cut m) w a s':=by
 obtain⟨h1,h2,h3,h4⟩:=W6 h;have hm:=hs.mask h1;refine⟨hs.size.trans h2.symm,fun i=> ?_,by rw[h4];exact L1 hm.inv,hs.df⟩;have:=hm.tmp i
 change aL _ _ _ (bH (live.map fun k=>(k,(bH s.t k).bU m)) i)at this
 rw[nS (fun k=>(bH s.t k).bU m)]at this;rw[h3,nS (fun k=>(bH s.t k).fin m)];split at this
 ·rename_i hi;rw[if_pos hi];exact this.nrm
 ·rename_i hi;rw[if_neg hi];exact .dead _
theorem P2{c:Code}{ι:Type}(live:aiE Nat)(m:Nat)(st:ι→St)(I:ι→Prop)(μ:ι→Nat)(i0:ι)(hm:N0≤m)(h0:Go.Proofs.YtphmhnabilhbgaaGreatDoor.iB s live m=some (st i0))(hI:I i0)
 (round:∀i,I i→bS P r N0 c (gQ (fun s'=>∃i',Go.Proofs.YtphmhnabilhbgaaGreatDoor.iB s' live m=some (st i')∧I i'∧μ i'<μ i) Q) (st i)):bS P r N0 (.loop c) Q s:=by
 constructor
 intro G w a n hs _;refine IX (fun(i:ι) a' w'=>∃G',I i∧cp N0 G w G' w'∧N0≤G'.N∧dk G' w' a' (st i)) μ i0 ⟨G.cut m,hI,nT _ _ _ _,hm,hs.iB h0⟩ ?_;rintro i a' w' ⟨G',hi,hE,hN,cY⟩;refine wpIn_mono ((round i hi).run G' w' a' n cY hN) fun e a1 w1 hn=> ?_;obtain⟨G1,s1,jG,gi,fc,hq⟩:=hn;cases e with
 |normal=>
  obtain⟨i',h1,h2,h3⟩:=hq;exact⟨i',⟨G1.cut m,h2,(hE.trans jG).trans (nT _ _ _ _),hm,fc.iB h1⟩,h3⟩
 |_=>exact⟨G1,s1,hE.trans jG,gi,fc,hq⟩
theorem gF{c:Code}(live:aiE Nat)(m:Nat)(hm:N0≤m)(h0:Go.Proofs.YtphmhnabilhbgaaGreatDoor.iB s live m=some s')(h:bS P r N0 c Q s'):bS P r N0 c Q s:=by
 constructor
 intro G w a n hs _;exact wpIn_mono (h.run (G.cut m) w a n (hs.iB h0) hm) fun _ _ _ hn=>hn.trans (nT N0 G w m)
theorem af1{c y:Code}{ι:Type}(live:aiE Nat)(m:Nat)(st:ι→St)(I:ι→Prop)(hm:N0≤m)(hc:bS P r N0 c (gQ (fun s'=>∃i,Go.Proofs.YtphmhnabilhbgaaGreatDoor.iB s' live m=some (st i)∧I i) Q) s)(hy:∀i,I i→bS P r N0 y Q' (st i)):bS P r N0 c (gQ (fun s=>bS P r N0 y Q' s) Q) s:=by
 refine hc.mono fun e s' h=> ?_;cases e with
 |normal=>obtain⟨i,h1,h2⟩:=h;exact gF live m hm h1 (hy i h2)
 |_=>exact h
def qE(P:aiH)(s:St):aiE ResultVar→aiG (aiE AV)
 |[]=>some []
 | .tmp t::l=>match qE P s l with
   |some xs=>some (bH s.t t::xs)
   |none=>none
 | .cell p t::l=>match xh s.h (bH s.t p)with
   |some (cs,off)=>match yC P t cs off,qE P s l with
    |some x,some xs=>some (x::xs)
    |_,_=>none
   |none=>none
def vL(P:aiH)(rs:aiE ResultVar)(s:St):aiG AV:=
 match qE P s rs with
 |some l=>bif ((jk l).bU 0).bf 0 then some ((jk l).fin 0)else none
 |none=>none
def DT(P:aiH)(fn:Func)(R:AV):Exit→St→Prop
 | .normal,s=>vL P fn.results.toList s=some R
 | .ret,s=>vL P fn.results.toList s=some R
 |_,_=>False
theorem CH:∀(l:aiE ResultVar)(xs:aiE AV)(C:aiE AV→Prop),qE P s l=some xs→C xs→lY P s l C
 |[],xs,C,h,hC=>by cases h;exact hC
 | .tmp t::l,xs,C,h,hC=>by
   unfold qE at h;split at h
   ·next ys e=>cases h;exact CH l ys _ e hC
   ·cases h
 | .cell p t::l,xs,C,h,hC=>by
   unfold qE at h;split at h
   ·next cs off e=>
    split at h
    ·next x ys e1 e2=>cases h;exact Jg e e1 (CH l ys _ e2 hC)
    ·cases h
   ·cases h
theorem SO{fn:Func}{R:AV}(h:vL P fn.results.toList s=some R):py P fn 0 (fun r h'=>h'=[]∧r.nrm=R) s:=by
 unfold vL at h;split at h
 ·next l e=>
  obtain⟨hb,rfl⟩:=eh h;exact CH _ l _ e ⟨Nat.zero_le _,hb,by simp,by simp,rfl⟩
 ·cases h
theorem gn{fn:Func}{R:AV}(h:vL P fn.results.toList s=some R):DT P fn R .ret s:=h
theorem qg{f:FuncId}{fn:Func}{c:Code}{args:aiE AV}{R:AV}(hf:P.funcs[f]?=some fn)(hb:fn.body=some c)(hn:(fn.name== "runtime.NumGoroutine")=false)
 (hw:bS P none 0 c (DT P fn R) {n:=args.length+(fn.ntmps-args.length),t:=kS 0 args,h:=[]}):bg P f args (·=R):=by
 have h:=Ah (P:=P) (f:=f) (args:=args) (h:=[]) (K:=fun r h'=>h'=[]∧r.nrm=R) 0 hf hb hn (ah0 _) (hw.mono fun e s hq=>by
  cases e with
  |normal=>exact SO hq
  |ret=>exact SO hq
  |_=>exact hq.elim)
 refine⟨h.1,fun G w vs hi hl hr=>(h.2 G w vs hi hl hr).mono fun e w' hp=> ?_⟩;obtain⟨v,G',x,h',rfl,hE,hN,dT,hv,rfl,rfl⟩:=hp;exact⟨v,G',x.nrm,[],rfl,hE,hN,dT,hv.nrm,rfl,rfl⟩
theorem ahC{c:Code}(b i:Nat)(xs:aiE (aiE D))(hx:((s.h[b]?).bind fun B=>match B with| .cells cs=>(cs[i]?).bind AV.fY|_=>none)=some xs)(h:xs.length≤maxLen→bS P r N0 c Q s):bS P r N0 c Q s:=by
 constructor
 intro G w a n hs hN;cases hb:s.h[b]? with
 |none=>rw[hb]at hx;cases hx
 |some B=>
  rw[hb]at hx;cases B with
  |cells cs=>
   simp only[ahO]at hx;obtain⟨_,_,vs,T,_,hl,hr⟩:=hs.inv.dz b _ hb;cases hc:cs[i]? with
   |none=>rw[hc]at hx;cases hx
   |some x=>
    rw[hc]at hx;have aZ:i<vs.size:=by rw[hl];exact(ahP.1 hc).1
    obtain⟨A,b',o,c',k',us,_,_,h1,h2,_⟩:=((hr i _ x (aib aZ) hc).list hx).nR;exact(h (ah7 h1 h2)).run G w a n hs hN
  |_=>cases hx
end
theorem ac4{P:aiH}{r:aiG Nat}{N0 id:Nat}{ol:aiE Oper}{y:Code}{s:St}{Q Q':Exit→St→Prop}(Δ:aiE (Nat×AV))(h':aiE an)(h:∃bE:aiE (Nat×Ob P),mC P false ol (jL bE) (Δ.map (·.1)) s=some (Δ,h',jl bE))(k:bS P r N0 y Q' ⟨s.n,Δ++s.t,h'⟩):bS P r N0 (.region id ol.toArray false) (gQ (fun s=>bS P r N0 y Q' s) Q) s:=
 let ⟨bE,h⟩:=h;O6 bE Δ h' h k
theorem aaM{P:aiH}{r:aiG Nat}{N0 id:Nat}{ol:aiE Oper}{y:Code}{s:St}{Q Q':Exit→St→Prop}(hm:P.follows .mixedOrders=true)(hl:mG ol.toArray=true)(Δ:aiE (Nat×AV))(h':aiE an)(h:∃bE:aiE (Nat×Ob P),mC P true ol (jL bE) (Δ.map (·.1)) s=some (Δ,h',jl bE))(k:bS P r N0 y Q' ⟨s.n,Δ++s.t,h'⟩):bS P r N0 (.region id ol.toArray true) (gQ (fun s=>bS P r N0 y Q' s) Q) s:=
 let ⟨bE,h⟩:=h;S0 hm hl bE Δ h' h k
theorem dA{α:Type}{c:Bool}{a b:α}(h:c=true):cond c a b=a:=by rw[h];rfl
theorem fS{α:Type}{c:Bool}{a b:α}(h:c=false):cond c a b=b:=by rw[h];rfl
theorem ar{α β:Type}{x:aiG α}{f:α→aiG β}{b:β}(h:Option.bind x f=some b):∃a,x=some a∧f a=some b:=by
 cases x with
 |none=>cases h
 |some a=>exact⟨a,rfl,h⟩
theorem fQ(b:Bool):b=true∨b=false:=by cases b<;>simp
theorem cG{b:Bool}(h:b=true):(!b)=false:=by rw[h];rfl
theorem cU{b:Bool}(h:b=false):(!b)=true:=by rw[h];rfl
theorem fw{α:Type}{c:Bool}{x:aiG α}{r:α}(h:(bif c then x else none)=some r):c=true:=by
 cases c with
 |true=>rfl
 |false=>cases h
section
variable {P:aiH} {r:aiG Nat} {N0 id n:Nat} {ol:aiE Oper} {y:Code} {t:aiE (Nat×AV)} {h:aiE an} {Q Q':Exit→St→Prop}
theorem rg(bE:aiE (Nat×Ob P))(Δ:aiE (Nat×AV))(h':aiE an)(e:mC P false ol (jL bE) (Δ.map (·.1)) ⟨n,t,h⟩=some (Δ,h',jl bE))(k:bS P r N0 y Q' ⟨n,Δ++t,h'⟩):bS P r N0 (.region id ol.toArray false) (gQ (fun s=>bS P r N0 y Q' s) Q) ⟨n,t,h⟩:=O6 bE Δ h' e k
theorem rd(hm:P.follows .mixedOrders=true)(hl:mG ol.toArray=true)(bE:aiE (Nat×Ob P))(Δ:aiE (Nat×AV))(h':aiE an)(e:mC P true ol (jL bE) (Δ.map (·.1)) ⟨n,t,h⟩=some (Δ,h',jl bE))(k:bS P r N0 y Q' ⟨n,Δ++t,h'⟩):bS P r N0 (.region id ol.toArray true) (gQ (fun s=>bS P r N0 y Q' s) Q) ⟨n,t,h⟩:=S0 hm hl bE Δ h' e k
theorem re(bE:aiE (Nat×Ob P))(Δ:aiE (Nat×AV))(h':aiE an)(e:zb P false ol (jL bE) ⟨n,t,h⟩=some (Δ++t,h',jl bE))(k:Q .normal ⟨n,Δ++t,h'⟩):bS P r N0 (.region id ol.toArray false) Q ⟨n,t,h⟩:=Xc bE Δ h' e k
theorem Xp(hm:P.follows .mixedOrders=true)(hl:mG ol.toArray=true)(bE:aiE (Nat×Ob P))(Δ:aiE (Nat×AV))(h':aiE an)(e:zb P true ol (jL bE) ⟨n,t,h⟩=some (Δ++t,h',jl bE))(k:Q .normal ⟨n,Δ++t,h'⟩):bS P r N0 (.region id ol.toArray true) Q ⟨n,t,h⟩:=afI hm hl bE Δ h' e k
theorem VS(Δ:aiE (Nat×AV))(h':aiE an)(e:∃bE:aiE (Nat×Ob P),mC P false ol (jL bE) (Δ.map (·.1)) ⟨n,t,h⟩=some (Δ,h',jl bE))(k:bS P r N0 y Q' ⟨n,Δ++t,h'⟩):bS P r N0 (.region id ol.toArray false) (gQ (fun s=>bS P r N0 y Q' s) Q) ⟨n,t,h⟩:=ac4 Δ h' e k
theorem WG(hm:P.follows .mixedOrders=true)(hl:mG ol.toArray=true)(Δ:aiE (Nat×AV))(h':aiE an)(e:∃bE:aiE (Nat×Ob P),mC P true ol (jL bE) (Δ.map (·.1)) ⟨n,t,h⟩=some (Δ,h',jl bE))(k:bS P r N0 y Q' ⟨n,Δ++t,h'⟩):bS P r N0 (.region id ol.toArray true) (gQ (fun s=>bS P r N0 y Q' s) Q) ⟨n,t,h⟩:=aaM hm hl Δ h' e k
end
def bs(l:aiE UInt8):aiF:=⟨l.toArray⟩
def rY(x:D):Prop:=∃(S:Nat→Nat→Prop)(w:aiJ)(u:aiI),dG S w u x
theorem qH{xs:aiE (aiE D)}(h:rY (.sl xs)):xs.length≤maxLen:=by
 obtain⟨S,w,u,h⟩:=h;obtain⟨A,b',o,c',k',us,_,_,h1,h2,_⟩:=h.nR;exact ah7 h1 h2
theorem DJ{xs:aiE (aiE D)}{i j:Nat}{c:aiE D}{d:D}(h:rY (.sl xs))(hc:xs[i]?=some c)(hd:c[j]?=some d):rY d:=by
 obtain⟨S,w,u,h⟩:=h;obtain⟨A,b',o,c',k',us,_,_,h1,h2,h3,h4,h5⟩:=h.nR;exact⟨S,w,_,h5 i j c d hc hd⟩
section
variable {P:aiH} {r:aiG Nat} {n N0:Nat} {s:St} {Q:Exit→St→Prop}
theorem pF{c:Code}(k:Nat)(xs:aiE (aiE D))(hx:(bH s.t k).fY=some xs)(h:rY (.sl xs)→bS P r N0 c Q s):bS P r N0 c Q s:=by
 constructor
 intro G w a n hs hN;exact(h ⟨_,_,_,(hs.tmp k).list hx⟩).run G w a n hs hN
theorem agx{c:Code}(b i:Nat)(xs:aiE (aiE D))(hx:((s.h[b]?).bind fun B=>match B with| .cells cs=>(cs[i]?).bind AV.fY|_=>none)=some xs)(h:rY (.sl xs)→bS P r N0 c Q s):bS P r N0 c Q s:=by
 constructor
 intro G w a n hs hN;cases hb:s.h[b]? with
 |none=>rw[hb]at hx;cases hx
 |some B=>
  rw[hb]at hx;cases B with
  |cells cs=>
   simp only[ahO]at hx;obtain⟨_,_,vs,T,_,hl,hr⟩:=hs.inv.dz b _ hb;cases hc:cs[i]? with
   |none=>rw[hc]at hx;cases hx
   |some x=>
    rw[hc]at hx;have aZ:i<vs.size:=by rw[hl];exact(ahP.1 hc).1
    exact(h ⟨_,_,_,(hr i _ x (aib aZ) hc).list hx⟩).run G w a n hs hN
  |_=>cases hx
end
end Go.Proofs.YtphmhnabilhbgaaGreatDoor
namespace Go.Proofs.YtphmhnabilhbgaaGreatDoor
open Go.RowKit
mutual
def AV.fb(b:Nat)(ds:aiE D):AV→AV
 | .ptr n off=>bif n==b then .bt [ds] 0 off else .ptr n off
 | .agg cs=> .agg (AV.tH b ds cs)
 | .cb cs=> .cb (AV.tH b ds cs)
 | .fn f cs=> .fn f (AV.tH b ds cs)
 |x=>x
def AV.tH(b:Nat)(ds:aiE D):aiE AV→aiE AV
 |[]=>[]
 |x::l=>x.fb b ds::AV.tH b ds l
end
theorem CW(b:Nat)(ds:aiE D):∀l,AV.tH b ds l=l.map (AV.fb b ds)
 |[]=>by simp [AV.tH]
 |x::l=>by simp [AV.tH,CW b ds l]
def an.fb(b:Nat)(ds:aiE D):an→an
 | .cells cs=> .cells (cs.map (AV.fb b ds))
 | .lp ls p as bd cs=> .lp ls p as bd (cs.map (AV.fb b ds))
 | .it sn cs=> .it sn (cs.map (AV.fb b ds))
 | .vec e k cs=> .vec e k (cs.map (·.map (AV.fb b ds)))
 |B=>B
def wI(s:St)(b:Nat):aiG St:=
 match s.h[b]? with
 |some (.cells cs)=>match mf cs with
  |some ds=>some ⟨s.n,s.t.map fun p=>(p.1,p.2.fb b ds),(s.h.map (an.fb b ds)).set b .gone⟩
  |none=>none
 |_=>none
theorem wJ(f:AV→AV)(hf:f .dead= .dead):∀(t:aiE (Nat×AV))(i:Nat),bH (t.map fun p=>(p.1,f p.2)) i=f (bH t i)
 |[],i=>by simp [bH,hf]
 |(k,x)::l,i=>by
  simp only[aie,lu,wJ f hf l i];split<;>rfl
theorem aL.fb{G G':Gh}{w:aiJ}{b:Nat}{ds:aiE D}(hE:cp G.N G w G' w)(hN:G'.N=G.N)(hp:∀off,aL G' w (.pointer (some ⟨G.bA b,off,none⟩)) (.bt [ds] 0 off)){u:aiI}{x:AV}(h:aL G w u x):aL G' w u (x.fb b ds):=by
 have bq:∀{u:aiI}{x:AV},aL G w u x→aL G' w u x:=fun h=>h.bq hE (Nat.le_of_eq hN.symm);have fF:∀(vs:Array aiI)(cs:aiE AV),(∀(i:Nat)(u:aiI)(c:AV),vs[i]?=some u→cs[i]?=some c→aL G' w u (c.fb b ds))→∀(i:Nat)(u:aiI)(c:AV),vs[i]?=some u→(AV.tH b ds cs)[i]?=some c→aL G' w u c:=by
  intro vs cs ih i u c hu hc;rw[CW,ahW]at hc;cases hx:cs[i]? with
  |none=>rw[hx]at hc;cases hc
  |some x=>rw[hx]at hc;cases hc;exact ih i u x hu hx
 induction h with
 |agg vs cs hl _ ih=>rw[AV.fb];exact .agg vs _ (by rw[CW,ahU];exact hl) (fF vs cs ih)
 |cb vs cs hl _ ih=>rw[AV.fb];exact .cb vs _ (by rw[CW,ahU];exact hl) (fF vs cs ih)
 |fn f vs cs hl _ ih=>rw[AV.fb];exact .fn f vs _ (by rw[CW,ahU];exact hl) (fF vs cs ih)
 |ptr n off h=>
  rw[AV.fb,cond_eq_ite];split
  ·next e=>rw[beq_iff_eq]at e;subst e;exact hp off
  ·exact bq (.ptr n off h)
 |own n xs h hp hle hf=>simp only[AV.fb];exact bq (.own n xs h hp hle hf)
 |d h=>simp only[AV.fb];exact bq (.d h)
 |bt xs i off b o u x hx hS hu=>simp only[AV.fb];exact bq (.bt xs i off b o u x hx hS hu)
 |full xs hp hf=>simp only[AV.fb];exact bq (.full xs hp hf)
 |row n off len cap k h hl hm=>simp only[AV.fb];exact bq (.row n off len cap k h hl hm)
 |mp n h=>simp only[AV.fb];exact bq (.mp n h)
 |dp n h=>simp only[AV.fb];exact bq (.dp n h)
 |vec n o len L k h hs hL hf=>simp only[AV.fb];exact bq (.vec n o len L k h hs hL hf)
 |dw n i j L k h hs hL hf=>simp only[AV.fb];exact bq (.dw n i j L k h hs hL hf)
 |hid h h1=>simp only[AV.fb];exact bq (.hid h h1)
 |dead u=>simp only[AV.fb];exact .dead u
theorem SX:∀(cs:aiE AV)(ds:aiE D),mf cs=some ds→cs.length=ds.length∧∀(i:Nat)(c:AV)(d:D),cs[i]?=some c→ds[i]?=some d→c.w5=some d
 |[],ds,h=>by unfold mf at h;cases h;exact⟨rfl,fun i c d hc=>by simp at hc⟩
 |x::cs,ds,h=>by
  unfold mf at h;split at h
  ·next d l e1 e2=>
   cases h
   obtain⟨h1,h2⟩:=SX cs l e2;refine⟨by simp [h1],fun i c d' hc hd=> ?_⟩
   match i with
   |0=>simp only[List.getElem?_cons_zero,Option.some.injEq]at hc hd;subst hc;subst hd;exact e1
   |i+1=>exact h2 i c d' (by simpa using hc) (by simpa using hd)
  ·cases h
theorem aL.afA{G:Gh}{w:aiJ}{u:aiI}{x:AV}{d:D}(h:aL G w u x)(hd:x.w5=some d):dG G.S w u d:=by
 cases h with
 |d h=>cases hd;exact h.zk
 |own n xs h hp=>cases hd;exact hp
 |full xs hp=>cases hd;exact hp
 |_=>cases hd
theorem dk.wI{G:Gh}{w:aiJ}{a:Act}{s s':St}{b:Nat}(hs:dk G w a s)(h:wI s b=some s'):∃G',cp G.N G w G' w∧G'.N=G.N∧dk G' w a s':=by
 unfold Go.Proofs.YtphmhnabilhbgaaGreatDoor.wI at h;split at h
 ·next cs hb=>
  split at h
  ·next ds tO=>
   cases h
   obtain⟨z1,z2,vs,T,z3,z4,z5⟩:=hs.inv.dz b _ hb;obtain⟨d1,d2⟩:=SX cs ds tO;have lM:cA s.h G b=some (G.bA b):=dV hb;obtain⟨S,hS⟩:∃S:Nat→Nat→Prop,S=fun b' o=>G.S b' o∨(b'=G.bA b∧o<ds.length):=⟨_,rfl⟩;have hE:cp G.N G w {G with S:=S} w:=⟨ah0 _,fun b o h=>by show S b o;rw[hS];exact .inl h,fun _ _ _=>rfl,fun _ _=>rfl,fun _ _=> .inl ⟨rfl,rfl⟩,gB rfl,fun _ _=>rfl,rfl,rfl,rfl,fun b' o hs=>by
    have cY:S b' o:=hs;rw[hS]at cY;rcases cY with h|⟨rfl,_⟩
    ·exact .inl h
    ·exact .inr z1⟩
   have hp:∀off,aL {G with S:=S} w (.pointer (some ⟨G.bA b,off,none⟩)) (.bt [ds] 0 off):=fun off=>by
    have:=aL.bt (G:={G with S:=S}) (w:=w) [ds] 0 off (G.bA b) 0 (fun j=>vs.getD j undef) ds rfl (fun j hj=> ?_) (fun j d hd=> ?_)
    ·rwa [ah9]at this
    ·have iF:j<vs.size:=by rw[z4,d1];exact hj
     refine⟨by show S _ _;rw[hS];exact .inr ⟨rfl,by rw[ah9];exact hj⟩,?_⟩;rw[ah9,cell_of_row w (G.bA b) j vs T (0,0) z3];simp [Array.getD,iF]
    ·have hj:j<ds.length:=(ahP.1 hd).1;have iF:j<vs.size:=by rw[z4,d1];exact hj
     have hc:cs[j]?=some cs[j]:=ahT (by rw[d1];exact hj);have hv:=z5 j vs[j] _ (aib iF) hc;have e:vs.getD j undef=vs[j]:=by simp [Array.getD,iF]
     rw[e];exact(hv.afA (d2 j _ d hc hd)).bq hE.S hE.cell
   have hv:∀{u:aiI}{x:AV},aL G w u x→aL {G with S:=S} w u (x.fb b ds):=fun h=>h.fb hE rfl hp;have Z9:=(ahP.1 hb).1;have ff:∀(n:Nat)(B:an),((s.h.map (an.fb b ds)).set b .gone)[n]?=some B→(n=b∧B= .gone)∨(n≠b∧∃B',s.h[n]?=some B'∧B=B'.fb b ds):=fun n B hB=>by
    by_cases e:b=n
    ·subst e;rw[aij (by rw[ahU];exact Z9)]at hB;cases hB;exact .inl ⟨rfl,rfl⟩
    ·rw[aio e,ahW]at hB;cases hx:s.h[n]? with
     |none=>rw[hx]at hB;cases hB
     |some B'=>rw[hx]at hB;cases hB;exact .inr ⟨fun h=>e h.symm,B',rfl,rfl⟩
   have eg:∀n x,cA ((s.h.map (an.fb b ds)).set b .gone) {G with S:=S} n=some x→n≠b∧cA s.h G n=some x:=fun n x hx=>by
    obtain⟨B,hn,hx⟩:=kQ hx;rcases ff n _ hn with⟨_,e⟩|⟨dj,B',h1,rfl⟩
    ·subst e;cases hx
    ·refine⟨dj,?_⟩;rw[dV h1,←hx];cases B'<;>rfl
   refine⟨{G with S:=S},hE,rfl,hs.size,fun i=> ?_,⟨by rw[List.length_set,ahU];exact hs.inv.len,hs.inv.z,fun b' o h=> ?_,fun n B hB=> ?_,fun m n x h1 h2=>hs.inv.inj m n x (eg m x h1).2 (eg n x h2).2,hs.inv.gl.bq hE⟩,hs.df⟩
   ·show aL _ _ _ (bH (s.t.map fun p=>(p.1,p.2.fb b ds)) i);rw[wJ (AV.fb b ds) (by simp [AV.fb])];exact hv (hs.tmp i)
   ·have cY:S b' o:=h;rw[hS]at cY;rcases cY with h|⟨rfl,_⟩
    ·exact hs.inv.S b' o h
    ·exact(ah4.1 z3).1
   ·rcases ff n B hB with⟨rfl,rfl⟩|⟨dj,B',h1,rfl⟩
    ·trivial
    ·have eG:=hs.inv.dz n B' h1;cases B' with
     |gone=>trivial
     |map kv=>exact eF.bq (G':={G with S:=S}) (hs.inv.lt h1) hE (ah0 _) ⟨rfl,rfl,rfl⟩ (fun c hc=>⟨rfl,fun o kj hq=>by
      have cY:S c o:=hq;rw[hS]at cY;rcases cY with h|⟨e,_⟩
      ·exact kj h
      ·exact dj (hs.inv.inj n b _ ((dV h1).trans hc) (by rw[e];exact lM))⟩) eG
     |front e k len=>exact eF.bq (G':={G with S:=S}) (hs.inv.lt h1) hE (ah0 _) ⟨rfl,rfl,rfl⟩ (fun c hc=>⟨rfl,fun o kj hq=>by
      have cY:S c o:=hq;rw[hS]at cY;rcases cY with h|⟨e,_⟩
      ·exact kj h
      ·exact dj (hs.inv.inj n b _ ((dV h1).trans hc) (by rw[e];exact lM))⟩) eG
     |cells cB=>
      obtain⟨c1,c2,fU,T',c3,c4,c5⟩:=eG;have lV:cA s.h G n=some (G.bA n):=dV h1;refine⟨c1,fun o hq=> ?_,fU,T',c3,by rw[ahU];exact c4,fun i u c hu hc=> ?_⟩
      ·have cY:S (G.bA n) o:=hq;rw[hS]at cY;rcases cY with h|⟨e,_⟩
       ·exact c2 o h
       ·exact dj (hs.inv.inj n b _ lV (by rw[e];exact lM))
      ·rw[ahW]at hc;cases hx:cB[i]? with
       |none=>rw[hx]at hc;cases hc
       |some x=>rw[hx]at hc;cases hc;exact hv (c5 i u x hu hx)
     |lp ls p as bd cB=>
      obtain⟨c1,c2,fn,fU,T',c3,c4,c5⟩:=eG;have lV:cA s.h G n=some (G.bA n):=dV h1;refine⟨c1,fun o hq=> ?_,fn,fU,T',c3,by rw[ahU];exact c4,fun i u c hu hc=> ?_⟩
      ·have cY:S (G.bA n) o:=hq;rw[hS]at cY;rcases cY with h|⟨e,_⟩
       ·exact c2 o h
       ·exact dj (hs.inv.inj n b _ lV (by rw[e];exact lM))
      ·rw[ahW]at hc;cases hx:cB[i]? with
       |none=>rw[hx]at hc;cases hc
       |some x=>rw[hx]at hc;cases hc;exact hv (c5 i u x hu hx)
     |it sn cB=>
      obtain⟨c1,c2,fn,fU,T',c3,c4,c5⟩:=eG;have lV:cA s.h G n=some (G.bA n):=dV h1;refine⟨c1,fun o hq=> ?_,fn,fU,T',c3,by rw[ahU];exact c4,fun i u c hu hc=> ?_⟩
      ·have cY:S (G.bA n) o:=hq;rw[hS]at cY;rcases cY with h|⟨e,_⟩
       ·exact c2 o h
       ·exact dj (hs.inv.inj n b _ lV (by rw[e];exact lM))
      ·rw[ahW]at hc;cases hx:cB[i]? with
       |none=>rw[hx]at hc;cases hc
       |some x=>rw[hx]at hc;cases hc;exact hv (c5 i u x hu hx)
     |vec e k cB=>
      obtain⟨c1,c2,c3,c4⟩:=eG;refine⟨by rw[ahU];exact c1,by rw[ahU];exact c2,fun c hc=> ?_,?_⟩
      ·obtain⟨x,hx,rfl⟩:=List.mem_map.1 hc;rw[ahU];exact c3 x hx
      ·rcases c4 with⟨d1,d2,A,d3⟩|⟨g,cap,cur,d1,d2,d3,d4,d5,d6,d7,d8,d9⟩
       ·exact .inl ⟨d1,by rw[d2];rfl,A,d3⟩
       ·have lV:cA s.h G n=some g:=(dV h1).trans d1;refine .inr ⟨g,cap,cur,d1,by rw[ahU];exact d2,d3,d4,by rw[ahU];exact d5,d6,d7,fun o hq=> ?_,fun i j c x u hc hx hu=> ?_⟩
        ·have cY:S g o:=hq;rw[hS]at cY;rcases cY with h|⟨e,_⟩
         ·exact d8 o h
         ·exact dj (hs.inv.inj n b _ lV (by rw[e];exact lM))
        ·rw[ahW]at hc;cases hy:cB[i]? with
         |none=>rw[hy]at hc;cases hc
         |some y=>
          rw[hy]at hc;cases hc
          rw[ahW]at hx;cases hw:y[j]? with
          |none=>rw[hw]at hx;cases hx
          |some z=>rw[hw]at hx;cases hx;exact hv (d9 i j y z u hy hw hu)
  ·cases h
 ·cases h
theorem Ut{P:aiH}{r:aiG Nat}{N0:Nat}{c:Code}{s s':St}{Q:Exit→St→Prop}(b:Nat)(e:wI s b=some s')(h:bS P r N0 c Q s'):bS P r N0 c Q s:=by
 constructor
 intro G w a n hs hN;obtain⟨G',hE,F3,cY⟩:=hs.wI e;exact wpIn_mono (h.run G' w a n cY (by rw[F3];exact hN)) fun _ _ _ hn=>hn.trans (hE.less hN)
def D.mY:D→Bool
 | .v u=>u.oneCell'
 | .sl _=>true
mutual
def AV.kill(b:Nat):AV→AV
 | .vec n o len L k=>bif n==b then .dead else .vec n o len L k
 | .dw n i j L k=>bif n==b then .dead else .dw n i j L k
 | .agg cs=> .agg (AV.E2 b cs)
 | .cb cs=> .cb (AV.E2 b cs)
 | .fn f cs=> .fn f (AV.E2 b cs)
 |x=>x
def AV.E2(b:Nat):aiE AV→aiE AV
 |[]=>[]
 |x::l=>x.kill b::AV.E2 b l
end
def an.ie(f:AV→AV):an→an
 | .cells cs=> .cells (cs.map f)
 | .lp ls p as bd cs=> .lp ls p as bd (cs.map f)
 | .it sn cs=> .it sn (cs.map f)
 | .vec e k cs=> .vec e k (cs.map (·.map f))
 |B=>B
theorem TA{G:Gh}{w:aiJ}{h:aiE an}(hi:cw G w h){b:Nat}{S:Nat→Nat→Prop}{f:AV→AV}(hE:cp G.N G w {G with S:=S} w)(hS:∀c o,S c o→G.S c o∨cA h G b=some c)(hv:∀{u:aiI}{x:AV},aL G w u x→aL {G with S:=S} w u (f x)):
 cw {G with S:=S} w ((h.map (an.ie f)).set b .gone):=by
 have ff:∀(n:Nat)(B:an),((h.map (an.ie f)).set b .gone)[n]?=some B→(n=b∧B= .gone)∨(n≠b∧∃B',h[n]?=some B'∧B=B'.ie f):=fun n B hB=>by
  by_cases e:b=n
  ·subst e;have aZ:=(ahP.1 hB).1;rw[List.length_set]at aZ;rw[aij aZ]at hB;cases hB;exact .inl ⟨rfl,rfl⟩
  ·rw[aio e,ahW]at hB;cases hx:h[n]? with
   |none=>rw[hx]at hB;cases hB
   |some B'=>rw[hx]at hB;cases hB;exact .inr ⟨fun h=>e h.symm,B',rfl,rfl⟩
 have eg:∀n x,cA ((h.map (an.ie f)).set b .gone) {G with S:=S} n=some x→n≠b∧cA h G n=some x:=fun n x hx=>by
  obtain⟨B,hn,hx⟩:=kQ hx;rcases ff n _ hn with⟨_,e⟩|⟨dj,B',h1,rfl⟩
  ·subst e;cases hx
  ·refine⟨dj,?_⟩;rw[dV h1,←hx];cases B'<;>rfl
 refine⟨by rw[List.length_set,ahU];exact hi.len,hi.z,fun c o hs=> ?_,fun n B hB=> ?_,fun m n x h1 h2=>hi.inj m n x (eg m x h1).2 (eg n x h2).2,hi.gl.bq hE⟩
 ·rcases hS c o hs with h1|h1
  ·exact hi.S c o h1
  ·exact hi.iL h1
 ·rcases ff n B hB with⟨rfl,rfl⟩|⟨dj,B',h1,rfl⟩
  ·trivial
  ·have eG:=hi.dz n B' h1;have fX:∀c,B'.eo G n=some c→∀o,¬G.S c o→¬S c o:=fun c hc o kj hq=>by
    rcases hS c o hq with h2|h2
    ·exact kj h2
    ·exact dj (hi.inj n b c ((dV h1).trans hc) h2)
   cases B' with
   |gone=>trivial
   |map kv=>exact eF.bq (G':={G with S:=S}) (hi.lt h1) hE (ah0 _) ⟨rfl,rfl,rfl⟩ (fun c hc=>⟨rfl,fX c hc⟩) eG
   |front e k len=>exact eF.bq (G':={G with S:=S}) (hi.lt h1) hE (ah0 _) ⟨rfl,rfl,rfl⟩ (fun c hc=>⟨rfl,fX c hc⟩) eG
   |cells cB=>
    obtain⟨c1,c2,fU,T',c3,c4,c5⟩:=eG;refine⟨c1,fun o=>fX _ rfl o (c2 o),fU,T',c3,by rw[ahU];exact c4,fun i u c hu hc=> ?_⟩;rw[ahW]at hc;cases hx:cB[i]? with
    |none=>rw[hx]at hc;cases hc
    |some x=>rw[hx]at hc;cases hc;exact hv (c5 i u x hu hx)
   |lp ls p as bd cB=>
    obtain⟨c1,c2,fn,fU,T',c3,c4,c5⟩:=eG;refine⟨c1,fun o=>fX _ rfl o (c2 o),fn,fU,T',c3,by rw[ahU];exact c4,fun i u c hu hc=> ?_⟩;rw[ahW]at hc;cases hx:cB[i]? with
    |none=>rw[hx]at hc;cases hc
    |some x=>rw[hx]at hc;cases hc;exact hv (c5 i u x hu hx)
   |it sn cB=>
    obtain⟨c1,c2,fn,fU,T',c3,c4,c5⟩:=eG;refine⟨c1,fun o=>fX _ rfl o (c2 o),fn,fU,T',c3,by rw[ahU];exact c4,fun i u c hu hc=> ?_⟩;rw[ahW]at hc;cases hx:cB[i]? with
    |none=>rw[hx]at hc;cases hc
    |some x=>rw[hx]at hc;cases hc;exact hv (c5 i u x hu hx)
   |vec e k cB=>
    obtain⟨c1,c2,c3,c4⟩:=eG;refine⟨by rw[ahU];exact c1,by rw[ahU];exact c2,fun c hc=> ?_,?_⟩
    ·obtain⟨x,hx,rfl⟩:=List.mem_map.1 hc;rw[ahU];exact c3 x hx
    ·rcases c4 with⟨d1,d2,A,d3⟩|⟨g,cap,cur,d1,d2,d3,d4,d5,d6,d7,d8,d9⟩
     ·exact .inl ⟨d1,by rw[d2];rfl,A,d3⟩
     ·refine .inr ⟨g,cap,cur,d1,by rw[ahU];exact d2,d3,d4,by rw[ahU];exact d5,d6,d7,fun o=>fX g d1 o (d8 o),fun i j c x u hc hx hu=> ?_⟩;rw[ahW]at hc;cases hy:cB[i]? with
      |none=>rw[hy]at hc;cases hc
      |some y=>
       rw[hy]at hc;cases hc
       rw[ahW]at hx;cases hw:y[j]? with
       |none=>rw[hw]at hx;cases hx
       |some z=>rw[hw]at hx;cases hx;exact hv (d9 i j y z u hy hw hu)
mutual
def AV.dn(b kk:Nat)(xs:aiE (aiE D)):AV→AV
 | .vec n o len L k=>bif n==b then(bif L==xs.length&&k==kk then .d (.sl ((xs.drop o).take len))else .dead)else .vec n o len L k
 | .dw n i j L k=>bif n==b then .dead else .dw n i j L k
 | .agg cs=> .agg (AV.n4 b kk xs cs)
 | .cb cs=> .cb (AV.n4 b kk xs cs)
 | .fn f cs=> .fn f (AV.n4 b kk xs cs)
 |x=>x
def AV.n4(b kk:Nat)(xs:aiE (aiE D)):aiE AV→aiE AV
 |[]=>[]
 |x::l=>x.dn b kk xs::AV.n4 b kk xs l
end
theorem px(b kk:Nat)(xs:aiE (aiE D)):∀l,AV.n4 b kk xs l=l.map (AV.dn b kk xs)
 |[]=>by simp [AV.n4]
 |x::l=>by simp [AV.n4,px b kk xs l]
theorem aL.dn{G G':Gh}{w:aiJ}{b kk:Nat}{xs:aiE (aiE D)}(hE:cp G.N G w G' w)(hN:G'.N=G.N)(hp:∀(u:aiI)(o len:Nat),aL G w u (.vec b o len xs.length kk)→dG G'.S w u (.sl ((xs.drop o).take len))){u:aiI}{x:AV}(h:aL G w u x):aL G' w u (x.dn b kk xs):=by
 have bq:∀{u:aiI}{x:AV},aL G w u x→aL G' w u x:=fun h=>h.bq hE (Nat.le_of_eq hN.symm);have fF:∀(vs:Array aiI)(cs:aiE AV),(∀(i:Nat)(u:aiI)(c:AV),vs[i]?=some u→cs[i]?=some c→aL G' w u (c.dn b kk xs))→∀(i:Nat)(u:aiI)(c:AV),vs[i]?=some u→(AV.n4 b kk xs cs)[i]?=some c→aL G' w u c:=by
  intro vs cs ih i u c hu hc;rw[px,ahW]at hc;cases hx:cs[i]? with
  |none=>rw[hx]at hc;cases hc
  |some x=>rw[hx]at hc;cases hc;exact ih i u x hu hx
 induction h with
 |agg vs cs hl _ ih=>rw[AV.dn];exact .agg vs _ (by rw[px,ahU];exact hl) (fF vs cs ih)
 |cb vs cs hl _ ih=>rw[AV.dn];exact .cb vs _ (by rw[px,ahU];exact hl) (fF vs cs ih)
 |fn f vs cs hl _ ih=>rw[AV.dn];exact .fn f vs _ (by rw[px,ahU];exact hl) (fF vs cs ih)
 |vec n o len L k h hs hL hf=>
  rw[AV.dn,cond_eq_ite];split
  ·next e=>
   have e:n=b:=by simpa using e
   subst e;rw[cond_eq_ite];split
   ·next e2=>
    rw[ahR,beq_iff_eq,beq_iff_eq]at e2;obtain⟨rfl,rfl⟩:=e2;exact .d (hp _ o len (.vec n o len _ _ h hs hL hf))
   ·exact .dead _
  ·exact bq (.vec n o len L k h hs hL hf)
 |dw n i j L k h hs hL hf=>
  rw[AV.dn,cond_eq_ite];split
  ·exact .dead _
  ·exact bq (.dw n i j L k h hs hL hf)
 |ptr n off h=>simp only[AV.dn];exact bq (.ptr n off h)
 |own n xs h hp hle hf=>simp only[AV.dn];exact bq (.own n xs h hp hle hf)
 |d h=>simp only[AV.dn];exact bq (.d h)
 |bt xs i off b o u x hx hS hu=>simp only[AV.dn];exact bq (.bt xs i off b o u x hx hS hu)
 |full xs hp hf=>simp only[AV.dn];exact bq (.full xs hp hf)
 |row n off len cap k h hl hm=>simp only[AV.dn];exact bq (.row n off len cap k h hl hm)
 |mp n h=>simp only[AV.dn];exact bq (.mp n h)
 |dp n h=>simp only[AV.dn];exact bq (.dp n h)
 |hid h h1=>simp only[AV.dn];exact bq (.hid h h1)
 |dead u=>simp only[AV.dn];exact .dead u
theorem dk.JF{G:Gh}{w:aiJ}{a:Act}{s:St}(hs:dk G w a s)(xs:aiE (aiE D)){b e k:Nat}(hb:s.h[b]?=some (.vec e k (aO xs)))(fz:∀c∈xs,c.all D.mY=true)
 :∃G',cp G.N G w G' w∧G'.N=G.N∧dk G' w a ⟨s.n,s.t.map fun p=>(p.1,p.2.dn b k xs),(s.h.map (an.ie (AV.dn b k xs))).set b .gone⟩:=by
 obtain⟨L,hL⟩:∃L,xs.length=L:=⟨_,rfl⟩;have iT:(aO xs).length=L:=by unfold aO;rw[ahU];exact hL
 have gC:=uS hs.inv hb;have iq:∀d∈xs,d.length=k:=fun d hd=>by
  have:=gC (d.map .d) (by unfold aO;exact List.mem_map.2 ⟨d,hd,rfl⟩)
  rwa [ahU]at this
 obtain⟨S,hS⟩:∃S:Nat→Nat→Prop,S=fun c o=>G.S c o∨(cA s.h G b=some c∧o<L*k):=⟨_,rfl⟩;have hE:cp G.N G w {G with S:=S} w:=⟨ah0 _,fun b o h=>by show S b o;rw[hS];exact .inl h,fun _ _ _=>rfl,fun _ _=>rfl,fun _ _=> .inl ⟨rfl,rfl⟩,gB rfl,fun _ _=>rfl,rfl,rfl,rfl,fun c o hq=>by
  have cY:S c o:=hq;rw[hS]at cY;rcases cY with h|⟨h,_⟩
  ·exact .inl h
  ·obtain⟨B,hB,gk⟩:=kQ h;exact .inr ((hs.inv.dz b B hB).lz gk)⟩
 have Dt:∀(u:aiI)(o len:Nat),aL G w u (.vec b o len xs.length k)→dG S w u (.sl ((xs.drop o).take len)):=fun u o len sr=>by
  rw[hL]at sr;have jQ:=sr.qd hs.inv hb iT;obtain⟨wy,⟨A,cc,q1,q2,q3,q4,q5⟩,_⟩:=jQ;generalize hy:(xs.drop o).take len=ys;have uL:ys.length=len:=by rw[←hy,List.length_take,List.length_drop];omega
  rw[q1,←uL];show dG S w _ _;by_cases hh0:True
  ·skip
   by_cases h0:len=0
   ·have:ys=[]:=List.eq_nil_of_length_eq_zero (by omega);subst this;exact .sl A 0 0 cc 0 [] (fun _ _=>undef) (fun h=>absurd rfl h) (Nat.zero_le _) q3 (fun _ h=>absurd h aiw) (fun i j hi=>absurd hi (aii _)) (fun i j x d hx=>by simp at hx)
   ·obtain⟨g,cap,s1,rfl,s3⟩:=q5 (by omega);obtain⟨g',Av,cur,r1,r2,r3,r4,r5,r6,r7,r8,r9⟩:=yH hs.inv hb (fun e=>by rw[e]at iT;simp at iT;omega);rw[r2]at s1;cases s1
    have lM:cA s.h G b=some g:=(dV hb).trans r1;have iC:∀i,i<len→ys[i]?=xs[o+i]?:=fun i dT=>by rw[←hy,List.getElem?_take_of_lt dT,List.getElem?_drop]
    have gb:∀i j,i<len→j<k→o*k+i*k+j<cur.size:=fun i j hi hj=>by
     have:=jx (i:=o+i) (k:=k) (L:=(aO xs).length) (j:=j) (by omega) hj;rw[Nat.add_mul]at this;have h2:(aO xs).length*k≤cap*k:=Nat.mul_le_mul_right k (by omega);rw[r7];omega
    have n8:∀(i j:Nat)(x:aiE D)(d:D),i<len→ys[i]?=some x→x[j]?=some d→aL G w (cur.getD (o*k+i*k+j) undef) (.d d):=fun i j x d hi hx hd=>by
     rw[iC i hi]at hx;have hj:j<k:=by rw[←iq x (ah2 hx)];exact(ahP.1 hd).1
     refine r9 (o+i) j (x.map .d) (.d d) _ (by unfold aO;rw[ahW,hx];rfl) (by rw[ahW,hd];rfl) ?_;have hc:=gb i j hi hj;rw[show(o+i)*k+j=o*k+i*k+j by rw[Nat.add_mul]];simp [Array.getD,hc]
    refine .sl _ g (o*k) cc k ys (fun i j=>cur.getD (o*k+i*k+j) undef) (fun _=>rfl) (by omega) q3 (fun x hx=> ?_) (fun i j hi hj=>⟨?_,?_,?_⟩) (fun i j x d hx hd=> ?_)
    ·rw[←hy]at hx;exact iq x (List.mem_of_mem_drop (List.mem_of_mem_take hx))
    ·rw[hS];refine .inr ⟨lM,?_⟩;have:=jx (i:=o+i) (k:=k) (L:=(aO xs).length) (j:=j) (by omega) hj;rw[Nat.add_mul]at this;exact this
    ·rw[cell_of_row w g _ cur e (0,0) r4];have hc:=gb i j (by omega) hj;simp [Array.getD,hc]
    ·have dT:i<len:=by omega
     obtain⟨x,hx⟩:∃x,ys[i]?=some x:=⟨_,ahT hi⟩;have zT:=hx;rw[iC i dT]at zT;have iy:=ah2 zT;obtain⟨d,hd⟩:∃d,x[j]?=some d:=⟨_,ahT (by rw[iq x iy];exact hj)⟩;refine(n8 i j x d dT hx hd).jm ?_;have h1:=fz x iy;rw[aif]at h1;have h2:=h1 d (ah2 hd);cases d with
     |v u=>exact h2
     |sl l=>rfl
    ·have dT:i<len:=by rw[←uL];exact(ahP.1 hx).1
     have:=n8 i j x d dT hx hd;generalize cur.getD (o*k+i*k+j) undef=q at this;cases this with|d h=>exact h.bq hE.S hE.cell
  ·exact(hh0 trivial).elim
 have hinv:=TA (b:=b) (f:=AV.dn b k xs) hs.inv hE (fun c o hq=>by rw[hS]at hq;exact hq.imp id And.left) (fun hq=>hq.dn hE rfl Dt);have cY:dk {G with S:=S} w a ⟨s.n,s.t.map fun p=>(p.1,p.2.dn b k xs),(s.h.map (an.ie (AV.dn b k xs))).set b .gone⟩:=by
  refine⟨hs.size,fun i=> ?_,hinv,hs.df⟩;show aL _ _ _ (bH (s.t.map fun p=>(p.1,p.2.dn b k xs)) i);rw[wJ (AV.dn b k xs) (by simp [AV.dn])];exact(hs.tmp i).dn hE rfl Dt
 exact⟨_,hE,rfl,cY⟩
end Go.Proofs.YtphmhnabilhbgaaGreatDoor
