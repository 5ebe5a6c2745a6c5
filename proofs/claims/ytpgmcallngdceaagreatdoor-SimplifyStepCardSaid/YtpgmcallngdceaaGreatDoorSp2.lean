/-
  Part 2 of the proof: AbsZero, AbsIter, AbsCode, AbsWalk, GrowF, AbsDraw, AbsFrame, AbsRun, AbsFrz, AbsInst.
-/
import Derived.Test.YtpgmcallngdceaaGreatDoorSp1
import Derived.Lib.AppendZeros
import Derived.Maps.RangeRun
namespace Go.Proofs.YtpgmcallngdceaaGreatDoor
open Go.RowKit Go.Lib
def AV.isNil:AV→Bool
 | .d (.v (.slice none 0 0))=>true
 |_=>false
theorem aaa{x:AV}(h:x.isNil=true):x= .d (.v (.slice none 0 0)):=by
 unfold AV.isNil at h;split at h
 ·rfl
 ·cases h
def Nc(P:ake)(op:Op)(ρ:Operand→AV)(h:akb aq):akd (AV×akb aq):=
 match op with
 | .slice T x lo hi none=>match dF P T,sR ρ 0 lo,sR ρ 0 hi with
   |some _,some 0,some 0=>bif (ρ x).isNil then some (.d (.v (.slice none 0 0)),h)else none
   |_,_,_=>none
 | .call c=>match c.callee with
   | .builtin .cap=>match c.args.toList,c.argTypes.toList with
     |[x],[T]=>bif (ρ x).isNil&&(dF P T).isSome then some (.d (.v (.int .i64 0)),h)else none
     |_,_=>none
   | .builtin .append=>match c.args.toList,c.argTypes.toList with
     |[x,y],[T,U]=>match dF P T,pL P U,ρ y with
      |some (e,k),some _, .d (.v (.int _ (.ofNat m)))=>match gD P e,qS P e with
       |some z,some ct=>bif (ρ x).isNil&&cf 1 m&&cf 1 k&&z.cells.toList.length==k&&cf m maxLen&&cf (m*ct) 140737488355328 then some (.vec h.length 0 m m k,h++[.vec e k (List.replicate m (z.cells.toList.map fun u=> .d (.v u)))])else none
       |_,_=>none
      |_,_,_=>none
     |_,_=>none
   |_=>none
 |_=>none
section
variable {P:ake} {r:akd Nat} {n N0:Nat} {G:Gh} {w:akg} {a:Act} {s:St} {o:Oper} {K:St→Prop} {Q:Exit→Act→akg→Prop}
theorem aht{x:Operand}{T:TypeId}(c:Call)(hc:c.callee= .builtin .cap)(h1:c.args.toList=[x])(h2:c.argTypes.toList=[T])(ho:o.op= .call c):
 (execOp a.eval o).run P w=((Builtin.cap_ #[T] o.type #[a.eval x]).run P w).andThen fun v w'=> .ok (.value v) w':=by
 have e1:c.args= #[x]:=by rw[←Array.toList_inj];exact h1
 have e2:c.argTypes= #[T]:=by rw[←Array.toList_inj];exact h2
 unfold execOp;simp only[ho,resolve,hc,e1,e2,invoke,builtin,Sem.run_bind,Sem.run_pure,Result.andThen_ok,List.map_toArray,ajM,List.map_nil]
theorem UR(hs:cx G w a s){x:akd Operand}(h:sR (ev s) 0 x=some 0):AT a x 0 0:=by
 cases x with
 |none=>rfl
 |some y=>exact Nu (d:=0) hs h (Int.le_refl _)
theorem afE{x:AV}{h':akb aq}(hs:cx G w a s)(cm:N0≤G.N)(hx:Nc P o.op (ev s) s.h=some (x,h'))(hK:K ((s.wh h').put o.dst x)):o.wpIn (WF r) n P a w (gV N0 G w K) Q:=by
 have cT:=hs.ev;have nil:∀{y:Operand},(ev s y).isNil=true→a.eval y= .slice none 0 0:=fun{y} h=>by
  have:=cT y;rw[aaa h]at this;exact this.val
 unfold Nc at hx;split at hx
 next T y lo hi ho=>
  split at hx
  ·next ek e1 e2 e3=>
   obtain⟨hb,he⟩:=kK hx;cases he
   obtain⟨dY,ew⟩:=im e1;refine eg (by rw[ho];simp) hs cm (v:= .slice none 0 0) ?_ (.d (.v _)) hK;have jM:=Fk (P:=P) (yG:=true) (UR hs e2) (UR hs e3) (ajy _) (ajy 0) w;unfold execOp;simp [ho,nil hb,Instr.sliceAt,Instr.slice,run_underlying dY,jM,kA ew]
  ·cases hx
 next c ho=>
  split at hx
  ·next hc=>
   split at hx
   ·next y T e1 e2=>
    obtain⟨hb,he⟩:=kK hx;cases he
    rw[ajp]at hb;cases hT:dF P T with
    |none=>rw[hT]at hb;cases hb.2
    |some ek=>
     obtain⟨dY,ew⟩:=im hT;refine eg (by rw[ho];simp) hs cm (v:= .int .i64 0) ?_ (.d (.v _)) hK;rw[aht c hc e1 e2 ho,nil hb.1];simp [Builtin.cap_,run_underlying dY,goInt]
   ·cases hx
  ·next hc=>
   split at hx
   ·next y z T U e1 e2=>
    split at hx
    ·next e k kn kq m f1 f2 f3=>
     split at hx
     ·next zz ct g1 g2=>
      obtain⟨hb,he⟩:=kK hx;cases he
      simp only[ajp,di,beq_iff_eq]at hb;obtain⟨⟨⟨⟨⟨iP,jM⟩,Ha⟩,oT⟩,MZ⟩,Ox⟩:=hb;clear hx;obtain⟨dY,ew⟩:=im f1;obtain⟨i,js,iq⟩:∃i,P.info? e=some i∧i.size=k:=by
       unfold eF at ew;cases hq:P.info? e with
       |none=>rw[hq]at ew;cases ew
       |some i=>rw[hq]at ew;exact⟨i,rfl,ajG ew⟩
      have hz:i.zero=some zz:=by unfold gD at g1;rw[js]at g1;exact g1
      have hbt:i.bytes=ct:=by unfold qS at g2;rw[js]at g2;exact ajG g2
      subst iq;subst hbt;have hy:=cT z;rw[f3]at hy;have ey:a.eval z= .int kq (m:Nat):=hy.val;have dc:=run_append_nil_zeros (P:=P) w T U o.type e i zz kq kn dY (JG f2) js hz m (by omega) (by omega) (by have:=MZ;simp [maxLen]at this;omega) (by omega);have gS:zz.cells.size=i.size:=by rw[←ajU];exact oT
      have fm:(List.replicate m (zz.cells.toList.map fun u=>AV.d (.v u))).length=m:=ajX;obtain⟨cap,iM⟩:∃cap,cap=grownCap w m 0 e:=⟨_,rfl⟩;have iS:m≤cap:=by rw[iM];exact grownCap_ge _ _ _ _
      have hle:cap≤maxLen:=by rw[iM];exact grownCap_le_maxLen _ _ _ _ MZ
      rw[←iM]at dc;obtain⟨cur,iQ⟩:∃cur,cur=Builtin.zeroCells zz.cells m++Builtin.zeroCells zz.cells (cap-m):=⟨_,rfl⟩;rw[←iQ]at dc;have fg:cur.size=cap*i.size:=by
        rw[iQ,Array.size_append,size_zeroCells,size_zeroCells,gS,←Nat.add_mul]
        congr 1
        omega
      obtain⟨G',q1,q2,q3,q4⟩:=Mx (e:=e) (k:=i.size) (cap:=cap) (cs:=List.replicate m (zz.cells.toList.map fun u=>AV.d (.v u))) (cur:=cur) hs.inv (by rw[fm];exact iS) hle fg (fun c hc=>by
       rw[List.eq_of_mem_replicate hc,ajs];exact oT) w.drew ⟨rfl,rfl,rfl,rfl⟩ (fun a' b c x u hc hx hu=>by
       have:=List.eq_of_mem_replicate (ajA hc);subst this;rw[aju]at hx;cases hq:zz.cells.toList[b]? with
       |none=>rw[hq]at hx;cases hx
       |some y=>
        rw[hq]at hx;cases hx
        have gx:b<i.size:=by rw[←oT];exact(ajn.1 hq).1
        have Nt:a'<m:=by have:=(ajn.1 hc).1;rwa [fm]at this
        have aX:a'*i.size+b<m*i.size:=k8 Nt gx;rw[iQ,Array.getElem?_append_left (by rw[size_zeroCells,gS];exact aX)]at hu;unfold Builtin.zeroCells at hu;rw[Array.getElem?_map,Array.getElem?_range,gS,if_pos aX]at hu;simp only[Option.map_some,Option.some.injEq]at hu;rw[(Gn (i:=a') gx).2]at hu;have qR:zz.cells[b]?=some y:=by rw[←ajK];exact hq
        rw[getElem!_pos zz.cells b (by rw[gS];exact gx)]at hu;rw[ajJ (by rw[gS];exact gx)]at qR;cases qR
        subst hu;exact .d (.v _))
      rw[fm]at q4;refine nu (by rw[ho];simp) hs cm (by rw[BI c hc e1 e2 ho,nil iP,ey,dc];rfl) q1 q2 q3 (q4 m (ajy _)) hK
     ·cases hx
    ·cases hx
   ·cases hx
  ·cases hx
 next=>cases hx
end
end Go.Proofs.YtpgmcallngdceaaGreatDoor
namespace Go.Proofs.YtpgmcallngdceaaGreatDoor
open Go.RowKit
section
variable {G:Gh} {w:akg} {h:akb aq}
theorem agO(hi:bV G w h):bP G.N G w G w.drew∧bV G w.drew h:=by
 have hE:bP G.N G w G w.drew:=⟨ajy _,fun _ _ h=>h,fun _ _ _=>rfl,fun _ _=>rfl,fun _ _=> .inl ⟨rfl,rfl⟩,fJ rfl,fun _ _=>rfl,rfl,rfl,rfl,fun _ _ h=> .inl h⟩;exact⟨hE,hi.len,hi.z,hi.S,fun n B hB=>dC.bn (hi.lt hB) hE (ajy _) ⟨rfl,rfl,rfl⟩ (fun _ _=>⟨rfl,fun _ h=>h⟩) (hi.cU n B hB),hi.inj,hi.gl.bn hE⟩
end
section
variable {P:ake} {r:akd Nat} {n N0:Nat} {G:Gh} {w:akg} {a:Act} {s:St} {o:Oper} {K:St→Prop} {Q:Exit→Act→akg→Prop}
end
def aGuard(ops:Array Oper)(o:Oper)(s:St)(yes no:Prop):Prop:=
 match o.guard with
 |none=>yes
 |some (j,want)=>match (ops[j]?).bind (·.dst)with
  |some d=>match bB s.t d with
   | .d (.v (.bool b))=>(b=want→yes)∧(b= !want→no)
   | .d (.v (.tuple _))=>no
   |_=>False
  |none=>False
structure bJ(P:Program)(r:Option Nat)(N0:Nat)(c:Code)(Q:Exit→St→Prop)(s:St):Prop where
 run:∀(G:Gh)(w:World)(a:Act)(n:Nat),cx G w a s→N0≤G.N→c.wpIn (WF r) n P (fun e a' w'=>gV N0 G w (Q e) a' w') a w
def gA(K:St→Prop)(Q:Exit→St→Prop):Exit→St→Prop
 | .normal,s=>K s
 |e,s=>Q e s
def jH:Nat→akb AV→akb (Nat×AV)
 |_,[]=>[]
 |k,x::l=>(k,x)::jH (k+1) l
theorem Mq:∀(l:akb AV)(k i:Nat),bB (jH k l) i=if k≤i then(l[i-k]?).getD .dead else .dead
 |[],k,i=>by simp [jH,bB]
 |x::l,k,i=>by
  rw[jH,lK,Mq l (k+1) i];by_cases h:i=k
  ·subst h;simp
  ·rw[if_neg h];by_cases h2:k≤i
   ·rw[if_pos (by omega),if_pos h2,show i-k=i-(k+1)+1 by omega,ajY]
   ·rw[if_neg (by omega),if_neg h2]
def YS(P:ake)(k:Nat)(x:AV)(h:akb aq)(C:Bool→akb aq→Prop):Prop:=
 ∀(G:Gh)(w:akg)(v:akf)(r:akd Nat)(n:Nat),bV G w h→aL G w v x→k<G.N∧∃(p:Nat)(as bd:Code)(fn:FuncId)(tm:Array akf)(D:Nat),
  w.heap[G.bm k]?=some (.loop {state:= .ready,pending:=none,fn:=fn,tmps:=tm,params:= #[p],assign:=as,body:=bd,defers:=D})∧
  RoundIn (WF r) n P (G.bm k) fn (tm.setIfInBounds p v) as bd w fun e w'=>∃(b:Bool)(G':Gh)(h':akb aq),e= .returned (.bool b)∧bP G.N G w G' w'∧G.N≤G'.N∧bV G' w' h'∧C b h'
def af8(C:Bool→akb aq→Prop)(k:Nat):Exit→St→Prop
 | .normal,s2=>∃p as bd iU,s2.h[k]?=some (.lp .busy p as bd iU)∧C true (s2.h.set k (.lp .ready p as bd iU))
 | .ret,s2=>∃p as bd iU,s2.h[k]?=some (.lp .busy p as bd iU)∧C false (s2.h.set k (.lp (.done .ret) p as bd iU))
 | .exit i,s2=>∃p as bd iU,s2.h[k]?=some (.lp .busy p as bd iU)∧C false (s2.h.set k (.lp (.done (.exit i)) p as bd iU))
 |_,_=>False
def H3(P:ake)(o:Oper)(K:St→Prop)(s:St):Prop:=
 match o.op with
 | .call c=>match c.callee with
   | .value f=>match ev s f,c.args.toList.map (ev s)with
     | .cE k,[x]=>YS P k x s.h fun b h'=>K ((s.wh h').put o.dst (.d (.v (.bool b))))
     |_,_=>False
   |_=>False
 |_=>False
def af7(P:ake)(o:Oper)(K:St→Prop)(s:St):Prop:=∃x h',Nc P o.op (ev s) s.h=some (x,h')∧K ((s.wh h').put o.dst x)
def pD(P:ake)(o:Oper)(K:St→Prop)(s:St):Prop:=JK P o K s∨Em P o K s∨n5 P o K s∨H3 P o K s∨af7 P o K s
def qf(P:ake)(ops:Array Oper):akb Oper→(St→Prop)→St→Prop
 |[],K,s=>K s
 |o::rest,K,s=>aGuard ops o s (pD P o (qf P ops rest K) s) (qf P ops rest K (s.put o.dst (.d (.v undef))))
def pc(id:Nat)(Q:Exit→St→Prop):Exit→St→Prop
 | .exit oy,s=>bif oy==id then Q .normal s else Q (.exit oy) s
 |e,s=>Q e s
section
variable {P:ake} {r:akd Nat} {n N0:Nat} {G:Gh} {w:akg} {a:Act} {s:St} {o:Oper} {Q:Exit→St→Prop}
theorem gV.mono{K K':St→Prop}(h:∀s,K s→K' s){a':Act}{w':akg}(hn:gV N0 G w K a' w'):gV N0 G w K' a' w':=
 let ⟨G',s',h1,h2,h3,h4⟩:=hn;⟨G',s',h1,h2,h3,h _ h4⟩
theorem gV.trans{K:St→Prop}{G1:Gh}{w1:akg}(hE:bP N0 G w G1 w1){a':Act}{w':akg}(hn:gV N0 G1 w1 K a' w'):gV N0 G w K a' w':=
 let ⟨G',s',h1,h2,h3,h4⟩:=hn;⟨G',s',hE.trans h1,h2,h3,h4⟩
theorem bJ.mono{c:Code}{Q':Exit→St→Prop}(h:bJ P r N0 c Q s)(hq:∀e s,Q e s→Q' e s):bJ P r N0 c Q' s:=
 ⟨fun G w a n hs hN=>wpIn_mono (h.run G w a n hs hN) fun e _ _ hn=>hn.mono (hq e)⟩
theorem MF{ops:Array Oper}{yes no:Prop}(hs:cx G w a s)(h:aGuard ops o s yes no):if Region.wanted o (yielded ops a.tmps)then yes else no:=by
 unfold aGuard at h;split at h
 ·rename_i hg
  rw[if_pos (by simp [Region.wanted,hg])];exact h
 ·rename_i j want hg
  split at h
  ·rename_i d hd
   have hv:=hs.tmp d;split at h
   ·rename_i b hb
    rw[hb]at hv;have e:=hv.bool;have hy:yielded ops a.tmps j=some b:=by
      unfold yielded;rw[hd,ajm];by_cases aX:d<a.tmps.size
      ·rw[ajJ aX];have:a.tmps.getD d undef=a.tmps[d]:=by simp [Array.getD,aX]
       rw[this]at e;rw[e]
      ·have:a.tmps.getD d undef=undef:=by simp [Array.getD,aX]
       rw[this]at e;cases e
    by_cases uR:b=want
    ·rw[if_pos (by simp [Region.wanted,hg,hy,uR])];exact h.1 uR
    ·rw[if_neg (by simp [Region.wanted,hg,hy,uR])];exact h.2 (by cases b<;>cases want<;>simp_all)
   ·rename_i vs hb
    rw[hb]at hv;have e:=hv.val;have hy:yielded ops a.tmps j=none:=by
      unfold yielded;rw[hd,ajm];by_cases aX:d<a.tmps.size
      ·rw[ajJ aX];have:a.tmps.getD d undef=a.tmps[d]:=by simp [Array.getD,aX]
       rw[this]at e;rw[e]
      ·rw[Array.getElem?_eq_none (Nat.le_of_not_lt aX)]
    rw[if_neg (by simp [Region.wanted,hg,hy])];exact h
   ·exact h.elim
  ·exact h.elim
theorem YS.mono{k:Nat}{x:AV}{h:akb aq}{C C':Bool→akb aq→Prop}(hy:YS P k x h C)(hc:∀b h',C b h'→C' b h'):YS P k x h C':=fun G w v r n hi hv=>
 let ⟨h0,p,as,bd,fn,tm,D,h1,h2⟩:=hy G w v r n hi hv
 ⟨h0,p,as,bd,fn,tm,D,h1,h2.mono fun _ _ ⟨b,G',h',a1,a2,a3,a4,a5⟩=>⟨b,G',h',a1,a2,a3,a4,hc _ _ a5⟩⟩
theorem afi{k:Nat}{x:AV}{h:akb aq}{C:Bool→akb aq→Prop}
 (hA:∃p as bd cs,h[k]?=some (.lp .ready p as bd cs)∧p<cs.length∧∀(l:Nat),bJ P (some l) h.length as (gA (fun s1=>∃p1 pQ rE vp,s1.h[k]?=some (.lp .ready p1 pQ rE vp)∧bJ P (some l) h.length bd (af8 C k) ⟨s1.n,s1.t,s1.h.set k (.lp .busy p1 pQ rE vp)⟩) (fun _ _=>False)) ⟨cs.length,(p,x)::jH 0 cs,h⟩):YS P k x h C:=by
 intro G w v r n hi J2;obtain⟨p,as,bd,cs,hk,hp,hA⟩:=hA;have zT:k<G.N:=hi.lt hk;obtain⟨hS,fn,tm,D,h3,h4,h5,ai7⟩:=Gi hi hk;refine⟨zT,p,as,bd,fn,tm,D,h3,?_⟩;refine roundIn_of_wpIn (F:=WF r) trivial ?_;have LR:cx G w {tmps:=tm.setIfInBounds p v,defers:=[]} ⟨cs.length,(p,x)::jH 0 cs,h⟩:=by
  refine⟨by simp [h4],fun i=> ?_,hi,pF.nil _ _⟩;show aL _ _ _ (bB ((p,x)::jH 0 cs) i);rw[lK];split
  ·next e=>
   subst e;have:(tm.setIfInBounds i v).getD i undef=v:=by simp [Array.getD,h4,hp]
   rw[this];exact J2
  ·next e=>
   rw[Mq];simp only[Nat.zero_le,if_true,Nat.sub_zero];cases iK:cs[i]? with
   |none=>exact .dead _
   |some y=>
    have aX:i<tm.size:=by rw[h4];exact(ajn.1 iK).1
    have:(tm.setIfInBounds p v).getD i undef=tm[i]:=by
     simp [Array.getD,aX,Ne.symm e]
    rw[this];exact h5 i _ y (ajJ aX) iK
 have Jz:=hA (G.bm k);rw[hi.len]at Jz;refine wpIn_mono (Jz.run G w _ n LR (ajy _)) fun e1 a1 w1 Fc=> ?_;obtain⟨G1,s1,iA,fb,dS,pg⟩:=Fc;cases e1 with
 |normal=>
  obtain⟨p1,pQ,rE,vp,sG,iP⟩:=pg;have sm:G1.bm k=G.bm k:=iA.bm k zT;obtain⟨_,fn1,tm1,D1,g3,g4,g5,SJ⟩:=Gi dS.inv sG;obtain⟨gE,gI⟩:=SJ .busy;rw[sm]at g3 gE gI;refine⟨_,run_beginRound g3 rfl,?_⟩;have yQ:cx G1 (w1.putObj (G.bm k) (.loop {state:= .busy,pending:=none,fn:=fn1,tmps:=tm1,params:= #[p1],assign:=pQ,body:=rE,defers:=D1})) a1 ⟨s1.n,s1.t,s1.h.set k (.lp .busy p1 pQ rE vp)⟩:=dS.move gE (ajy _) gI;refine wpIn_mono (iP.run G1 _ a1 n yQ fb) fun e3 a3 w3 hn3=> ?_;obtain⟨G3,s3,QD,Wk,hs3,mM⟩:=hn3;have fin:∀(jump:akd Code)(ls:LS)(b:Bool)(p:Nat)(as bd:Code)(iU:akb AV),s3.h[k]?=some (.lp .busy p as bd iU)→ls.pd=jump→ls.st=(if jump.isNone then .ready else .done)→jump.isNone=b→C b (s3.h.set k (.lp ls p as bd iU))→
   ∃v w',(Instr.endRound (G.bm k) jump).run P w3= .ok v w'∧∃(b:Bool)(G':Gh)(h':akb aq),(Ending.returned v:Ending)= .returned (.bool b)∧bP G.N G w G' w'∧G.N≤G'.N∧bV G' w' h'∧C b h':=fun jump ls b p as bd iU GY q1 q2 q3 hK=>by
   have hr3:G3.bm k=G.bm k:=(QD.bm k zT).trans sm;obtain⟨_,fn3,tm3,D3,z3,z4,z5,adb⟩:=Gi hs3.inv GY;obtain⟨zE,zI⟩:=adb ls;rw[hr3]at z3 zE zI;subst q1;have DO:=run_endRound (P:=P) ls.pd z3;rw[←q2]at DO;refine⟨_,_,DO,b,G3,_,by rw[q3],?_,Wk,zI,hK⟩;exact(iA.trans ((gE.less fb).trans QD)).trans (zE.less Wk)
  cases e3 with
  |normal=>obtain⟨p2,Cx,CP,iU,y1,y2⟩:=mM;exact fin none .ready true p2 Cx CP iU y1 rfl rfl rfl y2
  |ret=>obtain⟨p2,Cx,CP,iU,y1,y2⟩:=mM;exact fin (some .ret) (.done .ret) false p2 Cx CP iU y1 rfl rfl rfl y2
  |exit i=>obtain⟨p2,Cx,CP,iU,y1,y2⟩:=mM;exact fin (some (.exit i)) (.done (.exit i)) false p2 Cx CP iU y1 rfl rfl rfl y2
  |_=>exact mM.elim
 |_=>exact pg.elim
theorem Z1{K:St→Prop}{Q:Exit→Act→akg→Prop}(hs:cx G w a s)(hN:N0≤G.N)(h:H3 P o K s):o.wpIn (WF r) n P a w (gV N0 G w K) Q:=by
 unfold H3 at h;split at h
 ·next c ho=>
  split at h
  ·next f hc=>
   split at h
   ·next k x hf hx=>
    have hv:=hs.ev f;rw[hf]at hv;have ea:a.eval f= .func (.yield (G.bm k)) #[] #[]:=by
     generalize a.eval f=u at hv;cases hv;rfl
    obtain⟨p1,p2⟩:=Fe hs c.args;obtain⟨v,ve⟩:∃v,c.args.map a.eval= #[v]:=by
     have:(c.args.map a.eval).size=1:=by rw[p1,hx];rfl
     exact⟨(c.args.map a.eval)[0],Array.ext (by simp [this]) fun i h1 h2=>by
      have:i=0:=by simp at h2;exact h2
      subst this;rfl⟩
    have J2:aL G w v x:=p2 0 v x (by rw[ve];rfl) (by rw[hx];rfl);obtain⟨zT,p,as,bd,fn,tm,D,h3,hA⟩:=h G w v r (n-1) hs.inv J2;have jm:∀c',o.op≠ .defer c':=fun c' e=>by rw[ho]at e;cases e
    have hy:=run_yield (P:=P) (args:= #[v]) h3 rfl;have dc:(o.semAt (WF r).round a.eval).run P w= .ok (.round (G.bm k) fn (tm.setIfInBounds p v) as bd) w:=by
     rw[Oper.semAt_eq _ _ _ jm];unfold execOp;simp only[ho,resolve,hc,ea];simp [Deferred.ofValue,invoke,ve,hy]
    unfold Oper.wpIn;refine⟨fun g hg=>trivial,?_⟩;rw[dc,Oper.uponIn_round];refine⟨fun h=>(by simp [WF,Fence.wide]at h),hA.mono fun e w' hp=> ?_⟩;obtain⟨b,G',h',rfl,hE,jS,dg,hK⟩:=hp;exact⟨G',_,hE.less hN,ajF hN jS,(hs.move hE jS dg).put (.d (.v _)) o.dst,hK⟩
   ·exact h.elim
  ·exact h.elim
 ·exact h.elim
theorem XU{K:St→Prop}{Q:Exit→Act→akg→Prop}(hs:cx G w a s)(hN:N0≤G.N)(h:pD P o K s):o.wpIn (WF r) n P a w (gV N0 G w K) Q:=by
 rcases h with h|h|h|h|⟨x,h',h,hK⟩
 ·exact On hs hN (.inl h)
 ·exact On hs hN (.inr (.inl h))
 ·exact On hs hN (.inr (.inr h))
 ·exact Z1 hs hN h
 ·exact afE hs hN h hK
theorem MU{ops:Array Oper}{K:St→Prop}{Q':Exit→Act→akg→Prop}(hQ:∀a' w',gV N0 G w K a' w'→Q' .normal a' w'):∀(l:akb Oper)(k:Nat),(∀j,l[j]?=ops[k+j]?)→∀(G1:Gh)(w1:akg)(a:Act)(s:St),
 bP N0 G w G1 w1→N0≤G1.N→cx G1 w1 a s→qf P ops l K s→wpOpsIn (WF r) n P ops Q' (List.range' k l.length) a w1
 |[],k,_,G1,w1,a,s,hE,hN,hs,h=>hQ _ _ ⟨G1,s,hE,hN,hs,h⟩
 |o::l,k,hl,G1,w1,a,s,hE,hN,hs,h=>by
  have h0:ops[k]?=some o:=by simpa using (hl 0).symm
  have zC:∀j,l[j]?=ops[k+1+j]?:=fun j=>by have:=hl (j+1);simpa [Nat.add_assoc,Nat.add_comm 1 j]using this
  have hg:=MF hs h;simp only[ajq,List.range'_succ,wpOpsIn,h0];split
  ·rename_i hw
   rw[if_pos hw]at hg;exact Oper.wpIn_mono (fun a' w' hn=>by
     obtain⟨G2,s2,e2,n2,wD,k2⟩:=hn;exact MU hQ l (k+1) zC G2 w' a' s2 (hE.trans e2) n2 wD k2) (XU hs hN hg)
  ·rename_i hw
   rw[if_neg hw]at hg;exact⟨fun _ _=>trivial,MU hQ l (k+1) zC G1 w1 _ _ hE hN (hs.put (.d (.v undef)) o.dst) hg⟩
theorem eW{id:Nat}{ops:Array Oper}(h:qf P ops ops.toList (Q .normal) s):bJ P r N0 (.region id ops false) Q s:=by
 constructor
 intro G w a n hs hN;refine wpIn_region ?_;rw[List.range_eq_range',←ajU];exact MU (G:=G) (w:=w) (K:=Q .normal) (fun _ _ h=>h) ops.toList 0 (by simp) G w a s (bP.refl _ _ _) hN hs h
theorem fG(h:Q .normal s):bJ P r N0 .skip Q s:=⟨fun G _ _ _ hs hN=>wpIn_skip ⟨G,s,bP.refl _ _ _,hN,hs,h⟩⟩
theorem dV(h:Q .ret s):bJ P r N0 .ret Q s:=⟨fun G _ _ _ hs hN=>wpIn_ret ⟨G,s,bP.refl _ _ _,hN,hs,h⟩⟩
theorem pk{id:Nat}(h:Q (.exit id) s):bJ P r N0 (.exit id) Q s:=⟨fun G _ _ _ hs hN=>wpIn_exit ⟨G,s,bP.refl _ _ _,hN,hs,h⟩⟩
theorem bG{x y:Code}(h:bJ P r N0 x (gA (fun s'=>bJ P r N0 y Q s') Q) s):bJ P r N0 (.seq x y) Q s:=by
 constructor
 intro G w a n hs hN;refine wpIn_seq (wpIn_mono (h.run G w a n hs hN) fun e a1 w1 hn=> ?_);obtain⟨G1,s1,hE,fb,dS,hq⟩:=hn;cases e with
 |normal=>exact wpIn_mono (hq.run G1 w1 a1 n dS fb) fun _ _ _ hn=>hn.trans hE
 |_=>exact⟨G1,s1,hE,fb,dS,hq⟩
theorem Mr{c:Operand}{x y:Code}{t:Bool}(hc:ev s c= .d (.v (.bool t)))(h1:t=true→bJ P r N0 x Q s)(h2:t=false→bJ P r N0 y Q s):bJ P r N0 (.cond c x y) Q s:=by
 constructor
 intro G w a n hs hN;have hb:=hs.ev c;rw[hc]at hb;exact wpIn_cond_split hb.bool (fun e=>(h1 e).run G w a n hs hN) (fun e=>(h2 e).run G w a n hs hN)
theorem gv{id:Nat}{c:Code}(h:bJ P r N0 c (pc id Q) s):bJ P r N0 (.block id c) Q s:=by
 constructor
 intro G w a n hs hN;refine wpIn_block (wpIn_mono (h.run G w a n hs hN) fun e a1 w1 hn=> ?_);obtain⟨G1,s1,hE,fb,dS,hq⟩:=hn;cases e with
 |exit oy=>
  by_cases he:oy=id
  ·simp only[pc,he,BEq.rfl,cond_true]at hq;simp only[Exit.inBlock,if_pos he];exact⟨G1,s1,hE,fb,dS,hq⟩
  ·have hbe:(oy==id)=false:=by simpa using he
   simp only[pc,hbe,cond_false]at hq;simp only[Exit.inBlock,if_neg he];exact⟨G1,s1,hE,fb,dS,hq⟩
 |_=>exact⟨G1,s1,hE,fb,dS,hq⟩
theorem OI{F:Fence}{c:Code}{Q:Exit→Act→akg→Prop}{ι:Type}(I:ι→Act→akg→Prop)(μ:ι→Nat)(i0:ι)(h₀:I i0 a w)
 (round:∀i a w,I i a w→c.wpIn F n P (Exit.then (fun a' w'=>∃i',I i' a' w'∧μ i'<μ i) Q) a w):(Code.loop c).wpIn F n P Q a w:=by
 intro b k cs xG hb hr;have key:∀j i a w,μ i=j→I i a w→
  ∃e a' w',Q e a' w'∧ArrivesIn (Machine.fenced P F) P (lone (b.atR a (.code c:: .inLoop c::k)) cs w) b k cs e a' w':=by
  intro j
  induction j using Nat.strongRecOn with
  |_ j ih=>
   intro i a w hn hI;obtain⟨e,a₁,w₁,hq,sF⟩:=round i a w hI b (.inLoop c::k) cs xG hb hr;cases e with
   |normal=>
    obtain⟨i',hI₁,aX⟩:=hq;obtain⟨e₂,a₂,w₂,hq₂,ai0⟩:=ih (μ i') (hn▸aX) i' a₁ w₁ rfl hI₁;exact⟨e₂,a₂,w₂,hq₂, .of_steps (StepsIn.trans sF (.one (fenced_calm hb hr rfl) stepR_inLoop)) ai0⟩
   |exit id=>exact⟨_,a₁,w₁,hq, .pass (x:= .inLoop c) rfl (fun _ _=> .inl (by simp)) sF⟩
   |goto l=>exact⟨_,a₁,w₁,hq, .pass (x:= .inLoop c) rfl (fun _ _=> .inl (by simp)) sF⟩
   |ret=>exact⟨_,a₁,w₁,hq, .pass (x:= .inLoop c) rfl (fun _ _=> .inl (by simp)) sF⟩
   |panic ch=>exact⟨_,a₁,w₁,hq, .pass (x:= .inLoop c) rfl (fun _ _=> .inl (by simp)) sF⟩
   |outgrown=>exact⟨_,a₁,w₁,hq, .pass (x:= .inLoop c) rfl (fun _ _=> .inl (by simp)) sF⟩
 obtain⟨e,a',w',hq,sF⟩:=key _ i0 a w rfl h₀;exact⟨e,a',w',hq, .of_steps (.one (fenced_calm hb hr rfl) stepR_loop) sF⟩
end
mutual
def AV.bA(m:Nat):AV→AV
 | .own n xs=>bif cf m n then .d (.sl xs)else .own n xs
 | .agg cs=> .agg (AV.nC m cs)
 | .bk cs=> .bk (AV.nC m cs)
 | .fn f cs=> .fn f (AV.nC m cs)
 |x=>x
def AV.nC(m:Nat):akb AV→akb AV
 |[]=>[]
 |x::l=>x.bA m::AV.nC m l
end
mutual
def AV.aT(m:Nat):AV→Bool
 | .own n _| .ptr n _| .row n _ _ _ _| .mp n| .cE n| .vec n _ _ _ _| .cN n _ _ _ _=> !cf m n
 | .agg cs=>AV.lV m cs
 | .bk cs=>AV.lV m cs
 | .fn _ cs=>AV.lV m cs
 |_=>true
def AV.lV(m:Nat):akb AV→Bool
 |[]=>true
 |x::l=>x.aT m&&AV.lV m l
end
theorem EL(m:Nat):∀l,AV.nC m l=l.map (AV.bA m)
 |[]=>by simp [AV.nC]
 |x::l=>by simp [AV.nC,EL m l]
theorem lH(m:Nat):∀l,AV.lV m l=l.all (AV.aT m)
 |[]=>by simp [AV.lV]
 |x::l=>by simp [AV.lV,lH m l]
def aq.bA(m:Nat):aq→aq
 | .cells cs=> .cells (cs.map (AV.bA m))
 | .lp ls p as bd cs=> .lp ls p as bd (cs.map (AV.bA m))
 | .it sn cs=> .it sn (cs.map (AV.bA m))
 | .vec e k cs=> .vec e k (cs.map (·.map (AV.bA m)))
 |B=>B
def aq.aT(m:Nat):aq→Bool
 | .cells cs=>cs.all (AV.aT m)
 | .lp _ _ _ _ cs=>cs.all (AV.aT m)
 | .it _ cs=>cs.all (AV.aT m)
 | .vec _ _ cs=>cs.all (·.all (AV.aT m))
 |_=>true
theorem aL.bA{G:Gh}{w:akg}(m:Nat){u:akf}{x:AV}(h:aL G w u x):aL G w u (x.bA m):=by
 have eZ:∀(vs:Array akf)(cs:akb AV),(∀(i:Nat)(u:akf)(c:AV),vs[i]?=some u→cs[i]?=some c→aL G w u (c.bA m))→∀(i:Nat)(u:akf)(c:AV),vs[i]?=some u→(AV.nC m cs)[i]?=some c→aL G w u c:=by
  intro vs cs ih i u c hu hc;rw[EL,aju]at hc;cases hx:cs[i]? with
  |none=>rw[hx]at hc;cases hc
  |some x=>rw[hx]at hc;cases hc;exact ih i u x hu hx
 induction h with
 |agg vs cs hl _ ih=>rw[AV.bA];exact .agg vs _ (by rw[EL,ajs];exact hl) (eZ vs cs ih)
 |bk vs cs hl _ ih=>rw[AV.bA];exact .bk vs _ (by rw[EL,ajs];exact hl) (eZ vs cs ih)
 |fn f vs cs hl _ ih=>rw[AV.bA];exact .fn f vs _ (by rw[EL,ajs];exact hl) (eZ vs cs ih)
 |own n xs h hp hle hf=>
  rw[AV.bA,cond_eq_ite];split
  ·exact .d hp
  ·exact .own n xs h hp hle hf
 |d h=>simp only[AV.bA];exact .d h
 |ptr n off h=>simp only[AV.bA];exact .ptr n off h
 |bD xs i off b o u x hx hS hu=>simp only[AV.bA];exact .bD xs i off b o u x hx hS hu
 |full xs hp hf=>simp only[AV.bA];exact .full xs hp hf
 |row n off len cap k h hl hm=>simp only[AV.bA];exact .row n off len cap k h hl hm
 |mp n h=>simp only[AV.bA];exact .mp n h
 |cE n h=>simp only[AV.bA];exact .cE n h
 |vec n o len L k h hs hL hf=>simp only[AV.bA];exact .vec n o len L k h hs hL hf
 |cN n i j L k h hs hL hf=>simp only[AV.bA];exact .cN n i j L k h hs hL hf
 |hid h h1=>simp only[AV.bA];exact .hid h h1
 |dead u=>simp only[AV.bA];exact .dead u
def Gh.cut(G:Gh)(m:Nat):Gh:={G with N:=m}
theorem aL.cut{G:Gh}{w:akg}{m:Nat}{u:akf}{x:AV}(h:aL G w u x)(hb:x.aT m=true):aL (G.cut m) w u x:=by
 induction h with
 |agg vs cs hl _ ih=>
  rw[AV.aT,lH,ajN]at hb;exact .agg vs cs hl fun i u c hu hc=>ih i u c hu hc (hb c (ajA hc))
 |bk vs cs hl _ ih=>
  rw[AV.aT,lH,ajN]at hb;exact .bk vs cs hl fun i u c hu hc=>ih i u c hu hc (hb c (ajA hc))
 |fn f vs cs hl _ ih=>
  rw[AV.aT,lH,ajN]at hb;exact .fn f vs cs hl fun i u c hu hc=>ih i u c hu hc (hb c (ajA hc))
 |own n xs h hp hle hf=>rw[AV.aT]at hb;exact .own n xs (show n<m by rw[Bool.not_eq_true',←Bool.not_eq_true,di]at hb;omega) hp hle hf
 |ptr n off h=>rw[AV.aT]at hb;exact .ptr (G:=G.cut m) n off (show n<m by rw[Bool.not_eq_true',←Bool.not_eq_true,di]at hb;omega)
 |row n off len cap k h hl hm=>rw[AV.aT]at hb;exact .row (G:=G.cut m) n off len cap k (show n<m by rw[Bool.not_eq_true',←Bool.not_eq_true,di]at hb;omega) hl hm
 |mp n h=>rw[AV.aT]at hb;exact .mp (G:=G.cut m) n (show n<m by rw[Bool.not_eq_true',←Bool.not_eq_true,di]at hb;omega)
 |cE n h=>rw[AV.aT]at hb;exact .cE (G:=G.cut m) n (show n<m by rw[Bool.not_eq_true',←Bool.not_eq_true,di]at hb;omega)
 |vec n o len L k h hs hL hf=>rw[AV.aT]at hb;exact .vec (G:=G.cut m) n o len L k (show n<m by rw[Bool.not_eq_true',←Bool.not_eq_true,di]at hb;omega) hs hL hf
 |cN n i j L k h hs hL hf=>rw[AV.aT]at hb;exact .cN (G:=G.cut m) n i j L k (show n<m by rw[Bool.not_eq_true',←Bool.not_eq_true,di]at hb;omega) hs hL hf
 |hid h h1=>exact .hid (G:=G.cut m) h h1
 |d h=>exact .d h
 |bD xs i off b o u x hx hS hu=>exact .bD xs i off b o u x hx hS hu
 |full xs hp hf=>exact .full xs hp hf
 |dead u=>exact .dead u
def St.mask(s:St)(live:akb Nat)(m:Nat):St:={s with t:=live.map fun k=>(k,(bB s.t k).bA m),h:=(s.h.take m).map (aq.bA m)}
def St.zp(s:St)(live:akb Nat)(m:Nat):Prop:=m≤s.h.length∧(live.all fun k=>((bB s.t k).bA m).aT m)=true∧(((s.h.take m).map (aq.bA m)).all (aq.aT m))=true
theorem pz(f:Nat→AV):∀(live:akb Nat)(i:Nat),bB (live.map fun k=>(k,f k)) i=if i∈live then f i else .dead
 |[],i=>by simp [bB]
 |k::l,i=>by
  simp only[ajM,lK,pz f l i,ajR];by_cases h:i=k
  ·subst h;simp
  ·simp [h]
theorem Oc{G:Gh}{w:akg}{h:akb aq}(hi:bV G w h){m:Nat}(hm:m≤h.length)(hb:(((h.take m).map (aq.bA m)).all (aq.aT m))=true):bV (G.cut m) w ((h.take m).map (aq.bA m)):=by
 have dT:∀(n:Nat)(B:aq),((h.take m).map (aq.bA m))[n]?=some B→n<m∧∃B',h[n]?=some B'∧B=B'.bA m∧(B'.bA m).aT m=true:=fun n B hB=>by
  have wV:=ajN.1 hb B (ajA hB);rw[aju,List.getElem?_take]at hB;split at hB
  ·rename_i hn
   cases hx:h[n]? with
   |none=>rw[hx]at hB;cases hB
   |some B'=>rw[hx]at hB;cases hB;exact⟨hn,B',rfl,rfl,wV⟩
  ·cases hB
 have dE:∀n b,b6 ((h.take m).map (aq.bA m)) (G.cut m) n=some b→b6 h G n=some b:=fun n b hb=>by
  obtain⟨B,hB,hb⟩:=mr hb;obtain⟨_,B',h1,rfl,_⟩:=dT n B hB;rw[dm h1,←hb];cases B'<;>rfl
 refine⟨by simp [Gh.cut];omega,hi.z,hi.S,fun n B hB=> ?_,fun i j b h1 h2=>hi.inj i j b (dE i b h1) (dE j b h2),hi.gl⟩;obtain⟨hn,B',h1,rfl,wV⟩:=dT n B hB;have dA:=hi.cU n B' h1;cases B' with
 |gone=>trivial
 |front e k len=>exact dA
 |map kv=>exact dA
 |vec e k cs=>
  obtain⟨c1,c2,c3,c4⟩:=dA;refine⟨by rw[ajs];exact c1,by rw[ajs];exact c2,fun c hc=> ?_,?_⟩
  ·obtain⟨x,hx,rfl⟩:=List.mem_map.1 hc;rw[ajs];exact c3 x hx
  ·rcases c4 with⟨d1,d2,A,d3⟩|⟨g,cap,cur,d1,d2,d3,d4,d5,d6,d7,d8,d9⟩
   ·exact .inl ⟨d1,by rw[d2];rfl,A,d3⟩
   ·refine .inr ⟨g,cap,cur,d1,by rw[ajs];exact d2,d3,d4,by rw[ajs];exact d5,d6,d7,d8,fun i j c x u hc hx hu=> ?_⟩;simp only[aq.bA,aq.aT,ajN]at wV;rw[aju]at hc;cases hy:cs[i]? with
    |none=>rw[hy]at hc;cases hc
    |some y=>
     rw[hy]at hc;cases hc
     have hz:=hx;rw[aju]at hx;cases hw:y[j]? with
     |none=>rw[hw]at hx;cases hx
     |some z=>
      rw[hw]at hx;cases hx
      exact((d9 i j y z u hy hw hu).bA m).cut (wV _ (List.mem_map.2 ⟨y,ajA hy,rfl⟩) _ (ajA hz))
 |cells cs=>
  obtain⟨c1,c2,vs,T,c3,c4,c5⟩:=dA;refine⟨c1,c2,vs,T,c3,by rw[ajs];exact c4,fun i u c hu hc=> ?_⟩;have mi:=ajA hc;rw[aju]at hc;cases hx:cs[i]? with
  |none=>rw[hx]at hc;cases hc
  |some x=>
   rw[hx]at hc;cases hc
   exact((c5 i u x hu hx).bA m).cut (ajN.1 wV _ mi)
 |lp ls p as bd cs=>
  obtain⟨c1,c2,fn,vs,T,c3,c4,c5⟩:=dA;refine⟨c1,c2,fn,vs,T,c3,by rw[ajs];exact c4,fun i u c hu hc=> ?_⟩;have mi:=ajA hc;rw[aju]at hc;cases hx:cs[i]? with
  |none=>rw[hx]at hc;cases hc
  |some x=>
   rw[hx]at hc;cases hc
   exact((c5 i u x hu hx).bA m).cut (ajN.1 wV _ mi)
 |it sn cs=>
  obtain⟨c1,c2,fn,vs,T,c3,c4,c5⟩:=dA;refine⟨c1,c2,fn,vs,T,c3,by rw[ajs];exact c4,fun i u c hu hc=> ?_⟩;have mi:=ajA hc;rw[aju]at hc;cases hx:cs[i]? with
  |none=>rw[hx]at hc;cases hc
  |some x=>
   rw[hx]at hc;cases hc
   exact((c5 i u x hu hx).bA m).cut (ajN.1 wV _ mi)
theorem ni(N:Nat)(G:Gh)(w:akg)(m:Nat):bP N G w (G.cut m) w:=
 ⟨ajy _,fun _ _ h=>h,fun _ _ _=>rfl,fun _ _=>rfl,fun _ _=> .inl ⟨rfl,rfl⟩,fJ rfl,fun _ _=>rfl,rfl,rfl,rfl,fun _ _ h=> .inl h⟩
section
variable {P:ake} {r:akd Nat} {n N0:Nat} {G:Gh} {w:akg} {a:Act} {s:St} {o:Oper} {Q:Exit→St→Prop}
theorem cx.mask(hs:cx G w a s){live:akb Nat}{m:Nat}(h:s.zp live m):cx (G.cut m) w a (s.mask live m):=by
 obtain⟨h1,h2,h3⟩:=h;refine⟨hs.size,fun i=> ?_,Oc hs.inv h1 h3,hs.df⟩;show aL _ _ _ (bB (live.map fun k=>(k,(bB s.t k).bA m)) i);rw[pz (fun k=>(bB s.t k).bA m)];split
 ·rename_i hi
  exact((hs.tmp i).bA m).cut (ajN.1 h2 i hi)
 ·exact .dead _
theorem OT{c:Code}{ι:Type}(live:akb Nat)(m:Nat)(st:ι→St)(I:ι→Prop)(μ:ι→Nat)(i0:ι)(hm:N0≤m)(bY:s.zp live m)(h0:s.mask live m=st i0)(hI:I i0)
 (round:∀i,I i→bJ P r N0 c (gA (fun s'=>s'.zp live m∧∃i',s'.mask live m=st i'∧I i'∧μ i'<μ i) Q) (st i)):bJ P r N0 (.loop c) Q s:=by
 constructor
 intro G w a n hs _;refine OI (fun(i:ι) a' w'=>∃G',I i∧bP N0 G w G' w'∧N0≤G'.N∧cx G' w' a' (st i)) μ i0 ⟨G.cut m,hI,ni _ _ _ _,hm,h0▸hs.mask bY⟩ ?_;rintro i a' w' ⟨G',hi,hE,hN,cp⟩;refine wpIn_mono ((round i hi).run G' w' a' n cp hN) fun e a1 w1 hn=> ?_;obtain⟨G1,s1,iA,fb,dS,hq⟩:=hn;cases e with
 |normal=>
  obtain⟨ahC,i',h1,h2,h3⟩:=hq;exact⟨i',⟨G1.cut m,h2,(hE.trans iA).trans (ni _ _ _ _),hm,h1▸dS.mask ahC⟩,h3⟩
 |_=>exact⟨G1,s1,hE.trans iA,fb,dS,hq⟩
def kO(P:ake)(s:St):akb ResultVar→(akb AV→Prop)→Prop
 |[],C=>C []
 | .tmp t::l,C=>kO P s l fun xs=>C (bB s.t t::xs)
 | .cell p t::l,C=>mm P t s.h (bB s.t p) fun x=>kO P s l fun xs=>C (x::xs)
def iu:akb AV→AV
 |[x]=>x
 |l=> .bk l
def ou(P:ake)(fn:Func)(m:Nat)(K:AV→akb aq→Prop)(s:St):Prop:=
 kO P s fn.results.toList fun l=>m≤s.h.length∧((iu l).bA m).aT m=true∧(((s.h.take m).map (aq.bA m)).all (aq.aT m))=true∧K ((iu l).bA m) ((s.h.take m).map (aq.bA m))
def Jv(P:ake)(fn:Func)(m:Nat)(K:AV→akb aq→Prop):Exit→St→Prop
 | .normal,s=>ou P fn m K s
 | .ret,s=>ou P fn m K s
 |_,_=>False
theorem Zw{C:akb AV→Prop}(hs:cx G w a s)(g:ResultVar→Sem akf)(hg1:∀t,g (.tmp t)=pure (a.tmps.getD t undef))(ES:∀p t,g (.cell p t)=(do loadVar t (←asAddr (a.tmps.getD p undef)))):
 ∀(l:akb ResultVar),kO P s l C→∃(vs:akb akf)(xs:akb AV),(l.mapM g).run P w= .ok vs w∧vs.length=xs.length∧(∀(i:Nat)(u:akf)(c:AV),vs[i]?=some u→xs[i]?=some c→aL G w u c)∧C xs:=by
 intro l
 induction l generalizing C with
 |nil=>exact fun h=>⟨[],[],by simp,rfl,fun i u c hu=>by simp at hu,h⟩
 |cons x l ih=>
  intro h;cases x with
  |tmp t=>
   obtain⟨vs,xs,h1,h2,h3,h4⟩:=ih h;refine⟨a.tmps.getD t undef::vs,bB s.t t::xs,by simp only[List.mapM_cons,hg1,Sem.run_bind,Sem.run_pure,Result.andThen_ok,h1],by simp [h2],fun i u c hu hc=> ?_,h4⟩
   match i with
   |0=>simp only[List.getElem?_cons_zero,Option.some.injEq]at hu hc;subst hu;subst hc;exact hs.tmp t
   |i+1=>exact h3 i u c (by simpa using hu) (by simpa using hc)
  |cell p t=>
   obtain⟨u0,x0,r1,r2,r3⟩:=Rb (P:=P) hs.inv (hs.tmp p) h;obtain⟨vs,xs,h1,h2,h3,h4⟩:=ih r3;have hv:=hs.tmp p;have e:∃ad,a.tmps.getD p undef= .pointer (some ad):=by
    have h':mm P t s.h (bB s.t p) fun x=>kO P s l fun xs=>C (x::xs):=h;generalize a.tmps.getD p undef=v at hv r1;generalize bB s.t p=y at hv h';cases hv with
    |ptr=>exact⟨_,rfl⟩
    |bD=>exact⟨_,rfl⟩
    |_=>exact(show False from h').elim
   obtain⟨ad,e⟩:=e;rw[e]at r1;have Yk:(loadVar t ad).run P w= .ok u0 w:=by simpa [Instr.loadAt,Instr.sureAddr]using r1
   have ha:(asAddr (a.tmps.getD p undef)).run P w= .ok ad w:=by rw[e];rfl
   refine⟨u0::vs,x0::xs,by simp only[List.mapM_cons,ES,Sem.run_bind,Sem.run_pure,Result.andThen_ok,h1,ha,Yk],by simp [h2],fun i u c hu hc=> ?_,h4⟩
   match i with
   |0=>simp only[List.getElem?_cons_zero,Option.some.injEq]at hu hc;subst hu;subst hc;exact r2
   |i+1=>exact h3 i u c (by simpa using hu) (by simpa using hc)
theorem ZJ:∀(vs:akb akf)(xs:akb AV),vs.length=xs.length→(∀(i:Nat)(u:akf)(c:AV),vs[i]?=some u→xs[i]?=some c→aL G w u c)→aL G w (if h:vs.toArray.size=1 then vs.toArray[0]else .tuple vs.toArray) (iu xs)
 |[v],[x],_,h=>h 0 v x rfl rfl
 |[],[],_,_=> .bk _ _ rfl fun i u c hu=>by simp at hu
 |v::u::vs,x::y::xs,hl,h=>by
  have:¬(v::u::vs).toArray.size=1:=by simp
  rw[dif_neg this];exact .bk _ _ (by simpa using hl) fun i p q hp hq=>h i p q (by simpa using hp) hq
 |[],_::_,hl,_=>by simp at hl
 |_::_,[],hl,_=>by simp at hl
 |[_],_::_::_,hl,_=>by simp at hl
 |_::_::_,[_],hl,_=>by simp at hl
theorem acL{fn:Func}{m:Nat}{K:AV→akb aq→Prop}(hs:cx G w a s)(h:ou P fn m K s):∃v G' r h',(results fn a.tmps).run P w= .ok v w∧bP N0 G w G' w∧m≤G'.N∧bV G' w h'∧aL G' w v r∧K r h':=by
 obtain⟨g,hg⟩:∃g:ResultVar→Sem akf,results fn a.tmps=(do let vs ←fn.results.mapM g;pure (if h:vs.size=1 then vs[0]else .tuple vs))∧(∀t,g (.tmp t)=pure (a.tmps.getD t undef))∧(∀p t,g (.cell p t)=(do loadVar t (←asAddr (a.tmps.getD p undef)))):=
  ⟨_,rfl,fun _=>rfl,fun _ _=>rfl⟩
 obtain⟨vs,xs,h1,h2,h3,h4,h5,h6,h7⟩:=Zw hs g hg.2.1 hg.2.2 fn.results.toList h;have hr:(results fn a.tmps).run P w= .ok (if h:vs.toArray.size=1 then vs.toArray[0]else .tuple vs.toArray) w:=by
  rw[hg.1,Sem.run_bind,Array.mapM_eq_mapM_toList];have e:∀X:Sem (akb akf),(Functor.map List.toArray X:Sem _)=X>>=fun l=>pure l.toArray:=fun _=>rfl;rw[e,Sem.run_bind,h1];rfl
 have hv:=ZJ vs xs h2 h3;exact⟨_,G.cut m,_,_,hr,ni _ _ _ _,ajy _,Oc hs.inv h4 h6,(hv.bA m).cut h5,h7⟩
theorem zn{f:FuncId}{fn:Func}{c:Code}{args:akb AV}{h:akb aq}{K:AV→akb aq→Prop}(m:Nat)(hf:P.funcs[f]?=some fn)(hb:fn.body=some c)(hn:(fn.name== "runtime.NumGoroutine")=false)(hm:h.length≤m)
 (hw:bJ P none h.length c (Jv P fn m K) {n:=args.length+(fn.ntmps-args.length),t:=jH 0 args,h:=h}):bO P f args h K:=by
 refine⟨by unfold Ji;rw[hf];simp [hb];simpa using hn,fun G w vs hi hl hr=> ?_⟩;refine callsIn_wide (n:=8).1 (callsIn_of_wp_marks (F:=Fence.wide) hf hb trivial ?_);have hs:cx {G with M:=w.heap.size} w {tmps:=vs++Array.replicate (fn.ntmps-vs.size) undef,defers:=[]} {n:=args.length+(fn.ntmps-args.length),t:=jH 0 args,h:=h}:=by
  refine⟨by simp [hl],fun i=> ?_,hi.zm G.Z _ (fun _ h=>h) (ajy _),pF.nil _ _⟩;show aL _ _ _ (bB (jH 0 args) i);rw[Mq];simp only[Nat.zero_le,if_true,Nat.sub_zero];cases hx:args[i]? with
  |none=>exact .dead _
  |some x=>
   have aX:i<vs.size:=by rw[hl];exact(ajn.1 hx).1
   have:(vs++Array.replicate (fn.ntmps-vs.size) undef).getD i undef=vs[i]:=by
    simp [Array.getElem?_append_left aX,ajJ aX]
   simp only[this,Option.getD_some];exact(hr i _ x (ajJ aX) hx).zm G.Z _
 refine wpIn_mono (hw.run _ w _ 8 hs (by rw[hi.len];exact ajy _)) fun e a' w' hn=> ?_;obtain⟨G1,s1,hE,fb,dS,hq⟩:=hn;have key:ou P fn m K s1→LeavesInM Fence.wide 8 P fn a'.tmps (fun e w'=>∃v G' r h',e= .returned v∧bP G.N G w G' w'∧G.N≤G'.N∧bV G' w' h'∧aL G' w' v r∧K r h') a'.defers .returning w':=fun hq=>by
  obtain⟨w2,G2,k1,k2,k3,k4⟩:=aeK hE fb hi.z hi.gl.2 dS;obtain⟨v,G',r,h',r1,r2,r3,r4,r5,r6⟩:=acL (N0:=h.length) k4 hq;exact k1 _ _ _ _ _ ⟨v,r1,v,G',r,h',rfl,by rw[←hi.len];exact k2.trans r2,by rw[←hi.len];exact ajF hm r3,r4,r5,r6⟩
 cases e with
 |normal=>exact key hq
 |ret=>exact key hq
 |_=>exact hq.elim
end
end Go.Proofs.YtpgmcallngdceaaGreatDoor
namespace Go.Proofs.YtpgmcallngdceaaGreatDoor
open Go.RowKit
section
variable {P:ake} {r:akd Nat} {N0:Nat} {s:St} {Q:Exit→St→Prop}
end
theorem bO.frame{P:ake}{f:FuncId}{args:akb AV}{K:AV→Prop}(hc:bO P f args [] fun r h=>h=[]∧K r)(ha:args.all (AV.aT 0)=true)(hK:∀r,K r→r.aT 0=true)(h:akb aq):
 bO P f args h fun r h'=>h'=h∧K r:=by
 refine⟨hc.1,fun G w vs hi hl hr=> ?_⟩;have ra:bV {G with N:=0,Z:=fun b=>b<w.heap.size} w []:=⟨rfl,fun b hb=>hb,hi.S,fun n B hB=>by simp at hB,fun m n b h1=>by simp [b6]at h1,hi.gl⟩;refine(hc.2 {G with N:=0,Z:=fun b=>b<w.heap.size} w vs ra hl fun i u c hu hx=> ?_).mono fun e w' hp=> ?_
 ·have:=(hr i u c hu hx).cut (ajN.1 ha c (ajA hx));clear hc;generalize hG:({G with N:=0,Z:=fun b=>b<w.heap.size}:Gh)=G0;have e:∀{v y},aL (G.cut 0) w v y→aL G0 w v y:=by
   intro v y hv;subst hG
   induction hv with
   |agg vs cs hl _ ih=>exact .agg vs cs hl ih
   |bk vs cs hl _ ih=>exact .bk vs cs hl ih
   |fn f vs cs hl _ ih=>exact .fn f vs cs hl ih
   |own n xs h hp hle hf=>exact absurd h (ajP _)
   |ptr n off h=>exact absurd h (ajP _)
   |row n off len cap k h hl hm=>exact absurd h (ajP _)
   |mp n h=>exact absurd h (ajP _)
   |cE n h=>exact absurd h (ajP _)
   |vec n o len L k h=>exact absurd h (ajP _)
   |cN n i j L k h=>exact absurd h (ajP _)
   |hid h h1=>exact .hid h h1
   |d h=>exact .d h
   |bD xs i off b o u x hx hS hu=>exact .bD xs i off b o u x hx hS hu
   |full xs hp hf=>exact .full xs hp hf
   |dead u=>exact .dead u
  exact e this
 ·obtain⟨v,G',r,h',rfl,hE,hN,dg,hv,rfl,hk⟩:=hp;have aja:G'.N=0:=dg.len.symm;have fw:∀b o,G'.S b o→G.S b o∨w.heap.size≤b:=fun b o hs=>(hE.new b o hs).imp id Nat.le_of_not_lt;have jh:bP G.N G w {G with S:=G'.S} w':=
   ⟨hE.size,hE.S,hE.cell,fun _ _=>rfl,fun _ _=> .inl ⟨rfl,rfl⟩,fJ rfl,fun b hb=>hE.old b (hi.z b hb),hE.os,hE.tape,hE.output,fun b o hs=>(fw b o hs).imp id fun iS hz=>by have:=hi.z b hz;omega⟩
  refine⟨v,{G with S:=G'.S},r,h,rfl,jh,ajy _,⟨hi.len,fun b hb=>ajL (hi.z b hb) hE.size,dg.S,fun n B hB=> ?_,fun m n b h1 h2=>hi.inj m n b h1 h2,hi.gl.bn jh⟩,?_,rfl,hk⟩
  ·refine dC.bn (hi.lt hB) jh (ajy _) ⟨rfl,rfl,rfl⟩ (fun b hb=> ?_) (hi.cU n B hB);have aX:=hi.gP (n:=n) (b:=b) ((dm hB).trans hb);refine⟨hE.old _ aX,fun o jC hs=> ?_⟩;rcases fw _ o hs with hs|hs
   ·exact jC hs
   ·omega
  ·have hr:=hK r hk;clear hk jh
   induction hv with
   |agg vs cs hl _ ih=>
    rw[AV.aT,lH,ajN]at hr;exact .agg vs cs hl fun i u c hu hc=>ih i u c hu hc (hr c (ajA hc))
   |bk vs cs hl _ ih=>
    rw[AV.aT,lH,ajN]at hr;exact .bk vs cs hl fun i u c hu hc=>ih i u c hu hc (hr c (ajA hc))
   |fn f vs cs hl _ ih=>
    rw[AV.aT,lH,ajN]at hr;exact .fn f vs cs hl fun i u c hu hc=>ih i u c hu hc (hr c (ajA hc))
   |own n xs h hp hle hf=>simp [AV.aT,cf]at hr
   |ptr n off h=>simp [AV.aT,cf]at hr
   |row n off len cap k h hl hm=>simp [AV.aT,cf]at hr
   |mp n h=>simp [AV.aT,cf]at hr
   |cE n h=>simp [AV.aT,cf]at hr
   |vec n o len L k h=>simp [AV.aT,cf]at hr
   |cN n i j L k h=>simp [AV.aT,cf]at hr
   |hid h h1=>exact .hid h h1
   |d h=>exact .d h
   |bD xs i off b o u x hx hS hu=>exact .bD xs i off b o u x hx hS hu
   |full xs hp hf=>exact .full xs hp hf
   |dead u=>exact .dead u
def aG(P:ake)(f:FuncId)(args:akb AV)(K:AV→Prop):Prop:=bO P f args [] fun r h=>h=[]∧K r
theorem aG.use{P:ake}{f:FuncId}{args:akb AV}{r:AV}{h:akb aq}{C:AV→akb aq→Prop}(hc:aG P f args (·=r))(ha:args.all (AV.aT 0)=true)(hr:r.aT 0=true)(hC:C r h):bO P f args h C:=
 (hc.frame ha (fun _ e=>e▸hr) h).mono fun _ _ ⟨e1,e2⟩=>by subst e1;subst e2;exact hC
def aea:akb FuncId:=[55,75,101,102,103]
def nQ:Operand→Bool
 | .func g=>aea.any (·==g)
 |_=>false
def cg(o:Oper):Nat:=
 match o.op with
 | .move _| .assign _| .pick .. | .nilCheck _| .fieldAddr .. | .field .. | .indexAddr .. | .index .. | .build .. | .buildSlice .. | .slice .. | .extract .. | .makeFunc .. | .binOp .. | .unOp .. | .convert .. =>0
 | .load .. | .lookup .. =>1
 | .alloc _| .box .. =>2
 | .store .. | .makeMap .. | .mapUpdate .. =>3
 | .call c=>match c.callee with
   | .builtin .len| .builtin .max| .builtin .min=>0
   | .builtin .append=>5
   | .value f=>bif nQ f then 6 else 4
   |_=>9
 |_=>9
def QG(P:ake)(g:FuncId)(args:akb AV)(h:akb aq)(C:AV→Prop):Prop:=∃r,C r∧∀e,bO P g args (h++e) fun r' h'=>r'=r∧h'=h++e
def AL(P:ake)(o:Oper)(K:St→Prop)(s:St):Prop:=
 match o.op with
 | .call c=>match c.callee with
   | .value f=>match ev s f with
     | .fn g cV=>QG P g (c.args.toList.map (ev s)++cV) s.h fun r=>K (s.put o.dst r)
     | .hid q=>∃g cs,q= .fn g cs∧QG P g (c.args.toList.map (ev s)++cs.map fM.av) s.h fun r=>K (s.put o.dst r)
     |_=>False
   |_=>n5 P o K s
 |_=>n5 P o K s
def iz(o:Oper):Bool:=
 match o.op with
 | .indexAddr .. | .fieldAddr .. | .nilCheck .. | .load .. | .store .. =>true
 | .call c=>match c.callee with
   | .builtin .len=>true
   |_=>false
 |_=>false
def mV(m:Bool)(o:Oper):Bool:=m&&match o.op with
 | .call c=>match c.callee with
   | .value (.tmp _)=>true
   |_=>false
 |_=>false
def xU(m:Bool)(P:ake)(o:Oper)(K:St→Prop)(s:St):Prop:=
 AL P o K s∨(mV m o=true∧∃x h1,K ((s.wh h1).put o.dst x)∧∀C:AV→akb aq→Prop,C x h1→cn P o (ev s) s.h C)∨(iz o=true∧JK P o K s)∨(cg o=6∧∃x e0,K ((s.wh (s.h++e0)).put o.dst x)∧∀C:AV→akb aq→Prop,C x (s.h++e0)→cn P o (ev s) s.h C)
def gQ(P:ake)(o:Oper)(ρ:Operand→AV)(h:akb aq)(C:AV→akb aq→Prop):Prop:=
 cn P o ρ h C∨(iz o=true∧∃a x h' p,gJ P o.op ρ h a=some (x,h',p)∧p∧C x h')
def tJ(m:Bool)(P:ake)(ops:Array Oper):akb Oper→(St→Prop)→St→Prop
 |[],K,s=>K s
 |o::rest,K,s=>aGuard ops o s (xU m P o (tJ m P ops rest K) s) (tJ m P ops rest K (s.put o.dst (.d (.v undef))))
abbrev Q0(P:ake)(o:Oper)(K:St→Prop)(s:St):Prop:=xU false P o K s
abbrev Bb(P:ake)(ops:Array Oper)(l:akb Oper)(K:St→Prop)(s:St):Prop:=tJ false P ops l K s
section
variable {P:ake} {o:Oper} {ρ ρ':Operand→AV} {h:akb aq} {C:AV→akb aq→Prop}
theorem Kv(x:akd Operand)(hx:∀y∈x.toArray,ρ y=ρ' y)(d:Nat)(F:Nat→Prop):ij ρ x d F=ij ρ' x d F:=by
 cases x with
 |none=>rfl
 |some y=>simp only[ij,hx y (by simp)]
theorem agR(hρ:∀x∈o.op.operands,ρ x=ρ' x):cn P o ρ h C=cn P o ρ' h C:=by
 obtain⟨dst,op,type,pos,after,guard⟩:=o;have VC:∀ps:Array (Nat×Operand),(∀x∈ps.map (·.2),ρ x=ρ' x)→(ps.toList.map fun p=>(p.1,ρ p.2))=(ps.toList.map fun p=>(p.1,ρ' p.2)):=fun ps hp=>
  ajS fun p hm=>by rw[hp p.2 (Array.mem_map.2 ⟨p,Array.mem_toList_iff.1 hm,rfl⟩)]
 have eZ:∀l:Array Operand,(∀x∈l,ρ x=ρ' x)→l.toList.map ρ=l.toList.map ρ':=fun l hl=>ajS fun x hm=>hl x (Array.mem_toList_iff.1 hm);cases op with
 |build t ps=>simp only[cn,VC ps fun x hx=>hρ x (by simpa [Op.operands]using hx)]
 |buildSlice t n ps=>simp only[cn,VC ps fun x hx=>hρ x (by simpa [Op.operands]using hx)]
 |makeFunc fn first captured=>
  cases fn with
  |func f=>simp only[cn,eZ captured fun x hx=>hρ x (by simp [Op.operands,hx])]
  |_=>rfl
 |slice t x lo hi mx=>
  have e1:ρ x=ρ' x:=hρ x (by simp [Op.operands]);have e2:=fun d F=>Kv (ρ:=ρ) (ρ':=ρ') lo (fun y hy=>hρ y (by simp at hy;simp [Op.operands,hy])) d F;have e3:=fun d F=>Kv (ρ:=ρ) (ρ':=ρ') hi (fun y hy=>hρ y (by simp at hy;simp [Op.operands,hy])) d F;have e4:=fun d F=>Kv (ρ:=ρ) (ρ':=ρ') mx (fun y hy=>hρ y (by simp at hy;simp [Op.operands,hy])) d F;cases lo<;>cases hi<;>cases mx<;>simp only[cn,s5,e1,e2,e3,e4]
 |call c=>
  have ha:c.args.toList.map ρ=c.args.toList.map ρ':=eZ c.args fun x hx=>hρ x (by simp [Op.operands,Call.operands,hx]);have hm:∀x,x∈c.args.toList→ρ x=ρ' x:=fun x hx=>hρ x (by simp [Op.operands,Call.operands];right;exact Array.mem_toList_iff.1 hx);cases hc:c.callee with
  |value f=>
   have hf:ρ f=ρ' f:=hρ f (by simp [Op.operands,Call.operands,hc]);simp only[cn,hc,hf,ha]
  |invoke=>simp only[cn,hc]
  |builtin b=>
   cases b with
   |len=>
    simp only[cn,hc];split
    ·rename_i x _ heq _
     rw[hm x (by rw[heq];simp)]
    ·rfl
   |append=>
    simp only[cn,hc];split
    ·rename_i x y _ _ heq _
     rw[hm x (by rw[heq];simp),hm y (by rw[heq];simp)]
    ·rfl
   |max=>simp only[cn,hc,ha]
   |min=>simp only[cn,hc,ha]
   |_=>simp only[cn,hc]
 |makeMap t r=>cases r<;>rfl
 |lookup t a b ok=>simp only[cn,nq,hρ a (by simp [Op.operands]),hρ b (by simp [Op.operands])]
 |mapUpdate t a b c=>simp only[cn,nq,hρ a (by simp [Op.operands]),hρ b (by simp [Op.operands]),hρ c (by simp [Op.operands])]
 |pick c a b=>simp only[cn,hρ c (by simp [Op.operands]),hρ a (by simp [Op.operands]),hρ b (by simp [Op.operands])]
 |store t a b=>simp only[cn,hρ a (by simp [Op.operands]),hρ b (by simp [Op.operands])]
 |binOp op t a b u=>simp only[cn,hρ a (by simp [Op.operands]),hρ b (by simp [Op.operands])]
 |indexAddr t a b=>simp only[cn,hρ a (by simp [Op.operands]),hρ b (by simp [Op.operands])]
 |index t a b=>simp only[cn,hρ a (by simp [Op.operands]),hρ b (by simp [Op.operands])]
 |move a|assign a|box t a|load t a|nilCheck a|fieldAddr t a f|field t a f|extract a i|unOp op t a|convert t u a=>simp only[cn,hρ a (by simp [Op.operands])]
 |_=>rfl
theorem afy(hv:iz o=true)(hρ:∀x∈o.op.operands,ρ x=ρ' x)(a:VA):gJ P o.op ρ h a=gJ P o.op ρ' h a:=by
 obtain⟨dst,op,type,pos,after,guard⟩:=o;cases op with
 |store t a b=>simp only[gJ,hρ a (by simp [Op.operands]),hρ b (by simp [Op.operands])]
 |indexAddr t a b=>simp only[gJ,hρ a (by simp [Op.operands]),hρ b (by simp [Op.operands])]
 |load t a|nilCheck a|fieldAddr t a f=>simp only[gJ,hρ a (by simp [Op.operands])]
 |call c=>
  have hm:∀x,x∈c.args.toList→ρ x=ρ' x:=fun x hx=>hρ x (by simp [Op.operands,Call.operands];right;exact Array.mem_toList_iff.1 hx);cases hc:c.callee with
  |builtin b=>
   cases b with
   |len=>
    simp only[gJ,hc];split
    ·rename_i x _ heq _
     rw[hm x (by rw[heq];simp)]
    ·rfl
   |_=>simp [iz,hc]at hv
  |_=>simp [iz,hc]at hv
 |_=>simp [iz]at hv
theorem Oa(hρ:∀x∈o.op.operands,ρ x=ρ' x):gQ P o ρ h C=gQ P o ρ' h C:=by
 unfold gQ;rw[agR hρ];by_cases hv:iz o=true
 ·simp only[afy hv hρ]
 ·simp only[hv,Bool.false_eq_true,false_and]
end
def ag1:aq→Bool
 | .cells _| .map _| .vec .. =>true
 |_=>false
def lT:akd aq→akd (Nat×Nat)
 |some (.vec _ k cs)=>some (k,cs.length)
 |_=>none
def gm(h h':akb aq):Prop:=∀(m:Nat)(q:Nat×Nat),lT h[m]?=some q→lT h'[m]?=some q
def gb(h h':akb aq):Prop:=∀m:Nat,lT h[m]?=lT h'[m]?
theorem gb.i{h h':akb aq}(e:gb h h'):gm h h':=fun m q hq=>by rw[←e m];exact hq
theorem gb.j{h h':akb aq}(e:gb h h'):gm h' h:=fun m q hq=>by rw[e m];exact hq
theorem gm.refl(h:akb aq):gm h h:=fun _ _ e=>e
theorem gm.trans{a b c:akb aq}(x:gm a b)(y:gm b c):gm a c:=fun m q e=>y m q (x m q e)
theorem gm.app(h e:akb aq):gm h (h++e):=fun m q hq=>by
 by_cases hl:m<h.length
 ·rw[ajx hl];exact hq
 ·rw[ajT (by omega)]at hq;cases hq
theorem gb.app{h:akb aq}{B:aq}(hB:lT (some B)=none):gb h (h++[B]):=fun m=>by
 by_cases hl:m<h.length
 ·rw[ajx hl]
 ·rw[ajD (by omega),ajT (by omega:h.length≤m)];by_cases h0:m-h.length=0
  ·rw[h0];exact hB.symm
  ·rw[ajT (by simp;omega)]
theorem gb.set{h:akb aq}{n:Nat}{B B':aq}(hn:h[n]?=some B)(hB:lT (some B)=lT (some B')):gb h (h.set n B'):=fun m=>by
 by_cases e:n=m
 ·subst e;rw[ajQ (ajn.1 hn).1,hn];exact hB
 ·rw[ajV e]
def gk(h h':akb aq):Prop:=∀(n:Nat)(B:aq),h[n]?=some B→ag1 B=true→h'[n]?=some B
theorem gk.app(h e:akb aq):gk h (h++e):=fun n cs hn _=>by
 rw[ajx (ajn.1 hn).1];exact hn
theorem gk.refl(h:akb aq):gk h h:=fun _ _ hn _=>hn
theorem adl{P:ake}{ρ:Operand→AV}{h h1:akb aq}{T:TypeId}{m i:Operand}{ok:Bool}{x:AV}{p:Sd}(hx:nq P (.lookup T m i ok) ρ h=some (x,h1,p)):h1=h∧∀h',gk h h'→nq P (.lookup T m i ok) ρ h'=some (x,h',p):=by
 simp only[nq]at hx ⊢;split at hx
 ·next k e hT=>
  split at hx
  ·next z hz=>
   split at hx
   ·next b s' hm hi=>
    split at hx
    ·next kv hn=>
     cases hc:fA P k&&z.oneCell' with
     |false=>rw[hc]at hx;cases hx
     |true=>
      rw[hc]at hx;cases hx
      refine⟨rfl,fun h' hh=> ?_⟩;rw[hh b _ hn rfl];simp only[cond_true]
    ·cases hx
   ·cases hx
  ·cases hx
 ·cases hx
theorem Q7{h:akb aq}{n e k:Nat}{cs:akb (akb AV)}(hn:h[n]?=some (.vec e k cs)):lT h[n]?=some (k,cs.length):=by rw[hn];rfl
theorem Tv{h:akb aq}{n k l:Nat}(hq:lT h[n]?=some (k,l)):∃e cs,h[n]?=some (.vec e k cs)∧cs.length=l:=by
 unfold lT at hq;split at hq
 ·next e k' cs e1=>cases hq;exact⟨e,cs,e1,rfl⟩
 ·cases hq
theorem acF{P:ake}{o:Oper}{ρ:Operand→AV}{h h1:akb aq}{a:VA}{x:AV}{p:Prop}(hv:iz o=true)(hk:cg o=0)(hx:gJ P o.op ρ h a=some (x,h1,p))(hp:p):h1=h∧∀h',gm h h'→∃p',gJ P o.op ρ h' a=some (x,h',p')∧p':=by
 obtain⟨dst,op,type,pos,after,guard⟩:=o;cases op with
 |indexAddr T y i=>
  simp only[gJ]at hx ⊢;split at hx
  ·next n o len L k z e k' i' e1 e2 e3=>
   split at hx
   ·next e4 k2 cs hn=>
    obtain⟨hb,he⟩:=kK hx;cases he
    rw[ajp,beq_iff_eq,beq_iff_eq]at hb;obtain⟨rfl,rfl⟩:=hb;refine⟨rfl,fun h' hh=> ?_⟩;obtain⟨e5,cs5,q1,q2⟩:=Tv (hh n _ (Q7 hn));simp only[q1,aj6,Bool.and_self,cond_true];exact⟨_,rfl,by rw[q2];exact hp.1,hp.2⟩
   ·cases hx
  ·cases hx
 |fieldAddr T y f=>
  simp only[gJ]at hx ⊢;split at hx
  ·next e1 e2=>cases hx;exact⟨rfl,fun h' _=>⟨_,rfl,trivial⟩⟩
  ·cases hx
 |nilCheck y=>
  simp only[gJ]at hx ⊢;split at hx
  ·next e1=>cases hx;exact⟨rfl,fun h' _=>⟨_,rfl,trivial⟩⟩
  ·cases hx
 |call c=>
  cases hc:c.callee with
  |builtin b=>
   cases b with
   |len=>
    simp only[gJ,hc]at hx ⊢;split at hx
    ·split at hx
     ·next n o len L k e1=>
      split at hx
      ·next e2 k2 cs hn=>
       obtain⟨hb,he⟩:=kK hx;cases he
       rw[ajp,beq_iff_eq]at hb;obtain⟨iP,rfl⟩:=hb;refine⟨rfl,fun h' hh=> ?_⟩;obtain⟨e5,cs5,q1,q2⟩:=Tv (hh n _ (Q7 hn));simp only[q1,iP,aj6,Bool.and_self,cond_true];exact⟨_,rfl,by rw[q2];exact hp⟩
      ·cases hx
     ·cases hx
    ·cases hx
   |_=>simp [iz,hc]at hv
  |_=>simp [iz,hc]at hv
 |load t y=>simp [cg]at hk
 |store t y z=>simp [cg]at hk
 |_=>simp [iz]at hv
theorem Za{P:ake}{o:Oper}{ρ:Operand→AV}{h h1:akb aq}{a:VA}{x:AV}{p:Prop}(hv:iz o=true)(hk:cg o=1)(hx:gJ P o.op ρ h a=some (x,h1,p))(hp:p):h1=h∧∀h',gk h h'→∃p',gJ P o.op ρ h' a=some (x,h',p')∧p':=by
 obtain⟨dst,op,type,pos,after,guard⟩:=o;cases op with
 |load t y=>
  simp only[gJ]at hx ⊢;split at hx
  ·next n i j L k c e1=>
   split at hx
   ·next e2 k' cs z hn hz=>
    obtain⟨hb,he⟩:=kK hx;cases he
    refine⟨rfl,fun h' hh=> ?_⟩;simp only[hh n _ hn rfl,hz,hb,cond_true];exact⟨_,rfl,hp⟩
   ·cases hx
  ·cases hx
 |indexAddr T y i=>simp [cg]at hk
 |fieldAddr T y f=>simp [cg]at hk
 |nilCheck y=>simp [cg]at hk
 |call c=>
  cases hc:c.callee with
  |builtin b=>cases b<;>simp [cg,hc]at hk
  |value f=>cases kg:nQ f<;>simp [cg,hc,kg]at hk
  |invoke=>simp [cg,hc]at hk
 |store t y z=>simp [cg]at hk
 |_=>simp [iz]at hv
theorem YW{P:ake}{o:Oper}{ρ:Operand→AV}{h h1:akb aq}{a:VA}{x:AV}{p:Prop}(hv:iz o=true)(hk:cg o=3)(hx:gJ P o.op ρ h a=some (x,h1,p))(hp:p):gb h h1:=by
 obtain⟨dst,op,type,pos,after,guard⟩:=o;cases op with
 |store t y z=>
  simp only[gJ]at hx;split at hx
  ·next n i j L k c ca e1=>
   split at hx
   ·next e k' cs q hn hz=>
    obtain⟨hb,he⟩:=kK hx;cases he
    simp only[ajp,beq_iff_eq]at hb;refine gb.set hn ?_;simp only[lT,List.length_set,hp.2.2,hb.1.1.1.1]
   ·cases hx
  ·cases hx
 |load t y=>simp [cg]at hk
 |indexAddr T y i=>simp [cg]at hk
 |fieldAddr T y f=>simp [cg]at hk
 |nilCheck y=>simp [cg]at hk
 |call c=>
  cases hc:c.callee with
  |builtin b=>cases b<;>simp [cg,hc]at hk
  |value f=>cases kg:nQ f<;>simp [cg,hc,kg]at hk
  |invoke=>simp [cg,hc]at hk
 |_=>simp [iz]at hv
def lL(m:Bool)(o:Oper):Nat:=bif mV m o then 7 else cg o
def dH(m:Bool)(P:ake)(o:Oper)(ρ:Operand→AV)(h:akb aq)(x:AV)(h1:akb aq):Prop:=
 match lL m o with
 |0=>h1=h∧∀h',gm h h'→∀C:AV→akb aq→Prop,C x h'→gQ P o ρ h' C
 |1=>h1=h∧∀h',gk h h'→∀C:AV→akb aq→Prop,C x h'→gQ P o ρ h' C
 |2=>∃B,lT (some B)=none∧x= .ptr h.length 0∧h1=h++[B]∧∀h'(C:AV→akb aq→Prop),C (.ptr h'.length 0) (h'++[B])→gQ P o ρ h' C
 |3=>gb h h1∧∀C:AV→akb aq→Prop,C x h1→gQ P o ρ h C
 |4=>h1=h∧∀e(C:AV→akb aq→Prop),C x (h++e)→gQ P o ρ (h++e) C
 |5=>(gk h h1∧gk h1 h∧gb h h1)∧∀C:AV→akb aq→Prop,C x h1→gQ P o ρ h C
 |6=>∃e0,h1=h++e0∧∀C:AV→akb aq→Prop,C x h1→gQ P o ρ h C
 |7=>∀C:AV→akb aq→Prop,C x h1→gQ P o ρ h C
 |_=>False
section
variable {P:ake} {o:Oper} {ρ ρ':Operand→AV} {h:akb aq} {C:AV→akb aq→Prop}
theorem abJ{p:AV}{K:akb AV→Nat→Prop}(hp:qk h p K):∃cs off,K cs off∧∀h',gk h h'→∀K':akb AV→Nat→Prop,K' cs off→qk h' p K':=by
 unfold qk at hp ⊢;split at hp
 ·rename_i n off
  split at hp
  ·rename_i cs fg
   refine⟨cs,off,hp,fun h' hh K' hk=> ?_⟩;rw[hh n _ fg rfl];exact hk
  ·exact hp.elim
 ·rename_i xs i off
  split at hp
  ·rename_i cs fg
   refine⟨_,off,hp,fun h' _ K' hk=> ?_⟩;exact hk
  ·exact hp.elim
 ·exact hp.elim
theorem ahI{t:Nat}{p:AV}{K:AV→Prop}(hp:mm P t h p K):∃x,K x∧∀h',gk h h'→∀K':AV→Prop,K' x→mm P t h' p K':=by
 unfold mm at hp ⊢;obtain⟨cs,off,h1,h2⟩:=abJ hp;split at h1
 ·rw[bN]at h1;refine⟨_,h1.2,fun h' hh K' gO=>h2 h' hh _ ?_⟩;exact bN.2 ⟨h1.1,gO⟩
 ·split at h1
  ·rename_i c hc
   refine⟨c,h1,fun h' hh K' gO=>h2 h' hh _ ?_⟩;simp only[hc];exact gO
  ·exact h1.elim
 ·exact h1.elim
theorem sD{x:akd Operand}{d:Nat}{F:Nat→Prop}(hx:ij ρ x d F):∃m,F m∧∀F':Nat→Prop,F' m→ij ρ x d F':=by
 cases x with
 |none=>exact⟨d,hx,fun _ h=>h⟩
 |some y=>
  simp only[ij]at hx;split at hx
  ·rename_i z hz
   exact⟨_,hx.2,fun F' hF=>by simp only[ij,hz];exact⟨hx.1,hF⟩⟩
  ·exact hx.elim
theorem ZQ(hk:cg o=0)(hc:cn P o ρ h C):∃x,C x h∧∀h'(C':AV→akb aq→Prop),C' x h'→cn P o ρ h' C':=by
 have sr:∀(F:(AV→Prop)→Prop),(∀K,F K→∃x,K x∧∀K',K' x→F K')→F (fun x=>C x h)→(∀h' C',cn P o ρ h' C'=F (fun x=>C' x h'))→∃x,C x h∧∀h'(C':AV→akb aq→Prop),C' x h'→cn P o ρ h' C':=fun F hF h0 he=>by
  obtain⟨x,h1,h2⟩:=hF _ h0;exact⟨x,h1,fun h' C' cS=>by rw[he];exact h2 _ cS⟩
 obtain⟨dst,op,type,pos,after,guard⟩:=o;cases op with
 |move a=>exact⟨ρ a,hc,fun _ _ h=>h⟩
 |assign a=>exact⟨ρ a,hc,fun _ _ h=>h⟩
 |pick c a b=>
  simp only[cn]at hc;split at hc
  ·rename_i t ht
   cases t with
   |true=>exact⟨ρ a,hc.1 rfl,fun h' C' cS=>by simp only[cn,ht];exact⟨fun _=>cS,fun e=>by cases e⟩⟩
   |false=>exact⟨ρ b,hc.2 rfl,fun h' C' cS=>by simp only[cn,ht];exact⟨fun e=>(by cases e),fun _=>cS⟩⟩
  ·exact hc.elim
 |nilCheck a=>
  simp only[cn]at hc;split at hc
  ·rename_i m off e;exact⟨_,hc,fun h' C' cS=>by simp only[cn,e];exact cS⟩
  ·rename_i xs i off e;exact⟨_,hc,fun h' C' cS=>by simp only[cn,e];exact cS⟩
  ·rename_i f cs e;exact⟨_,hc,fun h' C' cS=>by simp only[cn,e];exact cS⟩
  ·exact hc.elim
 |fieldAddr t a f=>
  simp only[cn]at hc;split at hc
  ·rename_i fo k g hf
   split at hc
   ·rename_i m off e;exact⟨_,hc,fun h' C' cS=>by simp only[cn,hf,e];exact cS⟩
   ·rename_i xs i off e;exact⟨_,hc,fun h' C' cS=>by simp only[cn,hf,e];exact cS⟩
   ·exact hc.elim
  ·exact hc.elim
 |field t a f=>
  refine sr (uB P t (ρ a) f) (fun K hK=> ?_) hc (fun _ _=>rfl);unfold uB at hK ⊢;split at hK
  ·rw[bN]at hK;exact⟨_,hK.2,fun K' dw=>bN.2 ⟨hK.1,dw⟩⟩
  ·split at hK
   ·rename_i c iK;exact⟨c,hK,fun K' dw=>dw⟩
   ·exact hK.elim
  ·exact hK.elim
 |indexAddr t a b=>
  refine sr (pG P t (ρ a) (ρ b)) (fun K hK=> ?_) hc (fun _ _=>rfl);unfold pG at hK ⊢;split at hK
  ·rename_i e k hT
   split at hK
   ·rename_i n off len cap k'
    split at hK
    ·rename_i z hz
     rw[bN]at hK;obtain⟨h1,h2,h3,h4⟩:=hK;exact⟨_,h4,fun K' dw=>bN.2 ⟨h1,h2,h3,dw⟩⟩
    ·exact hK.elim
   ·split at hK
    ·rename_i xs z jV hz
     obtain⟨h0,hK⟩:=hK;split at hK
     ·rename_i c iK
      exact⟨_,hK.2,fun K' dw=>⟨h0,hK.1,dw⟩⟩
     ·exact hK.elim
    ·exact hK.elim
  ·split at hK
   ·rename_i n e k b' off z hT hz
    obtain⟨h1,h2,h3⟩:=hK;exact⟨_,h3,fun K' dw=>⟨h1,h2,dw⟩⟩
   ·rename_i n e k xs i' off z hT hz
    rw[bN]at hK;obtain⟨h0,h1,h2,h3⟩:=hK;split at h3
    ·rename_i c iK
     split at h3
     ·rename_i d hd
      exact⟨_,h3,fun K' dw=>bN.2 ⟨h0,h1,h2,dw⟩⟩
     ·exact h3.elim
    ·exact h3.elim
   ·exact hK.elim
 |index t a b=>
  simp only[cn]at hc;split at hc
  ·rename_i bb z e1 e2
   rw[bN]at hc;obtain⟨h1,h2,h3⟩:=hc;split at h3
   ·rename_i c iK
    exact⟨_,h3,fun h' C' cS=>by simp only[cn,e1,e2];exact bN.2 ⟨h1,h2,by simp only[iK];exact cS⟩⟩
   ·exact h3.elim
  ·exact hc.elim
 |build t ps=>
  refine sr (wI P t (ps.toList.map fun p:Nat×Operand=>(p.1,ρ p.2))) (fun K hK=> ?_) hc (fun _ _=>rfl);unfold wI at hK ⊢;split at hK
  ·split at hK
   ·rename_i cs fg
    rw[bN]at hK;exact⟨_,hK.2,fun K' dw=>bN.2 ⟨hK.1,dw⟩⟩
   ·exact hK.elim
  ·exact hK.elim
 |buildSlice t n ps=>
  refine sr (ui P t n (ps.toList.map fun p:Nat×Operand=>(p.1,ρ p.2))) (fun K hK=> ?_) hc (fun _ _=>rfl);unfold ui at hK ⊢;split at hK
  ·split at hK
   ·split at hK
    ·rename_i cs fg
     split at hK
     ·rename_i ds sa
      rw[bN]at hK;exact⟨_,hK.2,fun K' dw=>bN.2 ⟨hK.1,dw⟩⟩
     ·exact hK.elim
    ·exact hK.elim
   ·exact hK.elim
  ·exact hK.elim
 |slice t a lo hi mx=>
  refine sr (s5 P t ρ (ρ a) lo hi mx) (fun K hK=> ?_) hc (fun _ _=>rfl);unfold s5 at hK ⊢;split at hK
  ·split at hK
   ·rw[bN]at hK;obtain⟨h0,hK⟩:=hK;obtain⟨m1,hK,j1⟩:=sD hK;obtain⟨h1,hK⟩:=hK;obtain⟨m2,hK,j2⟩:=sD hK;obtain⟨h2,hK⟩:=hK;exact⟨_,hK,fun K' dw=>bN.2 ⟨h0,j1 _ ⟨h1,j2 _ ⟨h2,dw⟩⟩⟩⟩
   ·split at hK
    ·rw[bN]at hK;obtain⟨h0,hK⟩:=hK;obtain⟨m1,hK,j1⟩:=sD hK;rw[bN]at hK;obtain⟨h1,hK⟩:=hK;obtain⟨m2,hK,j2⟩:=sD hK;rw[bN]at hK;obtain⟨h2,hK⟩:=hK;exact⟨_,hK,fun K' dw=>by rw[bN];exact⟨h0,j1 _ (by rw[bN];exact⟨h1,j2 _ (by rw[bN];exact⟨h2,dw⟩)⟩)⟩⟩
    ·exact hK.elim
   ·split at hK
    ·obtain⟨h0,hK⟩:=hK;obtain⟨m1,hK,j1⟩:=sD hK;obtain⟨h1,hK⟩:=hK;obtain⟨m2,hK,j2⟩:=sD hK;obtain⟨h2,hK⟩:=hK;exact⟨_,hK,fun K' dw=>⟨h0,j1 _ ⟨h1,j2 _ ⟨h2,dw⟩⟩⟩⟩
    ·exact hK.elim
  ·split at hK
   ·split at hK
    ·obtain⟨h0,hK⟩:=hK;obtain⟨m1,hK,j1⟩:=sD hK;obtain⟨h1,hK⟩:=hK;obtain⟨m2,hK,j2⟩:=sD hK;obtain⟨h2,hK⟩:=hK;exact⟨_,hK,fun K' dw=>⟨h0,j1 _ ⟨h1,j2 _ ⟨h2,dw⟩⟩⟩⟩
    ·exact hK.elim
   ·exact hK.elim
 |extract a i=>
  simp only[cn]at hc;split at hc
  ·rename_i cs e
   split at hc
   ·rename_i c iK;exact⟨c,hc,fun h' C' cS=>by simp only[cn,e,iK];exact cS⟩
   ·exact hc.elim
  ·exact hc.elim
 |makeFunc fn first cV=>
  cases fn with
  |func f=>
   simp only[cn]at hc;split at hc
   ·rename_i e;exact⟨_,hc,fun h' C' cS=>by simp only[cn,e];exact cS⟩
   ·exact hc.elim
  |_=>exact hc.elim
 |binOp op t a b u=>
  refine sr (vq P t op (ρ a) (ρ b)) (fun K hK=> ?_) hc (fun _ _=>rfl);unfold vq at hK ⊢;split at hK
  ·split at hK
   ·rw[bN]at hK;exact⟨_,hK.2.2,fun K' dw=>bN.2 ⟨hK.1,hK.2.1,dw⟩⟩
   ·split at hK
    ·exact⟨_,hK.2,fun K' dw=>⟨hK.1,dw⟩⟩
    ·split at hK
     ·rw[bN]at hK;exact⟨_,hK.2,fun K' dw=>bN.2 ⟨hK.1,dw⟩⟩
     ·exact hK.elim
  ·split at hK
   ·exact⟨_,hK,fun K' dw=>dw⟩
   ·split at hK
    ·exact⟨_,hK.2,fun K' dw=>⟨hK.1,dw⟩⟩
    ·exact hK.elim
  ·split at hK
   ·rw[bN]at hK;exact⟨_,hK.2,fun K' dw=>bN.2 ⟨hK.1,dw⟩⟩
   ·exact hK.elim
  ·split at hK
   ·split at hK
    ·exact⟨_,hK,fun K' dw=>dw⟩
    ·exact hK.elim
   ·exact hK.elim
  ·exact hK.elim
 |unOp op t a=>
  refine sr (uX op (ρ a)) (fun K hK=> ?_) hc (fun _ _=>rfl);unfold uX at hK ⊢;split at hK
  ·split at hK
   ·exact⟨_,hK,fun K' dw=>dw⟩
   ·exact hK.elim
  ·exact hK.elim
 |convert t u a=>
  refine sr (wX P t u (ρ a)) (fun K hK=> ?_) hc (fun _ _=>rfl);unfold wX at hK ⊢;split at hK
  ·split at hK
   ·exact⟨_,hK,fun K' dw=>dw⟩
   ·exact hK.elim
  ·rw[bN]at hK;exact⟨_,hK.2,fun K' dw=>bN.2 ⟨hK.1,dw⟩⟩
  ·split at hK
   ·rw[bN]at hK;obtain⟨h1,ns,h2,h3⟩:=hK;exact⟨_,h3,fun K' dw=>bN.2 ⟨h1,ns,h2,dw⟩⟩
   ·exact hK.elim
 |call c=>
  simp only[cg]at hk;cases dL:c.callee with
  |value f=>cases kg:nQ f<;>simp [dL,kg]at hk
  |invoke=>simp [dL]at hk
  |builtin b=>
   cases b with
   |len=>
    simp only[cn,dL]at hc;split at hc
    ·rename_i x T e1 e2
     have key:∀F:Nat→Prop,qq P T (ρ x) F→∃m,F m∧∀F':Nat→Prop,F' m→qq P T (ρ x) F':=fun F hF=>by
      unfold qq at hF ⊢;split at hF
      ·rw[bN]at hF;exact⟨_,hF.2,fun F' jl=>bN.2 ⟨hF.1,jl⟩⟩
      ·rw[bN]at hF;exact⟨_,hF.2,fun F' jl=>bN.2 ⟨hF.1,jl⟩⟩
      ·split at hF
       ·rw[bN]at hF;exact⟨_,hF.2,fun F' jl=>bN.2 ⟨hF.1,jl⟩⟩
       ·exact hF.elim
     obtain⟨m,h1,h2⟩:=key _ hc;exact⟨_,h1,fun h' C' cS=>by simp only[cn,dL,e1,e2];exact h2 _ cS⟩
    ·exact hc.elim
   |max=>
    simp only[cn,dL]at hc;split at hc
    ·rename_i e1
     exact⟨_,hc,fun h' C' cS=>by simp only[cn,dL,e1];exact cS⟩
    ·exact hc.elim
   |min=>
    simp only[cn,dL]at hc;split at hc
    ·rename_i e1
     exact⟨_,hc,fun h' C' cS=>by simp only[cn,dL,e1];exact cS⟩
    ·exact hc.elim
   |_=>simp [dL]at hk
 |_=>simp [cg]at hk
theorem YF(hk:cg o=2)(hc:cn P o ρ h C):∃B,lT (some B)=none∧C (.ptr h.length 0) (h++[B])∧∀h'(C':AV→akb aq→Prop),C' (.ptr h'.length 0) (h'++[B])→cn P o ρ h' C':=by
 obtain⟨dst,op,type,pos,after,guard⟩:=o;cases op with
 |alloc e=>
  simp only[cn]at hc;split at hc
  ·rename_i z hz;exact⟨_,rfl,hc,fun h' C' cS=>by simp only[cn,hz];exact cS⟩
  ·exact hc.elim
 |box e x=>
  simp only[cn]at hc;rw[bN]at hc;exact⟨_,rfl,hc.2,fun h' C' cS=>by simp only[cn];rw[bN];exact⟨hc.1,cS⟩⟩
 |call c=>
  simp only[cg]at hk;cases dL:c.callee with
  |value f=>cases kg:nQ f<;>simp [dL,kg]at hk
  |invoke=>simp [dL]at hk
  |builtin b=>cases b<;>simp [dL]at hk
 |_=>simp [cg]at hk
theorem aaf(hk:cg o=3)(hc:cn P o ρ h C):∃x h1,C x h1∧gb h h1∧∀C':AV→akb aq→Prop,C' x h1→cn P o ρ h C':=by
 obtain⟨dst,op,type,pos,after,guard⟩:=o;cases op with
 |store t a b=>
  simp only[cn]at hc;have key:∀F:akb aq→Prop,vR P t h (ρ a) (ρ b) F→∃h1,F h1∧gb h h1∧∀F':akb aq→Prop,F' h1→vR P t h (ρ a) (ρ b) F':=fun F hF=>by
   unfold vR at hF ⊢;split at hF
   ·split at hF
    ·next hn=>
     split at hF
     ·rw[bN]at hF;exact⟨_,hF.2,gb.set hn rfl,fun F' jl=>bN.2 ⟨hF.1,jl⟩⟩
     ·exact hF.elim
    ·exact hF.elim
   ·exact hF.elim
  obtain⟨h1,k1,kv,k2⟩:=key _ hc;exact⟨_,h1,k1,kv,fun C' cS=>by simp only[cn];exact k2 _ cS⟩
 |makeMap t r=>
  simp only[cn]at hc;split at hc
  ·rename_i x h' p hx
   refine⟨x,h',hc.2,?_,fun C' cS=>by simp only[cn,hx];exact⟨hc.1,cS⟩⟩;unfold nq at hx;cases r with
   |none=>
    simp only at hx;split at hx
    ·cases hx;exact gb.app rfl
    ·cases hx
   |some r=>cases hx
  ·exact hc.elim
 |mapUpdate t a b c=>
  simp only[cn]at hc;split at hc
  ·rename_i x h' p hx
   refine⟨x,h',hc.2,?_,fun C' cS=>by simp only[cn,hx];exact⟨hc.1,cS⟩⟩;unfold nq at hx;simp only at hx;split at hx
   ·split at hx
    ·split at hx
     ·next hn=>
      obtain⟨hb,he⟩:=kK hx;cases he
      exact gb.set hn rfl
     ·cases hx
    ·cases hx
   ·cases hx
  ·exact hc.elim
 |call c=>
  simp only[cg]at hk;cases dL:c.callee with
  |value f=>cases kg:nQ f<;>simp [dL,kg]at hk
  |invoke=>simp [dL]at hk
  |builtin b=>cases b<;>simp [dL]at hk
 |_=>simp [cg]at hk
theorem O5{n:Nat}{e:TypeId}{k l e' k' l':Nat}(hn:h[n]?=some (.front e' k' l')):gk h (h.set n (.front e k l))∧gk (h.set n (.front e k l)) h:=by
 refine⟨fun m cs hm hc=> ?_,fun m cs hm hc=> ?_⟩
 ·have:n≠m:=fun e=>by subst e;rw[hn]at hm;cases hm;cases hc
  rw[ajV this];exact hm
 ·by_cases e:n=m
  ·subst e;rw[ajQ (ajn.1 hn).1]at hm;cases hm;cases hc
  ·rw[ajV e]at hm;exact hm
theorem Gy{e:TypeId}{k l:Nat}:gk h (h++[.front e k l])∧gk (h++[.front e k l]) h:=by
 refine⟨gk.app _ _,fun m cs hm hc=> ?_⟩;by_cases hl:m<h.length
 ·rw[ajx hl]at hm;exact hm
 ·rw[ajD (by omega)]at hm;by_cases h0:m-h.length=0
  ·rw[h0]at hm;cases hm;cases hc
  ·rw[ajT (by simp;omega)]at hm;cases hm
theorem agt(hk:cg o=5)(hc:cn P o ρ h C):∃x h1,C x h1∧(gk h h1∧gk h1 h∧gb h h1)∧∀C':AV→akb aq→Prop,C' x h1→cn P o ρ h C':=by
 obtain⟨dst,op,type,pos,after,guard⟩:=o;cases op with
 |call c=>
  simp only[cg]at hk;cases dL:c.callee with
  |value f=>cases kg:nQ f<;>simp [dL,kg]at hk
  |invoke=>simp [dL]at hk
  |builtin b=>
   cases b with
   |append=>
    simp only[cn,dL]at hc;split at hc
    ·rename_i x y T U e1 e2
     rw[bN]at hc;have YK:∀(k:Nat)(y:AV)(F:akb (akb D)→Prop),rY h k y F→∃ys,F ys∧∀F':akb (akb D)→Prop,F' ys→rY h k y F':=fun k y F hF=>by
       unfold rY at hF ⊢;split at hF
       ·split at hF
        ·split at hF
         ·rw[bN]at hF;exact⟨_,hF.2,fun F' jl=>bN.2 ⟨hF.1,jl⟩⟩
         ·exact hF.elim
        ·exact hF.elim
       ·split at hF
        ·exact⟨_,hF.2,fun F' jl=>⟨hF.1,jl⟩⟩
        ·exact hF.elim
     have key:∀F:AV→akb aq→Prop,tE P T h (ρ x) (ρ y) F→∃v h1,F v h1∧(gk h h1∧gk h1 h∧gb h h1)∧∀F':AV→akb aq→Prop,F' v h1→tE P T h (ρ x) (ρ y) F':=fun F hF=>by
      unfold tE at hF ⊢;split at hF
      ·split at hF
       ·rw[bN]at hF;obtain⟨h0,hF⟩:=hF;obtain⟨ys,hF,hs⟩:=YK _ _ _ hF;split at hF
        ·split at hF
         ·rename_i hn
          rw[bN]at hF;obtain⟨g1,g2,g3,g4,g5,g6⟩:=hF;exact⟨_,_,g6,⟨(O5 hn).1,(O5 hn).2,gb.set hn rfl⟩,fun F' jl=>bN.2 ⟨h0,hs _ (bN.2 ⟨g1,g2,g3,g4,g5,jl⟩)⟩⟩
         ·exact hF.elim
        ·obtain⟨g4,g5,g6⟩:=hF;exact⟨_,_,g6,⟨Gy.1,Gy.2,gb.app rfl⟩,fun F' jl=>bN.2 ⟨h0,hs _ ⟨g4,g5,jl⟩⟩⟩
        ·obtain⟨g3,g4,g5,g6⟩:=hF;exact⟨_,_,g6,⟨Gy.1,Gy.2,gb.app rfl⟩,fun F' jl=>bN.2 ⟨h0,hs _ ⟨g3,g4,g5,jl⟩⟩⟩
        ·exact hF.elim
       ·exact hF.elim
      ·exact hF.elim
     obtain⟨v,h1,k1,c1,k2⟩:=key _ hc.2;exact⟨v,h1,k1,c1,fun C' cS=>by simp only[cn,dL,e1,e2];rw[bN];exact⟨hc.1,k2 _ cS⟩⟩
    ·exact hc.elim
   |_=>simp [dL]at hk
 |_=>simp [cg]at hk
theorem Ss{m:Bool}(fV:mV m o=false){s:St}{K:St→Prop}(hd:AL P o K s):∃x h1,dH m P o (ev s) s.h x h1∧K ((s.wh h1).put o.dst x):=by
 have km:lL m o=cg o:=by unfold lL;rw[fV];rfl
 have plain:n5 P o K s→cg o≠4→cg o≠6→∃x h1,dH m P o (ev s) s.h x h1∧K ((s.wh h1).put o.dst x):=fun ha SE CC=>by
  unfold n5 at ha;by_cases h0:cg o=0
  ·obtain⟨x,h1,h2⟩:=ZQ h0 ha;exact⟨x,s.h,by unfold dH;rw[km,h0];exact⟨rfl,fun h' _ C' cS=> .inl (h2 h' C' cS)⟩,h1⟩
  ·by_cases h1:cg o=1
   ·obtain⟨dst,op,type,pos,after,guard⟩:=o;cases op with
    |load t a=>
     simp only[cn]at ha;obtain⟨x,k1,k2⟩:=ahI ha;exact⟨x,s.h,by unfold dH;rw[km,h1];exact⟨rfl,fun h' hh C' cS=> .inl (by simp only[cn];exact k2 h' hh _ cS)⟩,k1⟩
    |lookup t a b ok=>
     simp only[cn]at ha;split at ha
     ·rename_i x h' p hx
      obtain⟨rfl,k2⟩:=adl hx;exact⟨x,s.h,by unfold dH;rw[km,h1];exact⟨rfl,fun h' hh C' cS=> .inl (by simp only[cn,k2 h' hh];exact⟨ha.1,cS⟩)⟩,ha.2⟩
     ·exact ha.elim
    |call c=>
     simp only[cg]at h1;cases dL:c.callee with
     |value f=>cases kg:nQ f<;>simp [dL,kg]at h1
     |invoke=>simp [dL]at h1
     |builtin b=>cases b<;>simp [dL]at h1
    |_=>simp [cg]at h1
   ·by_cases h2:cg o=2
    ·obtain⟨B,kB,k1,k2⟩:=YF h2 ha;exact⟨_,_,by unfold dH;rw[km,h2];exact⟨B,kB,rfl,rfl,fun h' C' cS=> .inl (k2 h' C' cS)⟩,k1⟩
    ·by_cases h3:cg o=3
     ·obtain⟨x,ox,k1,kv,k2⟩:=aaf h3 ha;exact⟨x,ox,by unfold dH;rw[km,h3];exact⟨kv,fun C' cS=> .inl (k2 C' cS)⟩,k1⟩
     ·by_cases h5:cg o=5
      ·obtain⟨x,ox,k1,c1,k2⟩:=agt h5 ha;exact⟨x,ox,by unfold dH;rw[km,h5];exact⟨c1,fun C' cS=> .inl (k2 C' cS)⟩,k1⟩
      exfalso;obtain⟨dst,op,type,pos,after,guard⟩:=o;cases op with
      |call c=>
       simp only[cg]at h0 h3 SE CC h5;simp only[cn]at ha;cases dL:c.callee with
       |value f=>cases kg:nQ f<;>simp [dL,kg]at SE CC
       |invoke=>simp only[dL]at ha
       |builtin b=>cases b<;>simp only[dL]at ha h0 h3 h5<;>first|exact ha|exact absurd rfl h0|exact absurd rfl h3|exact absurd rfl h5|exact h3 trivial|exact h0 trivial|exact h5 trivial
      |_=>first|exact absurd rfl h0|exact absurd rfl h1|exact absurd rfl h2|exact absurd rfl h3|exact ha
 unfold AL at hd;split at hd
 ·rename_i c fa
  split at hd
  ·rename_i f dL
   have fin:∀x:AV,(∀e,∀C':AV→akb aq→Prop,C' x (s.h++e)→cn P o (ev s) (s.h++e) C')→dH m P o (ev s) s.h x s.h:=fun x hx=>by
    have hk:cg o=4∨cg o=6:=by
     unfold cg;simp only[fa,dL];cases nQ f<;>simp
    unfold dH;rw[km];rcases hk with hk|hk
    ·rw[hk];exact⟨rfl,fun e C' cS=> .inl (hx e C' cS)⟩
    ·rw[hk];refine⟨[],(ajI _).symm,fun C' cS=> .inl ?_⟩;have:=hx [] C' (by rw[ajI];exact cS)
     rwa [ajI]at this
   split at hd
   ·rename_i g cV hg
    obtain⟨x,hK,jd⟩:=hd;refine⟨x,s.h,fin x fun e C' cS=> ?_,hK⟩;unfold cn;simp only[fa,dL,hg];exact(jd e).mono fun r' h' ⟨e1,e2⟩=>by subst e1;subst e2;exact cS
   ·rename_i q hg
    obtain⟨g,cs,rfl,x,hK,jd⟩:=hd;refine⟨x,s.h,fin x fun e C' cS=> ?_,hK⟩;unfold cn;simp only[fa,dL,hg];exact⟨g,cs,rfl,(jd e).mono fun r' h' ⟨e1,e2⟩=>by subst e1;subst e2;exact cS⟩
   ·exact hd.elim
  ·rename_i dL
   exact plain hd (by
    unfold cg;simp only[fa];cases hc:c.callee with
    |value f=>exact absurd hc (dL f)
    |invoke=>simp
    |builtin b=>cases b<;>simp) (by
    unfold cg;simp only[fa];cases hc:c.callee with
    |value f=>exact absurd hc (dL f)
    |invoke=>simp
    |builtin b=>cases b<;>simp)
 ·rename_i fa
  exact plain hd (by
   unfold cg;split<;>first|(rename_i c hc;exact(fa c hc).elim)|simp) (by
   unfold cg;split<;>first|(rename_i c hc;exact(fa c hc).elim)|simp)
theorem Vn{m:Bool}{h1:akb aq}{x:AV}(h0:dH m P o ρ h x h1):∀C:AV→akb aq→Prop,C x h1→gQ P o ρ h C:=fun C hC=>by
 unfold dH at h0;split at h0
 ·obtain⟨e,h0⟩:=h0;subst e;exact h0 _ (gm.refl _) _ hC
 ·obtain⟨e,h0⟩:=h0;subst e;exact h0 _ (gk.refl _) _ hC
 ·obtain⟨B,_,rfl,rfl,h0⟩:=h0;exact h0 _ _ hC
 ·exact h0.2 _ hC
 ·obtain⟨e,h0⟩:=h0;subst e;have:=h0 [] C (by rw[ajI];exact hC)
  rwa [ajI]at this
 ·exact h0.2 _ hC
 ·obtain⟨e0,_,h0⟩:=h0;exact h0 _ hC
 ·exact h0 _ hC
 ·exact h0.elim
theorem MD{m:Bool}{s:St}{K:St→Prop}(hd:xU m P o K s):∃x h1,dH m P o (ev s) s.h x h1∧K ((s.wh h1).put o.dst x):=by
 cases fV:mV m o with
 |true=>
  have k7:lL m o=7:=by unfold lL;rw[fV];rfl
  rcases hd with hd|⟨_,x,h1,hK,hc⟩|⟨hv,_⟩|⟨_,x,e0,hK,hc⟩
  ·obtain⟨x,h1,h2,hK⟩:=Ss (m:=false) rfl hd;refine⟨x,h1,?_,hK⟩;have:=Vn h2;unfold dH;rw[k7];exact this
  ·exact⟨x,h1,by unfold dH;rw[k7];exact fun C hC=> .inl (hc C hC),hK⟩
  ·exfalso;unfold mV at fV;rw[ajp]at fV;unfold iz at hv;have fV:=fV.2;split at fV
   ·next c e=>
    rw[e]at hv;split at fV
    ·next f e2=>simp only[e2]at hv;cases hv
    ·cases fV
   ·cases fV
  ·exact⟨x,_,by unfold dH;rw[k7];exact fun C hC=> .inl (hc C hC),hK⟩
 |false=>
 have km:lL m o=cg o:=by unfold lL;rw[fV];rfl
 rcases hd with hd|⟨hb,_⟩|⟨hv,a,x,h',p,hx,hp,hK⟩|⟨hk,x,e0,hK,hc⟩
 ·exact Ss fV hd
 ·rw[fV]at hb;cases hb
 ·have hk:cg o=0∨cg o=1∨cg o=3:=by
   unfold iz at hv;unfold cg;split at hv
   all_goals first|(next e=>simp only[e];simp)|skip
   ·next c e=>
    split at hv
    ·next e2=>simp only[e,e2];simp
    ·cases hv
   ·cases hv
  rcases hk with hk|hk|hk
  ·obtain⟨rfl,h2⟩:=acF hv hk hx hp;refine⟨x,_,?_,hK⟩;unfold dH;rw[km,hk];exact⟨rfl,fun h' hh C hC=> .inr ⟨hv,a,x,h',by obtain⟨p',q1,q2⟩:=h2 h' hh;exact⟨p',q1,q2,hC⟩⟩⟩
  ·obtain⟨rfl,h2⟩:=Za hv hk hx hp;refine⟨x,_,?_,hK⟩;unfold dH;rw[km,hk];exact⟨rfl,fun h' hh C hC=> .inr ⟨hv,a,x,h',by obtain⟨p',q1,q2⟩:=h2 h' hh;exact⟨p',q1,q2,hC⟩⟩⟩
  ·refine⟨x,h',?_,hK⟩;unfold dH;rw[km,hk];exact⟨YW hv hk hx hp,fun C hC=> .inr ⟨hv,a,x,h',p,hx,hp,hC⟩⟩
 ·refine⟨x,_,?_,hK⟩;unfold dH;rw[km,hk];exact⟨e0,rfl,fun C hC=> .inl (hc C hC)⟩
end
structure gr(s s':St):Prop where
 n:s.n=s'.n
 h:s.h=s'.h
 t:∀i,bB s.t i=bB s'.t i
theorem gr.refl(s:St):gr s s:=⟨rfl,rfl,fun _=>rfl⟩
theorem gr.symm{s s':St}(h:gr s s'):gr s' s:=⟨h.n.symm,h.h.symm,fun i=>(h.t i).symm⟩
theorem gr.trans{a b c:St}(h:gr a b)(k:gr b c):gr a c:=⟨h.n.trans k.n,h.h.trans k.h,fun i=>(h.t i).trans (k.t i)⟩
theorem pI(s:St)(d:akd Nat)(x:AV)(i:Nat):bB (s.put d x).t i=if d=some i∧i<s.n then x else bB s.t i:=by
 cases d with
 |none=>simp [St.put]
 |some k=>
  by_cases hk:k<s.n
  ·rw[rS hk,lK];by_cases hi:i=k
   ·subst hi;simp [hk]
   ·rw[if_neg hi,if_neg (by simp;intro e;exact absurd e.symm hi)]
  ·rw[Cd hk];rw[if_neg (by rintro⟨e,aX⟩;cases e;exact hk aX)]
theorem n8(s:St)(d:akd Nat)(x:AV):(s.put d x).n=s.n:=by
 cases d with
 |none=>rfl
 |some k=>
  by_cases hk:k<s.n
  ·rw[rS hk]
  ·rw[Cd hk]
theorem B4(s:St)(d:akd Nat)(x:AV):(s.put d x).h=s.h:=by
 cases d with
 |none=>rfl
 |some k=>
  by_cases hk:k<s.n
  ·rw[rS hk]
  ·rw[Cd hk]
theorem gr.put{s s':St}(h:gr s s')(h1:akb aq)(d:akd Nat)(x:AV):gr ((s.wh h1).put d x) ((s'.wh h1).put d x):=
 ⟨by rw[n8,n8];exact h.n,by rw[B4,B4];rfl,fun i=>by
  rw[pI,pI];show(if d=some i∧i<s.n then x else bB s.t i)=(if d=some i∧i<s'.n then x else bB s'.t i);rw[h.n,h.t]⟩
theorem W2(s:St)(h1 ox h2:akb aq){d d':akd Nat}(x x':AV)(cu:∀k,d=some k→d'≠some k):gr ((((s.wh h1).put d x).wh h2).put d' x') ((((s.wh ox).put d' x').wh h2).put d x):=by
 refine⟨by simp only[n8];show((s.wh h1).put d x).n=((s.wh ox).put d' x').n;simp only[n8];rfl,by simp only[B4];rfl,fun i=> ?_⟩;rw[pI,pI];show(if d'=some i∧i<((s.wh h1).put d x).n then x' else bB ((s.wh h1).put d x).t i)=(if d=some i∧i<((s.wh ox).put d' x').n then x else bB ((s.wh ox).put d' x').t i);rw[n8,n8,pI,pI];show(if d'=some i∧i<s.n then x' else(if d=some i∧i<s.n then x else bB s.t i))=(if d=some i∧i<s.n then x else(if d'=some i∧i<s.n then x' else bB s.t i));by_cases a:d=some i
 ·have:=cu i a;simp [a,this]
 ·simp [a]
section
variable {P:ake} {ops:Array Oper}
def lM(m:Bool)(P:ake)(ops:Array Oper)(o:Oper)(s:St)(x:AV)(h1:akb aq):Prop:=
 (aGuard ops o s True False∧dH m P o (ev s) s.h x h1)∨(aGuard ops o s False True∧x= .d (.v undef)∧h1=s.h)
theorem Mp{o:Oper}{s:St}{yes no:Prop}(h:aGuard ops o s yes no):(aGuard ops o s True False∧yes)∨(aGuard ops o s False True∧no):=by
 unfold aGuard at h ⊢;split at h
 ·exact .inl ⟨trivial,h⟩
 ·rename_i j want hg
  split at h
  ·rename_i d hd
   split at h
   ·rename_i b hb
    by_cases uR:b=want
    ·exact .inl ⟨⟨fun _=>trivial,fun e=>by subst uR;cases b<;>cases e⟩,h.1 uR⟩
    ·have X4:b= !want:=by cases b<;>cases want<;>simp_all
     exact .inr ⟨⟨fun e=>(uR e).elim,fun _=>trivial⟩,h.2 X4⟩
   ·exact .inr ⟨trivial,h⟩
   ·exact h.elim
  ·exact h.elim
theorem AU{o:Oper}{s s':St}{yes no:Prop}(ht:∀d,d∈o.looksAt ops→bB s'.t d=bB s.t d)(h:aGuard ops o s yes no):aGuard ops o s' yes no:=by
 unfold aGuard at h ⊢;split at h
 ·exact h
 ·rename_i j want hg
  split at h
  ·rename_i d hd
   have:bB s'.t d=bB s.t d:=ht d (by unfold Oper.looksAt;rw[hg];simp [hd]);rw[this];exact h
  ·exact h.elim
theorem NT{m:Bool}{o:Oper}{s s':St}{x:AV}{h1:akb aq}(ht:∀d,d∈o.looksAt ops→bB s'.t d=bB s.t d)(hh:s'.h=s.h)(h:lM m P ops o s x h1):lM m P ops o s' x h1:=by
 have cT:∀y∈o.op.operands,ev s y=ev s' y:=fun y hy=>by
  cases y with
  |tmp t=>exact(ht t (by unfold Oper.looksAt;refine ajZ.2 (.inl (List.mem_filterMap.2 ⟨.tmp t,Array.mem_toList_iff.2 hy,rfl⟩)))).symm
  |_=>rfl
 rcases h with⟨g,hc⟩|⟨g,e1,e2⟩
 ·refine .inl ⟨AU ht g,?_⟩;rw[hh];have th:∀h C,gQ P o (ev s) h C=gQ P o (ev s') h C:=fun h C=>Oa cT;unfold dH at hc ⊢;split at hc
  ·exact⟨hc.1,fun h' hh C hC=>th h' C▸hc.2 h' hh C hC⟩
  ·exact⟨hc.1,fun h' hh C hC=>th _ C▸hc.2 h' hh C hC⟩
  ·obtain⟨B,kB,a,b,c⟩:=hc;exact⟨B,kB,a,b,fun h' C hC=>th h' C▸c h' C hC⟩
  ·exact⟨hc.1,fun C hC=>th _ C▸hc.2 C hC⟩
  ·exact⟨hc.1,fun e C hC=>th _ C▸hc.2 e C hC⟩
  ·exact⟨hc.1,fun C hC=>th _ C▸hc.2 C hC⟩
  ·obtain⟨e0,a,b⟩:=hc;exact⟨e0,a,fun C hC=>th _ C▸b C hC⟩
  ·exact fun C hC=>th _ C▸hc C hC
  ·exact hc.elim
 ·exact .inr ⟨AU ht g,e1,e2.trans hh.symm⟩
theorem P9{o:Oper}(h:cg o=7):False:=by
 unfold cg at h
 repeat' (first|(split at h)|cases h)
 all_goals (cases hg:nQ _<;>rw[hg]at h<;>cases h)
theorem ahi{m:Bool}{o:Oper}{ρ:Operand→AV}{h h1:akb aq}{x:AV}(h7:mV m o=false)(h0:dH m P o ρ h x h1):gm h h1:=by
 unfold dH at h0;unfold lL at h0;rw[h7]at h0;simp only[cond_false]at h0;split at h0
 ·rw[h0.1];exact gm.refl _
 ·rw[h0.1];exact gm.refl _
 ·obtain⟨B,kB,_,e,_⟩:=h0;rw[e];exact(gb.app kB).i
 ·exact h0.1.i
 ·rw[h0.1];exact gm.refl _
 ·exact h0.1.2.2.i
 ·obtain⟨e0,e,_⟩:=h0;rw[e];exact gm.app _ _
 ·next e=>exact(P9 e).elim
 ·exact h0.elim
theorem Y8{m:Bool}{o:Oper}{ρ:Operand→AV}{h h1:akb aq}{x:AV}(h7:mV m o=false)(hk:cg o≠6)(h0:dH m P o ρ h x h1):gm h1 h:=by
 unfold dH at h0;unfold lL at h0;rw[h7]at h0;simp only[cond_false]at h0;split at h0
 ·rw[h0.1];exact gm.refl _
 ·rw[h0.1];exact gm.refl _
 ·obtain⟨B,kB,_,e,_⟩:=h0;rw[e];exact(gb.app kB).j
 ·exact h0.1.j
 ·rw[h0.1];exact gm.refl _
 ·exact h0.1.2.2.j
 ·next e=>exact(hk e).elim
 ·next e=>exact(P9 e).elim
 ·exact h0.elim
def As(m:Bool)(a b:Oper):Bool:= !mV m a&& !mV m b&&(cg a==0||(cg b==0&& !(cg a==6))||((cg a==1||cg a==4)&&(cg b==1||cg b==4||cg b==2||cg b==6))||(cg a==1&&cg b==5)||(cg a==5&&cg b==1))
theorem swap{m:Bool}{oi oj:Oper}{s:St}{xi xj:AV}{hi hj:akb aq}(Hy:oi.apart ops oj=true)(jK:As m oi oj=true)(h1:lM m P ops oi s xi hi)(h2:lM m P ops oj ((s.wh hi).put oi.dst xi) xj hj):
 ∃gY,lM m P ops oj s xj gY∧lM m P ops oi ((s.wh gY).put oj.dst xj) xi hj:=by
 obtain⟨a1,a2,a3⟩:=Oper.apart_spec Hy;unfold As at jK;rw[ajp,ajp,Bool.not_eq_true',Bool.not_eq_true']at jK;obtain⟨⟨li,lj⟩,jK⟩:=jK;have nN:lL m oi=cg oi:=by unfold lL;rw[li];rfl
 have rb:lL m oj=cg oj:=by unfold lL;rw[lj];rfl
 have tj:∀d,d∈oj.looksAt ops→bB s.t d=bB ((s.wh hi).put oi.dst xi).t d:=fun d hd=>by
  rw[pI,if_neg (fun e=>a1 d e.1 hd)];rfl
 have ti:∀(h':akb aq) d,d∈oi.looksAt ops→bB ((s.wh h').put oj.dst xj).t d=bB s.t d:=fun h' d hd=>by
  rw[pI,if_neg (fun e=>a3 d e.1 hd)];rfl
 have dS:((s.wh hi).put oi.dst xi).h=hi:=by rw[B4];rfl
 have qt:∀h',((s.wh h').put oj.dst xj).h=h':=fun h'=>by rw[B4];rfl
 have same:hi=s.h→lM m P ops oj s xj hj:=fun e=>NT tj (by rw[dS,e]) h2;have YH:∀h',∀y∈oi.op.operands,ev ((s.wh h').put oj.dst xj) y=ev s y:=fun h' y hy=>by
  cases y with
  |tmp t=>exact ti h' t (by unfold Oper.looksAt;refine ajZ.2 (.inl (List.mem_filterMap.2 ⟨.tmp t,Array.mem_toList_iff.2 hy,rfl⟩)))
  |_=>rfl
 have evj:∀y∈oj.op.operands,ev ((s.wh hi).put oi.dst xi) y=ev s y:=fun y hy=>by
  cases y with
  |tmp t=>exact(tj t (by unfold Oper.looksAt;refine ajZ.2 (.inl (List.mem_filterMap.2 ⟨.tmp t,Array.mem_toList_iff.2 hy,rfl⟩)))).symm
  |_=>rfl
 have ci:∀h' h C,gQ P oi (ev ((s.wh h').put oj.dst xj)) h C=gQ P oi (ev s) h C:=fun h' h C=>Oa (YH h');have cj:∀h C,gQ P oj (ev ((s.wh hi).put oi.dst xi)) h C=gQ P oj (ev s) h C:=fun h C=>Oa evj;rcases h1 with⟨g1,o1⟩|⟨g1,e1,e2⟩
 ·rcases h2 with⟨g2,o2⟩|⟨g2,f1,f2⟩
  ·
   have C1:∀h',aGuard ops oi ((s.wh h').put oj.dst xj) True False:=fun h'=>AU (ti h') g1;have V6:aGuard ops oj s True False:=AU tj g2;by_cases k0:cg oi=0
   ·unfold dH at o1;rw[nN,k0]at o1;simp only at o1;obtain⟨e,o1⟩:=o1;refine⟨hj,same e, .inl ⟨C1 hj,?_⟩⟩;unfold dH;rw[nN,k0];have hv:gm s.h hj:=by
     have:=ahi lj o2;rw[dS,e]at this;exact this
    exact⟨(qt hj).symm,fun h' hh C hC=>by rw[qt]at hh;rw[ci];exact o1 h' (hv.trans hh) C hC⟩
   ·by_cases k1:cg oj=0
    ·unfold dH at o2;rw[rb,k1]at o2;simp only at o2;obtain⟨e,o2⟩:=o2;rw[dS]at e o2;have k6:cg oi≠6:=fun k6=>by
      simp [k6,k1]at jK
     have hv:=Y8 li k6 o1;refine⟨s.h, .inl ⟨V6,?_⟩, .inl ⟨C1 s.h,?_⟩⟩
     ·unfold dH;rw[rb,k1];exact⟨rfl,fun h' hh C hC=>by rw[←cj];exact o2 h' (hv.trans hh) C hC⟩
     ·rw[e];unfold dH at o1 ⊢;rw[qt];simp only[ci];exact o1
    ·by_cases PK:cg oi=1∧cg oj=5
     ·obtain⟨ka,kb⟩:=PK;unfold dH at o1 o2;rw[nN,ka]at o1;rw[rb,kb]at o2;simp only at o1 o2;obtain⟨e,o1⟩:=o1;obtain⟨⟨c1,c2,_⟩,o2⟩:=o2;rw[dS,e]at c1 c2;refine⟨hj,same e, .inl ⟨C1 hj,?_⟩⟩;unfold dH;rw[nN,ka];simp only;refine⟨(qt hj).symm,fun h' hh C hC=> ?_⟩;rw[qt]at hh;rw[ci];exact o1 h' (fun n cs hn hq=>hh n cs (c1 n cs hn hq) hq) C hC
     by_cases Pl:cg oi=5∧cg oj=1
     ·obtain⟨ka,kb⟩:=Pl;unfold dH at o1 o2;rw[nN,ka]at o1;rw[rb,kb]at o2;simp only at o1 o2;obtain⟨⟨c1,c2,c3⟩,o1⟩:=o1;obtain⟨e,o2⟩:=o2;rw[dS]at e o2;refine⟨s.h, .inl ⟨V6,?_⟩, .inl ⟨C1 s.h,?_⟩⟩
      ·unfold dH;rw[rb,kb];simp only;exact⟨trivial,fun h' hh C hC=>by rw[←cj];exact o2 h' (fun n cs hn hq=>hh n cs (c2 n cs hn hq) hq) C hC⟩
      ·rw[e];unfold dH;rw[nN,ka];simp only;rw[qt];exact⟨⟨c1,c2,c3⟩,fun C hC=>by rw[ci];exact o1 C hC⟩
     have hc:(cg oi=1∨cg oi=4)∧(cg oj=1∨cg oj=4∨cg oj=2∨cg oj=6):=by
      simp only[Bool.or_eq_true,ajp,beq_iff_eq,k0,k1,false_or,false_and]at jK;rcases jK with(jK|jK)|jK
      ·refine⟨jK.1,?_⟩;rcases jK.2 with((h|h)|h)|h
       ·exact .inl h
       ·exact .inr (.inl h)
       ·exact .inr (.inr (.inl h))
       ·exact .inr (.inr (.inr h))
      ·exact absurd jK PK
      ·exact absurd jK Pl
     have q1:hi=s.h∧∀e(C:AV→akb aq→Prop),C xi (s.h++e)→gQ P oi (ev s) (s.h++e) C:=by
      unfold dH at o1;rcases hc.1 with k|k
      ·rw[nN,k]at o1;exact⟨o1.1,fun e C hC=>o1.2 _ (gk.app _ _) C hC⟩
      ·rw[nN,k]at o1;exact o1
     have q2:∃e0,hj=s.h++e0:=by
      have pH:=o2;unfold dH at pH;rcases hc.2 with k|k|k|k
      ·rw[rb,k]at pH;exact⟨[],by rw[pH.1,dS,q1.1,ajI]⟩
      ·rw[rb,k]at pH;exact⟨[],by rw[pH.1,dS,q1.1,ajI]⟩
      ·rw[rb,k]at pH;obtain⟨B,_,_,b,_⟩:=pH;exact⟨[B],by rw[b,dS,q1.1]⟩
      ·rw[rb,k]at pH;obtain⟨e0,b,_⟩:=pH;exact⟨e0,by rw[b,dS,q1.1]⟩
     obtain⟨e0,BP⟩:=q2;refine⟨hj,same q1.1, .inl ⟨C1 hj,?_⟩⟩;have:∀e(C:AV→akb aq→Prop),C xi (hj++e)→gQ P oi (ev ((s.wh hj).put oj.dst xj)) (hj++e) C:=fun e C hC=>by
      rw[ci,BP,ajE];rw[BP,ajE]at hC;exact q1.2 _ C hC
     unfold dH;rw[qt];rcases hc.1 with k|k
     ·rw[nN,k];simp only;refine⟨trivial,fun h' hh C hC=> ?_⟩;rw[ci];unfold dH at o1;rw[nN,k]at o1;exact o1.2 h' (fun n cs hn hq=>hh n cs (by rw[BP];exact gk.app _ _ n cs hn hq) hq) C hC
     ·rw[nN,k];exact⟨rfl,this⟩
  ·
   subst f1;rw[dS]at f2;refine⟨s.h, .inr ⟨AU tj g2,rfl,rfl⟩,?_⟩;rw[f2];exact NT (ti s.h) (by rw[qt]) (.inl ⟨g1,o1⟩)
 ·
  subst e1;refine⟨hj,same e2, .inr ⟨AU (ti hj) g1,rfl,(qt hj).symm⟩⟩
def sJ(K:St→Prop):Prop:=∀s s',gr s s'→K s→K s'
def l6(m:Bool)(P:ake)(ops:Array Oper)(K:St→Prop):Nat→Array Bool→St→Prop
 |0,listed,s=>Region.ready .any ops listed=[]∧K s
 |fuel+1,listed,s=>
  (Region.ready .any ops listed=[]→K s)∧
  ∀i∈Region.ready .any ops listed,∀o,ops[i]?=some o→∃x h1,lM m P ops o s x h1∧l6 m P ops K fuel (listed.setIfInBounds i true) ((s.wh h1).put o.dst x)
theorem R3{m:Bool}{K:St→Prop}(hK:sJ K):∀(fuel:Nat)(listed:Array Bool)(s s':St),gr s s'→l6 m P ops K fuel listed s→l6 m P ops K fuel listed s'
 |0,_,s,s',hs,h=>⟨h.1,hK s s' hs h.2⟩
 |fuel+1,_,s,s',hs,h=>⟨fun h0=>hK s s' hs (h.1 h0),fun i hi o ho=>by
  obtain⟨x,h1,h2,h3⟩:=h.2 i hi o ho;exact⟨x,h1,NT (fun d _=>(hs.t d).symm) hs.h.symm h2,R3 hK fuel _ _ _ (hs.put h1 o.dst x) h3⟩⟩
def pJ(M:Array Nat)(ops:Array Oper):Bool:=
 (List.range ops.size).all fun j=>(List.range ops.size).all fun i=> !(M.getD j 0).testBit i||match ops[j]? with
  |some o=>o.after.any fun e=>Region.binds .any e&&decide (e.on<j)&&(e.on==i||(M.getD e.on 0).testBit i)
  |none=>false
def Dn(ops:Array Oper)(listed:Array Bool):Prop:=∀(j:Nat)(o:Oper),ops[j]?=some o→listed.getD j false=true→∀e∈o.after,Region.binds .any e=true→listed.getD e.on false=true
theorem aef{M:Array Nat}(hM:pJ M ops=true){listed:Array Bool}(hD:Dn ops listed):∀(j i:Nat)(o:Oper),i<ops.size→ops[j]?=some o→(∀e∈o.after,Region.binds .any e=true→listed.getD e.on false=true)→(M.getD j 0).testBit i=true→listed.getD i false=true:=by
 intro j
 induction j using Nat.strongRecOn with
 |_ j ih=>
  intro i o hi ho hp hb;unfold pJ at hM;simp only[ajN,List.mem_range]at hM;have h1:=hM j (ajC.1 ho).1 i hi;rw[hb,ho]at h1;simp only[Bool.not_true,Bool.false_or]at h1;rw[Array.any_eq_true']at h1;obtain⟨e,he,h2⟩:=h1;simp only[ajp,decide_eq_true_eq,Bool.or_eq_true,beq_iff_eq]at h2;obtain⟨⟨Ii,aX⟩,h3⟩:=h2;have hl:=hp e he Ii;rcases h3 with h3|h3
  ·rw[←h3];exact hl
  ·have IQ:e.on<ops.size:=Nat.lt_trans aX (ajC.1 ho).1;exact ih e.on aX i ops[e.on] hi (ajJ IQ) (hD e.on _ (ajJ IQ) hl) h3
theorem Dn.set{listed:Array Bool}(hD:Dn ops listed){i:Nat}(hr:i∈Region.ready .any ops listed):Dn ops (listed.setIfInBounds i true):=by
 intro j o ho hj e he hb;refine getD_set_true ?_;by_cases nV:i=j
 ·subst nV;obtain⟨_,o',fh,dW⟩:=mem_ready.1 hr;rw[ho]at fh;cases fh;exact dW e he hb
 ·rw[getD_set_ne false nV]at hj;exact hD j o ho hj e he hb
theorem N3{m:Bool}{K:St→Prop}(hK:sJ K){M:Array Nat}(hM:pJ M ops=true){i:Nat}{oi:Oper}{x:AV}{h1:akb aq}(hi:ops[i]?=some oi):
 ∀(fuel:Nat)(listed:Array Bool)(s:St),Dn ops listed→
  (∀j oj,ops[j]?=some oj→j≠i→listed.getD j true=false→(M.getD j 0).testBit i=false→oi.apart ops oj=true∧As m oi oj=true)→
  i∈Region.ready .any ops listed→lM m P ops oi s x h1→l6 m P ops K fuel (listed.setIfInBounds i true) ((s.wh h1).put oi.dst x)→l6 m P ops K (fuel+1) listed s:=by
 intro fuel
 induction fuel generalizing x h1 with
 |zero=>
  intro listed s _ _ hr hy H;refine⟨fun h=>(by rw[h]at hr;cases hr),fun j hj o ho=> ?_⟩;by_cases sZ:j=i
  ·subst sZ;rw[hi]at ho;cases ho;exact⟨x,h1,hy,H⟩
  ·have:=ready_mono hj sZ;rw[H.1]at this;cases this
 |succ fuel ih=>
  intro listed s hD PJ hr hy H;refine⟨fun h=>(by rw[h]at hr;cases hr),fun j hj oj xC=> ?_⟩;by_cases sZ:j=i
  ·subst sZ;rw[hi]at xC;cases xC;exact⟨x,h1,hy,H⟩
  ·obtain⟨xj,Zn,My,H2⟩:=H.2 j (ready_mono hj sZ) oj xC;obtain⟨V3,oj',Vd,dW⟩:=mem_ready.1 hj;rw[xC]at Vd;cases Vd;have sP:=(ajC.1 hi).1;have pY:listed.getD i false=false:=by
    have h0:=(mem_ready.1 hr).1;rcases Nat.lt_or_ge i listed.size with h'|h'
    ·simpa [h']using h0
    ·simp [Array.getElem?_eq_none h']at h0
   have jm:(M.getD j 0).testBit i=false:=by
    cases hb:(M.getD j 0).testBit i with
    |false=>rfl
    |true=>rw[aef hM hD j i oj sP xC dW hb]at pY;cases pY
   obtain⟨Hy,jK⟩:=PJ j oj xC sZ V3 jm;obtain⟨gY,s1,s2⟩:=swap Hy jK hy My;obtain⟨_,a2,_⟩:=Oper.apart_spec Hy;refine⟨xj,gY,s1,ih (listed.setIfInBounds j true) _ (hD.set hj) (fun k ok hk NC QM uz=> ?_) (ready_mono hr (Ne.symm sZ)) s2 ?_⟩
   ·refine PJ k ok hk NC ?_ uz;by_cases H6:j=k
    ·subst H6;exact V3
    ·rw[getD_set_ne true H6]at QM;exact QM
   ·rw[Array.setIfInBounds_comm _ _ sZ];exact R3 hK _ _ _ _ (W2 s h1 gY Zn x xj (fun k hk=>a2 k hk)) H2
def Vh(M:Array Nat)(ops:Array Oper)(k:Nat):Bool:=
 match ops[k]? with
 |none=>false
 |some oi=>(List.range ops.size).all fun j=>decide (j≤k)||(M.getD j 0).testBit k||match ops[j]? with
  |some oj=>oi.apart ops oj&&As false oi oj
  |none=>true
def Bp(M:Array Nat)(ops:Array Oper):Nat→Nat→Array Bool→Bool
 |0,_,listed=>(Region.ready .any ops listed).isEmpty
 |fuel+1,k,listed=>(Region.ready .any ops listed).contains k&&Vh M ops k&&Bp M ops fuel (k+1) (listed.setIfInBounds k true)
def q9(ops:Array Oper):Bool:=pJ (Region.before ops) ops&&Bp (Region.before ops) ops ops.size 0 (Array.replicate ops.size false)
theorem Uz{K K':St→Prop}(hK:sJ K')(Ei:∀s,K s→K' s){M:Array Nat}(hM:pJ M ops=true):∀(l:akb Oper)(k:Nat)(listed:Array Bool)(s:St),(∀j,l[j]?=ops[k+j]?)→(∀j,j<k→listed.getD j true=true)→Dn ops listed→
 Bp M ops l.length k listed=true→Bb P ops l K s→l6 false P ops K' l.length listed s
 |[],_,_,_,_,_,_,hB,h=>⟨by simpa [Bp]using hB,Ei _ h⟩
 |o::l,k,listed,s,hl,nc,hD,hB,h=>by
  have h0:ops[k]?=some o:=by simpa using (hl 0).symm
  simp only[ajq,Bp,ajp]at hB;obtain⟨⟨hr,hf⟩,dA⟩:=hB;have nj:k∈Region.ready .any ops listed:=by simpa using hr
  have zC:∀j,l[j]?=ops[k+1+j]?:=fun j=>by have:=hl (j+1);simpa [Nat.add_assoc,Nat.add_comm 1 j]using this
  have aci:∀j,j<k+1→(listed.setIfInBounds k true).getD j true=true:=fun j hj=>by
   by_cases e:k=j
   ·subst e;rcases Nat.lt_or_ge k listed.size with h'|h'
    ·simp [h']
    ·have:(listed.setIfInBounds k true)[k]?=none:=Array.getElem?_eq_none (by simpa using h');rw[Array.getD_eq_getD_getElem?,this];rfl
   ·rw[getD_set_ne true e];exact nc j (by omega)
  obtain⟨x,h1,hy,Aa⟩:∃x h1,lM false P ops o s x h1∧Bb P ops l K ((s.wh h1).put o.dst x):=by
   rcases Mp h with⟨g,hd⟩|⟨g,hd⟩
   ·obtain⟨x,h1,h2,h3⟩:=MD hd;exact⟨x,h1, .inl ⟨g,h2⟩,h3⟩
   ·exact⟨_,s.h, .inr ⟨g,rfl,rfl⟩,hd⟩
  refine N3 hK hM h0 l.length listed s hD (fun j oj hj cu pY uz=> ?_) nj hy (Uz hK Ei hM l (k+1) _ _ zC aci (hD.set nj) dA Aa);unfold Vh at hf;rw[h0]at hf;simp only[ajN,List.mem_range]at hf;have:=hf j (ajC.1 hj).1;rw[uz,hj]at this;simp only[Bool.or_false,Bool.or_eq_true,ajp,decide_eq_true_eq]at this;rcases this with this|this
  ·exfalso;have:=nc j (by omega);rw[this]at pY;cases pY
  ·exact this
def WM(ops:Array Oper):Nat→Array Bool→akb Nat
 |0,_=>[]
 |f+1,listed=>match (Region.ready .any ops listed).find? (fun k=>match ops[k]? with|some o=> !(cg o==6)&& !mV true o|none=>false)with
  |some k=>k::WM ops f (listed.setIfInBounds k true)
  |none=>match Region.ready .any ops listed with
   |k::_=>k::WM ops f (listed.setIfInBounds k true)
   |[]=>[]
def AX(m:Bool)(M:Array Nat)(ops:Array Oper):akb Nat→Array Bool→Bool
 |[],listed=>(Region.ready .any ops listed).isEmpty
 |k::l,listed=>(Region.ready .any ops listed).contains k&&(match ops[k]? with
  |none=>false
  |some oi=>(List.range ops.size).all fun j=>j==k||listed.getD j true||(M.getD j 0).testBit k||match ops[j]? with
   |some oj=>oi.apart ops oj&&As m oi oj
   |none=>true)&&AX m M ops l (listed.setIfInBounds k true)
def IM(m:Bool)(ops:Array Oper)(p:akb Nat):Bool:=pJ (Region.before ops) ops&&AX m (Region.before ops) ops p (Array.replicate ops.size false)
def qI(ops:Array Oper):akb Nat→akb Oper
 |[]=>[]
 |k::l=>match ops[k]? with
  |some o=>o::qI ops l
  |none=>qI ops l
theorem Qr{m:Bool}{K K':St→Prop}(hK:sJ K')(Ei:∀s,K s→K' s){M:Array Nat}(hM:pJ M ops=true):∀(l:akb Nat)(listed:Array Bool)(s:St),Dn ops listed→
 AX m M ops l listed=true→tJ m P ops (qI ops l) K s→l6 m P ops K' l.length listed s
 |[],_,_,_,hB,h=>⟨by simpa [AX]using hB,Ei _ h⟩
 |k::l,listed,s,hD,hB,h=>by
  simp only[AX,ajp]at hB;obtain⟨⟨hr,hf⟩,dA⟩:=hB;have nj:k∈Region.ready .any ops listed:=by simpa using hr
  obtain⟨_,o,h0,_⟩:=mem_ready.1 nj;rw[h0]at hf;simp only[ajN,List.mem_range]at hf;simp only[qI,h0]at h;obtain⟨x,h1,hy,Aa⟩:∃x h1,lM m P ops o s x h1∧tJ m P ops (qI ops l) K ((s.wh h1).put o.dst x):=by
   rcases Mp h with⟨g,hd⟩|⟨g,hd⟩
   ·obtain⟨x,h1,h2,h3⟩:=MD hd;exact⟨x,h1, .inl ⟨g,h2⟩,h3⟩
   ·exact⟨_,s.h, .inr ⟨g,rfl,rfl⟩,hd⟩
  refine N3 hK hM h0 l.length listed s hD (fun j oj hj cu pY uz=> ?_) nj hy (Qr hK Ei hM l _ _ (hD.set nj) dA Aa);have:=hf j (ajC.1 hj).1;rw[uz,pY,hj]at this;simp only[Bool.or_false,Bool.or_eq_true,ajp,beq_iff_eq]at this;rcases this with this|this
  ·exact absurd this cu
  ·exact this
end
section
variable {P:ake} {r:akd Nat} {n N0:Nat} {G:Gh} {w:akg} {a:Act} {s:St} {o:Oper} {Q:Exit→St→Prop}
theorem cx.drew(hs:cx G w a s):bP G.N G w G {w with drawn:=w.drawn+1}∧cx G {w with drawn:=w.drawn+1} a s:=by
 have hE:bP G.N G w G {w with drawn:=w.drawn+1}:=⟨ajy _,fun _ _ h=>h,fun _ _ _=>rfl,fun _ _=>rfl,fun _ _=> .inl ⟨rfl,rfl⟩,fJ rfl,fun _ _=>rfl,rfl,rfl,rfl,fun _ _ h=> .inl h⟩;have hi:bV G {w with drawn:=w.drawn+1} s.h:=⟨hs.inv.len,hs.inv.z,hs.inv.S,fun n B hB=>dC.bn (hs.inv.lt hB) hE (ajy _) ⟨rfl,rfl,rfl⟩ (fun _ _=>⟨rfl,fun _ h=>h⟩) (hs.inv.cU n B hB),hs.inv.inj,hs.inv.gl.bn hE⟩;exact⟨hE,hs.move hE (ajy _) hi⟩
theorem ZK{m:Bool}{x:AV}{h1:akb aq}(h:dH m P o (ev s) s.h x h1):gQ P o (ev s) s.h (fun x' h'=>(s.wh h').put o.dst x'=(s.wh h1).put o.dst x):=Vn h _ rfl
theorem EA{m:Bool}{ops:Array Oper}{K:St→Prop}{Q':Exit→Act→akg→Prop}(hQ:∀a' w',gV N0 G w K a' w'→Q' .normal a' w'):∀(fuel:Nat)(listed:Array Bool)(G1:Gh)(w1:akg)(a:Act)(s:St),
 bP N0 G w G1 w1→N0≤G1.N→cx G1 w1 a s→l6 m P ops K fuel listed s→wpAnyIn (WF r) n P .any ops Q' fuel listed a w1
 |0,_,G1,w1,a,s,hE,hN,hs,h=>⟨h.1,hQ _ _ ⟨G1,s,hE,hN,hs,h.2⟩⟩
 |fuel+1,listed,G1,w1,a,s,hE,hN,hs,h=>by
  refine⟨fun h0=>hQ _ _ ⟨G1,s,hE,hN,hs,h.1 h0⟩,fun i hi=> ?_⟩;obtain⟨_,o,ho,_⟩:=mem_ready.1 hi;obtain⟨x,h1,hy,Aa⟩:=h.2 i hi o ho;unfold wpOpIn;rw[ho];simp only;rcases hy with⟨g,hc⟩|⟨g,rfl,rfl⟩
  ·have hg:=MF hs g;split at hg
   ·rename_i hw
    rw[if_pos hw];refine Oper.wpIn_mono (fun a' w' hn=> ?_) ((ZK hc).elim (fun k=>Tg (K:=fun s'=>s'=(s.wh h1).put o.dst x) (r:=r) (n:=n) (N0:=N0) (Q:=Q') hs hN k) fun⟨_,va,x',h',p,k1,k2,k3⟩=>Ue (K:=fun s'=>s'=(s.wh h1).put o.dst x) (r:=r) (n:=n) (N0:=N0) (Q:=Q') hs hN ⟨va,x',h',p,k1,k2,k3⟩);obtain⟨G2,s2,e2,n2,wD,rfl⟩:=hn;exact EA hQ fuel _ G2 w' a' _ (hE.trans e2) n2 wD Aa
   ·exact hg.elim
  ·have hg:=MF hs g;split at hg
   ·exact hg.elim
   ·rename_i hw
    rw[if_neg hw];exact⟨fun _ _=>trivial,EA hQ fuel _ G1 w1 _ _ hE hN (hs.put (.d (.v undef)) o.dst) Aa⟩
theorem Kl{id:Nat}{l:akb Oper}(hm:P.follows .mixedOrders=true)(hl:q9 l.toArray=true)(h:Bb P l.toArray l (Q .normal) s):bJ P r N0 (.region id l.toArray true) Q s:=by
 constructor
 intro G w a n hs hN;unfold q9 at hl;rw[ajp]at hl;obtain⟨d1,d2⟩:=hs.drew;refine wpIn_region_any hm ?_;have hC:sJ (fun s=>∃s',gr s' s∧Q .normal s'):=fun s s' e ⟨s0,e0,h0⟩=>⟨s0,e0.trans e,h0⟩;have:=Uz (K:=Q .normal) hC (fun s h=>⟨s,gr.refl s,h⟩) hl.1 l 0 (Array.replicate l.toArray.size false) s (by simp) (fun j hj=>absurd hj (ajP _)) (fun j o ho hj=>by
  exfalso;rw[Array.getD_eq_getD_getElem?]at hj;rw[Array.getElem?_replicate]at hj;split at hj<;>simp at hj) (by simpa using hl.2) h
 refine EA (G:=G) (w:=w) (N0:=N0) (K:=fun s=>∃s',gr s' s∧Q .normal s') (fun a' w' hn=> ?_) l.toArray.size _ G _ a s (d1.less hN) hN d2 (by simpa using this);obtain⟨G',s',x1,x2,x3,s0,e0,x4⟩:=hn;refine⟨G',s0,x1,x2,⟨x3.size.trans e0.n.symm,fun i=>by rw[e0.t i];exact x3.tmp i,by rw[e0.h];exact x3.inv,x3.df⟩,x4⟩
theorem Y6{m:Bool}{id:Nat}{ops:Array Oper}(p:akb Nat)(hm:P.follows .mixedOrders=true)(hz:p.length=ops.size)(hl:IM m ops p=true)(h:tJ m P ops (qI ops p) (Q .normal) s):bJ P r N0 (.region id ops true) Q s:=by
 constructor
 intro G w a n hs hN;unfold IM at hl;rw[ajp]at hl;obtain⟨d1,d2⟩:=hs.drew;refine wpIn_region_any hm ?_;have hC:sJ (fun s=>∃s',gr s' s∧Q .normal s'):=fun s s' e ⟨s0,e0,h0⟩=>⟨s0,e0.trans e,h0⟩;have:=Qr (K:=Q .normal) hC (fun s h=>⟨s,gr.refl s,h⟩) hl.1 p (Array.replicate ops.size false) s (fun j o ho hj=>by
  exfalso;rw[Array.getD_eq_getD_getElem?]at hj;rw[Array.getElem?_replicate]at hj;split at hj<;>simp at hj) hl.2 h
 rw[hz]at this;refine EA (G:=G) (w:=w) (N0:=N0) (K:=fun s=>∃s',gr s' s∧Q .normal s') (fun a' w' hn=> ?_) ops.size _ G _ a s (d1.less hN) hN d2 this;obtain⟨G',s',x1,x2,x3,s0,e0,x4⟩:=hn;refine⟨G',s0,x1,x2,⟨x3.size.trans e0.n.symm,fun i=>by rw[e0.t i];exact x3.tmp i,by rw[e0.h];exact x3.inv,x3.df⟩,x4⟩
end
def ai6(want:Bool):AV→Bool
 | .d (.v (.bool b))=>b==want
 |_=>false
def gNo(want:Bool):AV→Bool
 | .d (.v (.bool b))=>b== !want
 | .d (.v (.tuple _))=>true
 |_=>false
def Z6(t:akb (Nat×AV)):akd Nat→AV
 |some d=>bB t d
 |none=> .dead
def su(ops:Array Oper)(j:Nat)(t:akb (Nat×AV)):AV:=Z6 t ((ops[j]?).bind (·.dst))
section
variable {P:ake} {ops:Array Oper} {dst:akd Nat} {op:Op} {ty:TypeId} {pos:String} {after:Array Edge} {j:Nat} {w:Bool} {s:St} {rest:akb Oper} {K:St→Prop} {y n:Prop}
theorem Ju:aGuard ops ⟨dst,op,ty,pos,after,some (j,w)⟩ s y n=(match su ops j s.t with
 | .d (.v (.bool b))=>(b=w→y)∧(b= !w→n)
 | .d (.v (.tuple _))=>n
 |_=>False):=by
 show(match (ops[j]?).bind (·.dst)with
  |some d=>match bB s.t d with
   | .d (.v (.bool b))=>(b=w→y)∧(b= !w→n)
   | .d (.v (.tuple _))=>n
   |_=>False
  |none=>False)=_
 unfold su;cases (ops[j]?).bind (·.dst)<;>rfl
end
section
variable {P:ake} {r:akd Nat} {n N0:Nat} {G:Gh} {w:akg} {a:Act} {s:St} {o:Oper} {Q:Exit→St→Prop}
theorem cz{K:St→Prop}(h:K s):gA K Q .normal s:=h
theorem lf{K:St→Prop}{i:Nat}(h:Q (.exit i) s):gA K Q (.exit i) s:=h
theorem fp{K:St→Prop}(h:Q .ret s):gA K Q .ret s:=h
theorem la{id:Nat}(h:Q .normal s):pc id Q .normal s:=h
theorem gi{id:Nat}(h:Q .ret s):pc id Q .ret s:=h
theorem tu{id i:Nat}(e:(i==id)=true)(h:Q .normal s):pc id Q (.exit i) s:=by simpa only[pc,e,cond_true]using h
theorem XN{id i:Nat}(e:(i==id)=false)(h:Q (.exit i) s):pc id Q (.exit i) s:=by simpa only[pc,e,cond_false]using h
theorem lD{c:Operand}{x y:Code}(hc:ev s c= .d (.v (.bool true)))(h:bJ P r N0 x Q s):bJ P r N0 (.cond c x y) Q s:=Mr hc (fun _=>h) fun h=>Bool.noConfusion h
theorem lW{c:Operand}{x y:Code}(hc:ev s c= .d (.v (.bool false)))(h:bJ P r N0 y Q s):bJ P r N0 (.cond c x y) Q s:=Mr hc (fun h=>Bool.noConfusion h) fun _=>h
theorem kd{c:Operand}{x y:Code}{t:Bool}(hc:ev s c= .d (.v (.bool t)))(e:t=true)(h:bJ P r N0 x Q s):bJ P r N0 (.cond c x y) Q s:=lD (by rw[hc,e]) h
theorem j6{c:Operand}{x y:Code}{t:Bool}(hc:ev s c= .d (.v (.bool t)))(e:t=false)(h:bJ P r N0 y Q s):bJ P r N0 (.cond c x y) Q s:=lW (by rw[hc,e]) h
end
theorem aaO{G:Gh}{w:akg}{h:akb aq}{b:Nat}{cs ca:akb AV}(hi:bV G w h)(hb:h[b]?=some (.cells cs))(hl:ca.length=cs.length)
 (hc:∀(vs:Array akf)(T:TypeId),w.heap[G.bm b]?=some (.cells vs T (0,0))→∀(i:Nat)(u:akf)(c:AV),vs[i]?=some u→ca[i]?=some c→aL G w u c):bV G w (h.set b (aq.cells ca)):=by
 have ho:∀n,b6 (h.set b (aq.cells ca)) G n=b6 h G n:=fun n=>by
  have aX:=(ajn.1 hb).1;unfold b6;by_cases e:b=n
  ·subst e;rw[ajQ aX,hb];rfl
  ·rw[ajV e]
 refine⟨by rw[List.length_set];exact hi.len,hi.z,hi.S,fun n B hB=> ?_,fun m n x hm hn=>hi.inj m n x (by rw[←ho];exact hm) (by rw[←ho];exact hn),hi.gl⟩;have aX:=(ajn.1 hb).1;by_cases e:b=n
 ·subst e;rw[ajQ aX]at hB;cases hB
  obtain⟨h1,h2,vs,T,h3,h4,_⟩:=hi.cU _ _ hb;exact⟨h1,h2,vs,T,h3,h4.trans hl.symm,hc vs T h3⟩
 ·rw[ajV e]at hB;exact hi.cU n B hB
theorem P2{P:ake}{r:akd Nat}{N0:Nat}{s:St}{Q:Exit→St→Prop}{c:Code}(b i:Nat)(e:TypeId)(sz:Nat)(xs:akb (akb D)){cs:akb AV}(hb:s.h[b]?=some (.cells cs))(hx:cs[i]?=some (.full xs)∨(cs[i]?=some (.d (.v (.slice none 0 0)))∧xs=[]))
 (h:bJ P r N0 c Q ⟨s.n,s.t,(s.h++[aq.front e sz xs.length]).set b (aq.cells (cs.set i (AV.own s.h.length xs)))⟩):bJ P r N0 c Q s:=by
 constructor
 intro G w a n hs hN;obtain⟨h1,h2,vs,T,h3,h4,h5⟩:=hs.inv.cU _ _ hb;have hi:i<cs.length:=by rcases hx with hx|⟨hx,_⟩<;>exact(ajn.1 hx).1
 have hv:vs[i]?=some vs[i]:=ajJ (by omega);have hp:cY G.S w vs[i] (.sl xs)∧∃A,vs[i]= .slice A xs.length xs.length:=by
  rcases hx with hx|⟨hx,rfl⟩
  ·have:=h5 i _ _ hv hx;generalize vs[i]=u at this;cases this with|full _ hp hf=>exact⟨hp,hf⟩
  ·have:=h5 i _ _ hv hx;rw[this.val];exact⟨H8,none,rfl⟩
 obtain⟨a1,a2,a3,a4⟩:=TO hs.inv hp.1 hp.2 e sz;have aX:=(ajn.1 hb).1;have cp:cx (G.fQ vs[i] xs.length) w a ⟨s.n,s.t,(s.h++[aq.front e sz xs.length]).set b (aq.cells (cs.set i (AV.own s.h.length xs)))⟩:=by
  refine⟨hs.size,fun j=>(hs.tmp j).bn a1 a2,aaO a3 (by rw[ajx aX];exact hb) (by rw[List.length_set]) fun fc T' Tc j u c hu hc=> ?_,hs.df.bn a1⟩;have e1:(G.fQ vs[i] xs.length).bm b=G.bm b:=by
   have:b≠G.N:=by have:=hs.inv.len;omega
   simp [Gh.fQ]
  rw[e1,h3]at Tc;cases Tc
  by_cases e2:i=j
  ·subst e2;rw[ajQ hi]at hc;cases hc
   rw[hv]at hu;cases hu
   exact a4
  ·rw[ajV e2]at hc;exact(h5 j u c hu hc).bn a1 a2
 exact wpIn_mono (h.run _ w a n cp (ajF hN a2)) fun _ _ _ hn=>hn.trans (a1.less hN)
def AV.Le(x y:AV):Prop:=∀(G:Gh)(w:akg)(u:akf),aL G w u x→aL G w u y
theorem AV.Le.refl(x:AV):AV.Le x x:=fun _ _ _ h=>h
theorem AV.Le.full(xs:akb (akb D)):AV.Le (.full xs) (.d (.sl xs)):=fun _ _ _ h=>by
 cases h with|full _ hp _=>exact .d hp
theorem AV.Le.nil:AV.Le (.d (.v (.slice none 0 0))) (.d (.sl [])):=fun _ _ _ h=>by
 rw[h.val];exact .d H8
theorem AV.Le.agg{cs ds:akb AV}(hl:cs.length=ds.length)(h:∀(i:Nat)(c d:AV),cs[i]?=some c→ds[i]?=some d→AV.Le c d):AV.Le (.agg cs) (.agg ds):=fun G w u hu=>by
 cases hu with
 |agg vs _ zC hv=>
  refine .agg vs ds (zC.trans hl) fun i u d hui hd=> ?_;have aX:i<cs.length:=by rw[hl];exact(ajn.1 hd).1
  exact h i _ d (ajr aX) hd G w u (hv i u _ hui (ajr aX))
set_option linter.unusedSimpArgs false
set_option linter.unusedVariables false
def rn:akb Nat→Nat→Nat→Nat
 |[],base,i=>base+i
 |j::_,_,0=>j
 |_::l,base,i+1=>rn l base i
theorem zZ:∀(l:akb Nat)(base i:Nat)(j:Nat),l[i]?=some j→rn l base i=j
 |[],_,i,j,h=>by simp at h
 |a::l,base,0,j,h=>by simpa [rn]using h
 |a::l,base,i+1,j,h=>by rw[rn];exact zZ l base i j (by simpa using h)
theorem HV:∀(l:akb Nat)(base i:Nat),l.length≤i→rn l base i=base+(i-l.length)
 |[],base,i,_=>by simp [rn]
 |a::l,base,0,h=>by simp at h
 |a::l,base,i+1,h=>by rw[rn,HV l base i (by simpa using h)];simp
mutual
def AV.aQ(σ:Nat→Nat):AV→AV
 | .ptr n off=> .ptr (σ n) off
 | .own n xs=> .own (σ n) xs
 | .row n off len cap k=> .row (σ n) off len cap k
 | .mp n=> .mp (σ n)
 | .cE n=> .cE (σ n)
 | .vec n o len L k=> .vec (σ n) o len L k
 | .cN n i j L k=> .cN (σ n) i j L k
 | .agg cs=> .agg (AV.eH σ cs)
 | .bk cs=> .bk (AV.eH σ cs)
 | .fn f cs=> .fn f (AV.eH σ cs)
 | .d x=> .d x
 | .bD xs i off=> .bD xs i off
 | .full xs=> .full xs
 | .hid c=> .hid c
 | .dead=> .dead
def AV.eH(σ:Nat→Nat):akb AV→akb AV
 |[]=>[]
 |x::l=>x.aQ σ::AV.eH σ l
end
theorem fP(σ:Nat→Nat):∀l,AV.eH σ l=l.map (AV.aQ σ)
 |[]=>by simp [AV.eH]
 |x::l=>by simp [AV.eH,fP σ l]
def aq.aQ(σ:Nat→Nat):aq→aq
 | .cells cs=> .cells (AV.eH σ cs)
 | .lp ls p as bd cs=> .lp ls p as bd (AV.eH σ cs)
 | .it sn cs=> .it sn (AV.eH σ cs)
 | .vec e k cs=> .vec e k (cs.map (AV.eH σ))
 | .front e k len=> .front e k len
 | .map kv=> .map kv
 | .gone=> .gone
def fv:akb Nat→akb aq→akb aq→akb aq
 |[],Bs,h=>h++Bs
 |_::_,[],h=>h
 |i::l,B::Bs,h=>fv l Bs (h.set i B)
structure oz(σ:Nat→Nat)(G G2:Gh):Prop where
 lt:∀n,n<G.N→σ n<G2.N
 bm:∀n,n<G.N→G2.bm (σ n)=G.bm n
 sg:∀n,n<G.N→G2.sg (σ n)=G.sg n
 fl:∀n,n<G.N→G2.fl (σ n)=G.fl n
 ow:∀n,n<G.N→G2.ow (σ n)=G.ow n
 S:∀b o,G2.S b o↔G.S b o
theorem cY.s9{S S':Nat→Nat→Prop}{w:akg}(hS:∀b o,S b o→S' b o){u:akf}{x:D}(h:cY S w u x):cY S' w u x:=h.bn hS (fun _ _ _=>rfl)
theorem aL.aQ{σ:Nat→Nat}{G G2:Gh}{w:akg}(hR:oz σ G G2){u:akf}{x:AV}(h:aL G w u x):aL G2 w u (x.aQ σ):=by
 have hS:∀b o,G.S b o→G2.S b o:=fun b o h=>(hR.S b o).2 h;have eZ:∀(vs:Array akf)(cs:akb AV),(∀(i:Nat)(u:akf)(c:AV),vs[i]?=some u→cs[i]?=some c→aL G2 w u (c.aQ σ))→∀(i:Nat)(u:akf)(c:AV),vs[i]?=some u→(AV.eH σ cs)[i]?=some c→aL G2 w u c:=by
  intro vs cs ih i u c hu hc;rw[fP,aju]at hc;cases hx:cs[i]? with
  |none=>rw[hx]at hc;cases hc
  |some x=>rw[hx]at hc;cases hc;exact ih i u x hu hx
 induction h with
 |agg vs cs hl _ ih=>rw[AV.aQ];exact .agg vs _ (by rw[fP,ajs];exact hl) (eZ vs cs ih)
 |bk vs cs hl _ ih=>rw[AV.aQ];exact .bk vs _ (by rw[fP,ajs];exact hl) (eZ vs cs ih)
 |fn f vs cs hl _ ih=>rw[AV.aQ];exact .fn f vs _ (by rw[fP,ajs];exact hl) (eZ vs cs ih)
 |d h=>rw[AV.aQ];exact .d (h.s9 hS)
 |full xs hp hf=>rw[AV.aQ];exact .full xs (hp.s9 hS) hf
 |ptr n off h=>rw[AV.aQ,←hR.bm n h];exact .ptr _ off (hR.lt n h)
 |row n off len cap k h hl hm=>rw[AV.aQ,←hR.bm n h];exact .row _ off len cap k (hR.lt n h) hl hm
 |mp n h=>rw[AV.aQ,←hR.bm n h];exact .mp _ (hR.lt n h)
 |cE n h=>rw[AV.aQ,←hR.bm n h];exact .cE _ (hR.lt n h)
 |own n xs h hp hle hf=>rw[AV.aQ];exact .own _ xs (hR.lt n h) (hp.s9 hS) (by rw[hR.fl n h];exact hle) (by rw[hR.fl n h,hR.sg n h];exact hf)
 |vec n o len L k h hs hL hf=>rw[AV.aQ];exact .vec _ o len L k (hR.lt n h) hs (by rw[hR.fl n h];exact hL) (by rw[hR.fl n h,hR.sg n h];exact hf)
 |cN n i j L k h hs hL hf=>rw[AV.aQ];exact .cN _ i j L k (hR.lt n h) hs (by rw[hR.fl n h];exact hL) (by rw[hR.fl n h,hR.sg n h];exact hf)
 |bD xs i off b o u x hx oY hu=>rw[AV.aQ];exact .bD xs i off b o u x hx (fun j hj=>⟨hS _ _ (oY j hj).1,(oY j hj).2⟩) (fun j d hd=>(hu j d hd).s9 hS)
 |hid h h1=>rw[AV.aQ];exact .hid (h.bn hS (fun _ _ _=>rfl)) h1
 |dead u=>rw[AV.aQ];exact .dead u
theorem aL.rJ{σ:Nat→Nat}{G G2:Gh}{w:akg}(hR:oz σ G G2){u:akf}{y:AV}(h:aL G2 w u y):∀x:AV,x.aQ σ=y→x.aT G.N=true→aL G w u x:=by
 have hS:∀b o,G2.S b o→G.S b o:=fun b o h=>(hR.S b o).1 h;have lt:∀n,(!cf G.N n)=true→n<G.N:=fun n h=>by rw[Bool.not_eq_true',←Bool.not_eq_true,di]at h;omega
 have eZ:∀(vs:Array akf)(cs xs:akb AV),(∀(i:Nat)(u:akf)(c:AV),vs[i]?=some u→cs[i]?=some c→∀x:AV,x.aQ σ=c→x.aT G.N=true→aL G w u x)→AV.eH σ xs=cs→AV.lV G.N xs=true→∀(i:Nat)(u:akf)(c:AV),vs[i]?=some u→xs[i]?=some c→aL G w u c:=by
  intro vs cs xs ih e hb i u c hu hc;subst e;rw[lH,ajN]at hb;exact ih i u (c.aQ σ) hu (by rw[fP,aju,hc];rfl) c rfl (hb c (ajA hc))
 induction h with
 |agg vs cs hl _ ih=>
  intro x e hb;cases x<;>simp only[AV.aQ,AV.agg.injEq,reduceCtorEq]at e
  next xs=>
   rw[AV.aT]at hb;exact .agg vs xs (by rw[hl,←e,fP,ajs]) (eZ vs cs xs ih e hb)
 |bk vs cs hl _ ih=>
  intro x e hb;cases x<;>simp only[AV.aQ,AV.bk.injEq,reduceCtorEq]at e
  next xs=>
   rw[AV.aT]at hb;exact .bk vs xs (by rw[hl,←e,fP,ajs]) (eZ vs cs xs ih e hb)
 |fn f vs cs hl _ ih=>
  intro x e hb;cases x<;>simp only[AV.aQ,AV.fn.injEq,reduceCtorEq]at e
  next g xs=>
   obtain⟨rfl,e⟩:=e;rw[AV.aT]at hb;exact .fn _ vs xs (by rw[hl,←e,fP,ajs]) (eZ vs cs xs ih e hb)
 |d h=>
  intro x e hb;cases x<;>simp only[AV.aQ,AV.d.injEq,reduceCtorEq]at e
  next y=>subst e;exact .d (h.s9 hS)
 |full xs hp hf=>
  intro x e hb;cases x<;>simp only[AV.aQ,AV.full.injEq,reduceCtorEq]at e
  next y=>subst e;exact .full y (hp.s9 hS) hf
 |ptr n off h=>
  intro x e hb;cases x<;>simp only[AV.aQ,AV.ptr.injEq,reduceCtorEq]at e
  next m o=>
   obtain⟨e1,rfl⟩:=e;rw[AV.aT]at hb;have hm:=lt _ hb;rw[←e1,hR.bm _ hm];exact .ptr _ _ hm
 |row n off len cap k h hl jR=>
  intro x e hb;cases x<;>simp only[AV.aQ,AV.row.injEq,reduceCtorEq]at e
  next m o l c q=>
   obtain⟨e1,rfl,rfl,rfl,rfl⟩:=e;rw[AV.aT]at hb;have hm:=lt _ hb;rw[←e1,hR.bm _ hm];exact .row _ _ _ _ _ hm hl jR
 |mp n h=>
  intro x e hb;cases x<;>simp only[AV.aQ,AV.mp.injEq,reduceCtorEq]at e
  next m=>
   rw[AV.aT]at hb;have hm:=lt _ hb;rw[←e,hR.bm _ hm];exact .mp _ hm
 |cE n h=>
  intro x e hb;cases x<;>simp only[AV.aQ,AV.cE.injEq,reduceCtorEq]at e
  next m=>
   rw[AV.aT]at hb;have hm:=lt _ hb;rw[←e,hR.bm _ hm];exact .cE _ hm
 |own n xs h hp hle hf=>
  intro x e hb;cases x<;>simp only[AV.aQ,AV.own.injEq,reduceCtorEq]at e
  next m l=>
   obtain⟨e1,rfl⟩:=e;rw[AV.aT]at hb;have hm:=lt _ hb;rw[←e1]at hle hf;exact .own _ _ hm (hp.s9 hS) (by rw[←hR.fl _ hm];exact hle) (by rw[←hR.fl _ hm,←hR.sg _ hm];exact hf)
 |vec n o len L k h hs hL hf=>
  intro x e hb;cases x<;>simp only[AV.aQ,AV.vec.injEq,reduceCtorEq]at e
  next m a1 a2 a3 a4=>
   obtain⟨e1,rfl,rfl,rfl,rfl⟩:=e;rw[AV.aT]at hb;have hm:=lt _ hb;rw[←e1]at hL hf;exact .vec _ _ _ _ _ hm hs (by rw[←hR.fl _ hm];exact hL) (by rw[←hR.fl _ hm,←hR.sg _ hm];exact hf)
 |cN n i j L k h hs hL hf=>
  intro x e hb;cases x<;>simp only[AV.aQ,AV.cN.injEq,reduceCtorEq]at e
  next m a1 a2 a3 a4=>
   obtain⟨e1,rfl,rfl,rfl,rfl⟩:=e;rw[AV.aT]at hb;have hm:=lt _ hb;rw[←e1]at hL hf;exact .cN _ _ _ _ _ hm hs (by rw[←hR.fl _ hm];exact hL) (by rw[←hR.fl _ hm,←hR.sg _ hm];exact hf)
 |bD xs i off b o u y hx oY hu=>
  intro x e hb;cases x<;>simp only[AV.aQ,AV.bD.injEq,reduceCtorEq]at e
  next a1 a2 a3=>
   obtain⟨rfl,rfl,rfl⟩:=e;exact .bD _ _ _ b o u y hx (fun j hj=>⟨hS _ _ (oY j hj).1,(oY j hj).2⟩) (fun j d hd=>(hu j d hd).s9 hS)
 |hid h h1=>
  intro x e hb;cases x<;>simp only[AV.aQ,AV.hid.injEq,reduceCtorEq]at e
  next c=>subst e;exact .hid (h.bn hS (fun _ _ _=>rfl)) h1
 |dead u=>
  intro x e hb;cases x<;>simp only[AV.aQ,reduceCtorEq]at e
  exact .dead u
theorem Lr{σ:Nat→Nat}{G G2:Gh}(hR:oz σ G G2){n:Nat}(hn:n<G.N)(B:aq):(B.aQ σ).dv G2 (σ n)=B.dv G n:=by
 cases B<;>simp only[aq.aQ,aq.dv,hR.bm n hn,hR.ow n hn]
theorem dC.aQ{σ:Nat→Nat}{G G2:Gh}{w:akg}(hR:oz σ G G2){n:Nat}(hn:n<G.N){B:aq}(hz:∀b,B.dv G n=some b→¬G2.Z b)(h:dC G w n B):dC G2 w (σ n) (B.aQ σ):=by
 have hS:∀b o,¬G.S b o→¬G2.S b o:=fun b o h h2=>h ((hR.S b o).1 h2);cases B with
 |gone=>trivial
 |cells cs=>
  obtain⟨h1,h2,vs,T,h3,h4,h5⟩:=h;rw[aq.aQ];refine⟨by rw[hR.bm n hn];exact hz _ rfl,by rw[hR.bm n hn];exact fun o=>hS _ _ (h2 o),vs,T,by rw[hR.bm n hn];exact h3,by rw[fP,ajs];exact h4,fun i u c hu hc=> ?_⟩;rw[fP,aju]at hc;cases hx:cs[i]? with
  |none=>rw[hx]at hc;cases hc
  |some x=>rw[hx]at hc;cases hc;exact(h5 i u x hu hx).aQ hR
 |lp ls p as bd cs=>
  obtain⟨h1,h2,fn,vs,T,h3,h4,h5⟩:=h;rw[aq.aQ];refine⟨by rw[hR.bm n hn];exact hz _ rfl,by rw[hR.bm n hn];exact fun o=>hS _ _ (h2 o),fn,vs,T,by rw[hR.bm n hn];exact h3,by rw[fP,ajs];exact h4,fun i u c hu hc=> ?_⟩;rw[fP,aju]at hc;cases hx:cs[i]? with
  |none=>rw[hx]at hc;cases hc
  |some x=>rw[hx]at hc;cases hc;exact(h5 i u x hu hx).aQ hR
 |it sn cs=>
  obtain⟨h1,h2,fn,vs,T,h3,h4,h5⟩:=h;rw[aq.aQ];refine⟨by rw[hR.bm n hn];exact hz _ rfl,by rw[hR.bm n hn];exact fun o=>hS _ _ (h2 o),fn,vs,T,by rw[hR.bm n hn];exact h3,by rw[fP,ajs];exact h4,fun i u c hu hc=> ?_⟩;rw[fP,aju]at hc;cases hx:cs[i]? with
  |none=>rw[hx]at hc;cases hc
  |some x=>rw[hx]at hc;cases hc;exact(h5 i u x hu hx).aQ hR
 |map kv=>
  obtain⟨h1,h2,es,c,h3,h4⟩:=h;exact⟨by rw[hR.bm n hn];exact hz _ rfl,by rw[hR.bm n hn];exact fun o=>hS _ _ (h2 o),es,c,by rw[hR.bm n hn];exact h3,h4.bn (fun b o h=>(hR.S b o).2 h) (fun _ _ _=>rfl)⟩
 |front e k len=>
  obtain⟨h1,hm,h2⟩:=h;refine⟨(hR.fl n hn).trans h1,hm,?_⟩;rcases h2 with⟨h2,A,h3⟩|⟨g,cap,cur,h2,h3,h4,h5,h6,h7,h8,h9⟩
  ·exact .inl ⟨(hR.ow n hn).trans h2,A,(hR.sg n hn).trans h3⟩
  ·exact .inr ⟨g,cap,cur,(hR.ow n hn).trans h2,(hR.sg n hn).trans h3,hz g h2,h5,h6,h7,h8,fun o ho=>hS _ _ (h9 o ho)⟩
 |vec e k cs=>
  obtain⟨h1,hm,hk,h2⟩:=h;rw[aq.aQ];refine⟨by rw[ajs];exact(hR.fl n hn).trans h1,by rw[ajs];exact hm,fun c hc=> ?_,?_⟩
  ·obtain⟨x,hx,rfl⟩:=List.mem_map.1 hc;rw[fP,ajs];exact hk x hx
  ·rcases h2 with⟨h2,e2,A,h3⟩|⟨g,cap,cur,h2,h3,h4,h5,h6,h7,h8,h9,az⟩
   ·exact .inl ⟨(hR.ow n hn).trans h2,by rw[e2];rfl,A,(hR.sg n hn).trans h3⟩
   ·refine .inr ⟨g,cap,cur,(hR.ow n hn).trans h2,by rw[ajs];exact(hR.sg n hn).trans h3,hz g h2,h5,by rw[ajs];exact h6,h7,h8,fun o=>hS _ _ (h9 o),fun i j c x u hc hx hu=> ?_⟩;rw[aju]at hc;cases hy:cs[i]? with
    |none=>rw[hy]at hc;cases hc
    |some y=>
     rw[hy]at hc;cases hc
     rw[fP,aju]at hx;cases hw:y[j]? with
     |none=>rw[hw]at hx;cases hx
     |some z=>rw[hw]at hx;cases hx;exact(az i j y z u hy hw hu).aQ hR
theorem dC.rJ{σ:Nat→Nat}{G G2:Gh}{w:akg}(hR:oz σ G G2){n:Nat}(hn:n<G.N){B:aq}(hb:B.aT G.N=true)(hz:∀b,B.dv G n=some b→¬G.Z b)(h:dC G2 w (σ n) (B.aQ σ)):dC G w n B:=by
 have hS:∀b o,¬G2.S b o→¬G.S b o:=fun b o h h2=>h ((hR.S b o).2 h2);cases B with
 |gone=>trivial
 |cells cs=>
  rw[aq.aQ]at h;obtain⟨h1,h2,vs,T,h3,h4,h5⟩:=h;rw[hR.bm n hn]at h2 h3;rw[fP,ajs]at h4;simp only[aq.aT,ajN]at hb;exact⟨hz _ rfl,fun o=>hS _ _ (h2 o),vs,T,h3,h4,fun i u c hu hc=>aL.rJ hR (h5 i u (c.aQ σ) hu (by rw[fP,aju,hc];rfl)) c rfl (hb c (ajA hc))⟩
 |lp ls p as bd cs=>
  rw[aq.aQ]at h;obtain⟨h1,h2,fn,vs,T,h3,h4,h5⟩:=h;rw[hR.bm n hn]at h2 h3;rw[fP,ajs]at h4;simp only[aq.aT,ajN]at hb;exact⟨hz _ rfl,fun o=>hS _ _ (h2 o),fn,vs,T,h3,h4,fun i u c hu hc=>aL.rJ hR (h5 i u (c.aQ σ) hu (by rw[fP,aju,hc];rfl)) c rfl (hb c (ajA hc))⟩
 |it sn cs=>
  rw[aq.aQ]at h;obtain⟨h1,h2,fn,vs,T,h3,h4,h5⟩:=h;rw[hR.bm n hn]at h2 h3;rw[fP,ajs]at h4;simp only[aq.aT,ajN]at hb;exact⟨hz _ rfl,fun o=>hS _ _ (h2 o),fn,vs,T,h3,h4,fun i u c hu hc=>aL.rJ hR (h5 i u (c.aQ σ) hu (by rw[fP,aju,hc];rfl)) c rfl (hb c (ajA hc))⟩
 |map kv=>
  obtain⟨h1,h2,es,c,h3,h4⟩:=h;rw[hR.bm n hn]at h2 h3;exact⟨hz _ rfl,fun o=>hS _ _ (h2 o),es,c,h3,h4.bn (fun b o h=>(hR.S b o).1 h) (fun _ _ _=>rfl)⟩
 |front e k len=>
  obtain⟨h1,hm,h2⟩:=h;rw[hR.fl n hn]at h1;rw[hR.ow n hn,hR.sg n hn]at h2;refine⟨h1,hm,?_⟩;rcases h2 with⟨h2,A,h3⟩|⟨g,cap,cur,h2,h3,h4,h5,h6,h7,h8,h9⟩
  ·exact .inl ⟨h2,A,h3⟩
  ·exact .inr ⟨g,cap,cur,h2,h3,hz g h2,h5,h6,h7,h8,fun o ho=>hS _ _ (h9 o ho)⟩
 |vec e k cs=>
  rw[aq.aQ]at h;obtain⟨h1,hm,hk,h2⟩:=h;rw[hR.fl n hn,ajs]at h1;rw[ajs]at hm;rw[hR.ow n hn,hR.sg n hn,ajs]at h2;simp only[aq.aT,ajN]at hb;refine⟨h1,hm,fun c hc=> ?_,?_⟩
  ·have:=hk _ (List.mem_map.2 ⟨c,hc,rfl⟩)
   rwa [fP,ajs]at this
  ·rcases h2 with⟨h2,e2,A,h3⟩|⟨g,cap,cur,h2,h3,h4,h5,h6,h7,h8,h9,az⟩
   ·exact .inl ⟨h2,List.map_eq_nil_iff.1 e2,A,h3⟩
   ·refine .inr ⟨g,cap,cur,h2,h3,hz g h2,h5,h6,h7,h8,fun o=>hS _ _ (h9 o),fun i j c x u hc hx hu=> ?_⟩;exact aL.rJ hR (az i j (AV.eH σ c) (x.aQ σ) u (by rw[aju,hc];rfl) (by rw[fP,aju,hx];rfl) hu) x rfl (hb c (ajA hc) x (ajA hx))
theorem U2:∀(l:akb Nat)(Bs h:akb aq),l.length≤Bs.length→(fv l Bs h).length=h.length+(Bs.length-l.length)
 |[],Bs,h,_=>by simp [fv]
 |j::l,[],h,hl=>by simp at hl
 |j::l,B::Bs,h,hl=>by rw[fv,U2 l Bs _ (by simpa using hl),List.length_set];simp
theorem Mg:∀(l:akb Nat)(Bs h:akb aq)(n:Nat),l.length≤Bs.length→n<h.length→n ∉ l→(fv l Bs h)[n]?=h[n]?
 |[],Bs,h,n,_,hn,_=>by rw[fv,ajx hn]
 |j::l,[],h,n,hl,_,_=>by simp at hl
 |j::l,B::Bs,h,n,hl,hn,hm=>by
  simp only[ajR,not_or]at hm;rw[fv,Mg l Bs _ n (by simpa using hl) (by rw[List.length_set];exact hn) hm.2,ajV (Ne.symm hm.1)]
theorem O6:∀(l:akb Nat)(Bs h:akb aq)(i:Nat),l.length≤Bs.length→l.Nodup→(∀j∈l,j<h.length)→i<Bs.length→(fv l Bs h)[rn l h.length i]?=Bs[i]?
 |[],Bs,h,i,_,_,_,hi=>by rw[fv,rn,ajD (aj2 _ _),Nat.add_sub_cancel_left]
 |j::l,[],h,i,hl,_,_,_=>by simp at hl
 |j::l,B::Bs,h,0,hl,hd,aX,_=>by
  rw[List.nodup_cons]at hd;rw[fv,rn,Mg l Bs _ j (by simpa using hl) (by rw[List.length_set];exact aX j (by simp)) hd.1,ajQ (aX j (by simp))];rfl
 |j::l,B::Bs,h,i+1,hl,hd,aX,hi=>by
  rw[List.nodup_cons]at hd;have:=O6 l Bs (h.set j B) i (by simpa using hl) hd.2 (fun x hx=>by rw[List.length_set];exact aX x (by simp [hx])) (by simpa using hi);rw[List.length_set]at this;rw[fv,rn,this];simp
def vX(l:akb Nat)(base n:Nat):akd Nat:=if n∈l then some (l.idxOf n)else if base≤n then some (l.length+(n-base))else none
theorem Lp{l:akb Nat}{base:Nat}(hd:l.Nodup)(aX:∀j∈l,j<base)(i:Nat):vX l base (rn l base i)=some i:=by
 unfold vX;by_cases hi:i<l.length
 ·have e:l[i]?=some l[i]:=ajr hi;rw[zZ l base i _ e,if_pos (List.getElem_mem _),List.Nodup.idxOf_getElem hd i hi]
 ·rw[HV l base i (by omega),if_neg (fun h=>by have:=aX _ h;omega),if_pos (aj2 _ _)]
  congr 1;omega
theorem OA{l:akb Nat}{base n i:Nat}(h:vX l base n=some i):rn l base i=n:=by
 unfold vX at h;split at h
 ·rename_i hm
  cases h
  have aX:=List.idxOf_lt_length_of_mem hm;refine zZ l base _ n ?_;rw[ajr aX,List.getElem_idxOf]
 ·split at h
  ·cases h
   rw[HV _ _ _ (by omega)];omega
  ·cases h
theorem aiB{l:akb Nat}{base n:Nat}(h:vX l base n=none):n<base∧n ∉ l:=by
 unfold vX at h;split at h
 ·cases h
 ·split at h
  ·cases h
  ·rename_i h1 h2;exact⟨by omega,h1⟩
def rD{α:Type}(o:akd Nat)(f:Nat→α)(d:α):α:=match o with|some i=>f i|none=>d
theorem R9{H:akb aq}{l:akb Nat}{h:akb aq}
 (hd:l.Nodup) (aX:∀j∈l,j<h.length) (hH:∀(i j:Nat),l[i]?=some j→h[j]?=(H[i]?).map (aq.aQ (rn l h.length))) (hk:l.length=H.length)
 (hb:H.all (aq.aT H.length)=true) {G:Gh} {w:akg} (hi:bV G w h):
 ∃G0:Gh,G0.N=H.length∧bV G0 w H∧oz (rn l h.length) G0 G∧∀(G1:Gh)(w':akg)(H':akb aq),bP H.length G0 w G1 w'→H.length≤G1.N→bV G1 w' H'→
  ∃G2:Gh,bP G.N G w G2 w'∧G.N≤G2.N∧bV G2 w' (fv l (H'.map (aq.aQ (rn l h.length))) h)∧oz (rn l h.length) G1 G2:=by
 obtain⟨σ,hσ⟩:∃σ,σ=rn l h.length:=⟨_,rfl⟩;rw[←hσ]at hH ⊢;have FA:h.length=G.N:=hi.len;obtain⟨own,dE⟩:∃own:Nat→Prop,own=fun b=>∃j∈l,b6 h G j=some b:=⟨_,rfl⟩;obtain⟨G0,je⟩:∃G0:Gh,G0={N:=H.length,Z:=fun b=>b<w.heap.size∧¬own b,S:=G.S,bm:=fun i=>G.bm (σ i),sg:=fun i=>G.sg (σ i),ow:=fun i=>G.ow (σ i),fl:=fun i=>G.fl (σ i),M:=G.M}:=⟨_,rfl⟩;have GL:∀i,i<H.length→∃j,l[i]?=some j∧σ i=j∧j∈l:=fun i dg=>by
  have iO:i<l.length:=by rw[hk];exact dg
  exact⟨l[i],ajr iO,by rw[hσ];exact zZ l _ i _ (ajr iO),List.getElem_mem _⟩
 have qZ:oz σ G0 G:=by
  subst je;refine⟨fun n hn=> ?_,fun _ _=>rfl,fun _ _=>rfl,fun _ _=>rfl,fun _ _=>rfl,fun _ _=>Iff.rfl⟩;obtain⟨j,_,e,hj⟩:=GL n hn;rw[e,←FA];exact aX j hj
 have cm:G0.N=H.length:=by rw[je]
 have Sf:∀(i:Nat)(B:aq),H[i]?=some B→h[σ i]?=some (B.aQ σ):=fun i B hB=>by
  obtain⟨j,e1,e2,_⟩:=GL i (ajn.1 hB).1;rw[e2,hH i j e1,hB];rfl
 have KM:∀(i:Nat)(B:aq)(b:Nat),H[i]?=some B→B.dv G0 i=some b→b6 h G (σ i)=some b:=fun i B b hB eP=>by
  rw[dm (Sf i B hB),Lr qZ (by rw[cm];exact(ajn.1 hB).1) B];exact eP
 have uO:∀(i:Nat)(B:aq)(b:Nat),H[i]?=some B→B.dv G0 i=some b→¬G0.Z b:=fun i B b hB eP hz=>by
  rw[je]at hz;refine hz.2 ?_;rw[dE];obtain⟨j,_,e2,hj⟩:=GL i (ajn.1 hB).1;exact⟨j,hj,by rw[←e2];exact KM i B b hB eP⟩
 have acs:∀i i',σ i=σ i'→i=i':=fun i i' e=>by
  have h1:=Lp hd aX i;have h2:=Lp hd aX i';rw[hσ]at e;rw[e,h2]at h1;exact(ajG h1).symm
 have ra:bV G0 w H:=by
  refine⟨cm.symm,fun b hz=> ?_,fun b o hs=> ?_,fun i B hB=> ?_,fun m n b h1 h2=> ?_,by rw[je];exact hi.gl⟩
  ·rw[je]at hz;exact hz.1
  ·rw[je]at hs;exact hi.S b o hs
  ·have hiN:i<G0.N:=by rw[cm];exact(ajn.1 hB).1
   rw[ajN]at hb;exact dC.rJ qZ hiN (by rw[cm];exact hb B (ajA hB)) (fun b eP=>uO i B b hB eP) (hi.cU (σ i) _ (Sf i B hB))
  ·obtain⟨B1,sw,iP⟩:=mr h1;obtain⟨B2,JZ,jM⟩:=mr h2;exact acs m n (hi.inj _ _ b (KM m B1 b sw iP) (KM n B2 b JZ jM))
 refine⟨G0,cm,ra,qZ,fun G1 w' H' hE fb iq=> ?_⟩;have Cv:H'.length=G1.N:=iq.len;obtain⟨ps,CA⟩:∃ps,ps=vX l h.length:=⟨_,rfl⟩;obtain⟨G2,fK⟩:∃G2:Gh,G2={N:=G.N+(G1.N-H.length),Z:=G.Z,S:=G1.S,bm:=fun n=>rD (ps n) G1.bm (G.bm n),sg:=fun n=>rD (ps n) G1.sg (G.sg n),ow:=fun n=>rD (ps n) G1.ow (G.ow n),fl:=fun n=>rD (ps n) G1.fl (G.fl n),M:=G.M}:=⟨_,rfl⟩;have H4:∀i,ps (σ i)=some i:=fun i=>by rw[CA,hσ];exact Lp hd aX i
 have I1:∀i,H.length≤i→σ i=G.N+(i-H.length):=fun i iS=>by rw[hσ,HV l _ i (by omega),FA,hk]
 have Zl:∀i,i<H.length→σ i<G.N:=fun i IQ=>by
  obtain⟨j,_,e,hj⟩:=GL i IQ;rw[e,←FA];exact aX j hj
 have M9:oz σ G1 G2:=by
  subst fK;refine⟨fun n hn=> ?_,fun n _=>by simp only[H4];rfl,fun n _=>by simp only[H4];rfl,fun n _=>by simp only[H4];rfl,fun n _=>by simp only[H4];rfl,fun _ _=>Iff.rfl⟩;show σ n<G.N+(G1.N-H.length);by_cases eE:n<H.length
  ·have:=Zl n eE;omega
  ·rw[I1 n (by omega)];omega
 have P1:∀b,G0.Z b→G1.Z b:=hE.Z.1.1;have Nx:∀b,G.Z b→G0.Z b:=fun b hz=>by
  rw[je];refine⟨hi.z b hz,fun ho=> ?_⟩;rw[dE]at ho;obtain⟨j,_,ho⟩:=ho;obtain⟨B,hB,eP⟩:=mr ho;exact(hi.cU j B hB).kV eP hz
 have jh:bP G.N G w G2 w':=by
  refine⟨hE.size,fun b o hs=> ?_,fun b o hs=> ?_,fun n hn=> ?_,fun n hn=> ?_,fJ (by rw[fK]) (by rw[fK]),fun b hz=>hE.old b (Nx b hz),hE.os,hE.tape,hE.output,fun b o hs=> ?_⟩
  ·rw[fK];exact hE.S b o (by rw[je];exact hs)
  ·exact hE.cell b o (by rw[je];exact hs)
  ·rw[fK];show rD (ps n) G1.bm (G.bm n)=G.bm n;cases hp:ps n with
   |none=>rfl
   |some i=>
    have e:σ i=n:=by rw[hσ];rw[CA]at hp;exact OA hp
    have dg:i<H.length:=Nat.lt_of_not_le fun iS=>by rw[I1 i iS]at e;omega
    show G1.bm i=G.bm n;rw[hE.bm i dg,je,←e]
  ·rw[fK];show(rD (ps n) G1.fl (G.fl n)=G.fl n∧rD (ps n) G1.sg (G.sg n)=G.sg n)∨G.fl n<rD (ps n) G1.fl (G.fl n);cases hp:ps n with
   |none=>exact .inl ⟨rfl,rfl⟩
   |some i=>
    have e:σ i=n:=by rw[hσ];rw[CA]at hp;exact OA hp
    have dg:i<H.length:=Nat.lt_of_not_le fun iS=>by rw[I1 i iS]at e;omega
    have:=hE.fr i dg;rw[je]at this;simp only[e]at this;exact this
  ·rw[fK]at hs;rcases hE.new b o hs with h1|h1
   ·rw[je]at h1;exact .inl h1
   ·exact .inr fun hz=>h1 (Nx b hz)
 have hlen:(fv l (H'.map (aq.aQ σ)) h).length=G2.N:=by
  rw[U2 _ _ _ (by rw[ajs,hk,Cv];omega),ajs,Cv,hk,FA,fK]
 have Zz:∀i,i<G1.N→(fv l (H'.map (aq.aQ σ)) h)[σ i]?=(H'[i]?).map (aq.aQ σ):=fun i dg=>by
  rw[←aju,hσ];exact O6 l _ h i (by rw[ajs,hk,Cv];omega) hd aX (by rw[ajs,Cv];exact dg)
 have Fv:∀(n:Nat)(B:aq),(fv l (H'.map (aq.aQ σ)) h)[n]?=some B→(∃i B',i<G1.N∧n=σ i∧H'[i]?=some B'∧B=B'.aQ σ)∨(ps n=none∧n ∉ l∧h[n]?=some B):=fun n B hB=>by
  have RN:n<G2.N:=by rw[←hlen];exact(ajn.1 hB).1
  cases hp:ps n with
  |none=>
   rw[CA]at hp;obtain⟨h1,h2⟩:=aiB hp;exact .inr ⟨rfl,h2,by rw[←Mg l (H'.map (aq.aQ σ)) h n (by rw[ajs,hk,Cv];omega) h1 h2];exact hB⟩
  |some i=>
   have e:σ i=n:=by rw[hσ];rw[CA]at hp;exact OA hp
   have dg:i<G1.N:=Nat.lt_of_not_le fun iS=>by
    rw[I1 i (by omega)]at e;rw[fK]at RN;have:n<G.N+(G1.N-H.length):=RN;omega
   rw[←e,Zz i dg]at hB;cases hx:H'[i]? with
   |none=>rw[hx]at hB;cases hB
   |some B'=>rw[hx]at hB;cases hB;exact .inl ⟨i,B',dg,e.symm,hx,rfl⟩
 have hold:∀(n b:Nat),n ∉ l→b6 h G n=some b→G0.Z b:=fun n b hn eP=>by
  rw[je];refine⟨hi.gP eP,fun ho=> ?_⟩;rw[dE]at ho;obtain⟨j,hj,ho⟩:=ho;exact hn ((hi.inj n j b eP ho)▸hj)
 have EH:∀(n b:Nat),b6 (fv l (H'.map (aq.aQ σ)) h) G2 n=some b→(∃i,n=σ i∧b6 H' G1 i=some b∧¬G0.Z b)∨(n ∉ l∧b6 h G n=some b∧G0.Z b):=fun n b eP=>by
  obtain⟨B,hB,iP⟩:=mr eP;rcases Fv n B hB with⟨i,B',dg,rfl,dA,rfl⟩|⟨hp,hn,dA⟩
  ·rw[Lr M9 dg]at iP;exact .inl ⟨i,rfl,(dm dA).trans iP,fun hz=>(iq.cU i B' dA).kV iP (P1 _ hz)⟩
  ·have e:B.dv G2 n=B.dv G n:=by
    subst fK;cases B<;>simp only[aq.dv,hp,rD]
   have:=(dm dA).trans (e▸iP);exact .inr ⟨hn,this,hold n b hn this⟩
 refine⟨G2,jh,by rw[fK];exact aj2 _ _,⟨hlen,fun b hz=> ?_,fun b o hs=> ?_,fun n B hB=> ?_,fun m n b h1 h2=> ?_,hi.gl.bn jh⟩,M9⟩
 ·rw[fK]at hz;exact ajL (hi.z b hz) hE.size
 ·rw[fK]at hs;exact iq.S b o hs
 ·rcases Fv n B hB with⟨i,B',dg,rfl,dA,rfl⟩|⟨hp,hn,dA⟩
  ·refine dC.aQ M9 dg (fun b eP hz=> ?_) (iq.cU i B' dA);have:=(iq.cU i B' dA).kV eP;rw[fK]at hz;exact this (P1 b (Nx b hz))
  ·have mn:n<G.N:=by rw[←hi.len];exact(ajn.1 dA).1
   refine dC.bn mn jh (by rw[fK];exact aj2 _ _) (by rw[fK];simp only[hp];exact⟨rfl,rfl,rfl⟩) (fun b eP=> ?_) (hi.cU n B dA);have hz:=hold n b hn ((dm dA).trans eP);refine⟨hE.old b hz,fun o jC hs=> ?_⟩;rw[fK]at hs;rcases hE.new b o hs with h1|h1
   ·rw[je]at h1;exact jC h1
   ·exact h1 hz
 ·rcases EH m b h1 with⟨i,rfl,a1,a2⟩|⟨a0,a1,a2⟩<;>rcases EH n b h2 with⟨j,rfl,b1,b2⟩|⟨b0,b1,b2⟩
  ·rw[iq.inj i j b a1 b1]
  ·exact absurd b2 a2
  ·exact absurd a2 b2
  ·exact hi.inj m n b a1 b1
theorem bO.Rf{P:ake}{f:FuncId}{args:akb AV}{H:akb aq}{K:AV→akb aq→Prop}(hc:bO P f args H K){l:akb Nat}{h:akb aq}
 (hd:l.Nodup) (aX:∀j∈l,j<h.length) (hH:∀(i j:Nat),l[i]?=some j→h[j]?=(H[i]?).map (aq.aQ (rn l h.length))) (hk:l.length=H.length)
 (ha:args.all (AV.aT H.length)=true) (hb:H.all (aq.aT H.length)=true):
 bO P f (args.map (AV.aQ (rn l h.length))) h fun r' h'=>∃r H',K r H'∧r'=r.aQ (rn l h.length)∧h'=fv l (H'.map (aq.aQ (rn l h.length))) h:=by
 refine⟨hc.1,fun G w vs hi vo hvr=> ?_⟩;obtain⟨G0,cm,ra,qZ,Kh⟩:=R9 hd aX hH hk hb hi;refine(hc.2 G0 w vs ra (by rw[vo,ajs]) fun i u c hu hx=> ?_).mono fun e w' hp=> ?_
 ·rw[ajN]at ha;exact aL.rJ qZ (hvr i u (c.aQ (rn l h.length)) hu (by rw[aju,hx];rfl)) c rfl (by rw[cm];exact ha c (ajA hx))
 ·obtain⟨v,G1,r,H',rfl,hE,fb,iq,hv,hK⟩:=hp;rw[cm]at fb hE;obtain⟨G2,e1,e2,e3,e4⟩:=Kh G1 w' H' hE fb iq;exact⟨v,G2,r.aQ _,_,rfl,e1,e2,e3,hv.aQ e4,r,H',hK,rfl,rfl⟩
mutual
theorem wU{σ τ:Nat→Nat}{k:Nat}(h:∀i,i<k→σ i=τ i):∀x:AV,x.aT k=true→x.aQ σ=x.aQ τ
 | .ptr n off,hb=>by rw[AV.aT]at hb;rw[AV.aQ,AV.aQ,h n (by rw[Bool.not_eq_true',←Bool.not_eq_true,di]at hb;omega)]
 | .own n xs,hb=>by rw[AV.aT]at hb;rw[AV.aQ,AV.aQ,h n (by rw[Bool.not_eq_true',←Bool.not_eq_true,di]at hb;omega)]
 | .row n off len cap q,hb=>by rw[AV.aT]at hb;rw[AV.aQ,AV.aQ,h n (by rw[Bool.not_eq_true',←Bool.not_eq_true,di]at hb;omega)]
 | .mp n,hb=>by rw[AV.aT]at hb;rw[AV.aQ,AV.aQ,h n (by rw[Bool.not_eq_true',←Bool.not_eq_true,di]at hb;omega)]
 | .cE n,hb=>by rw[AV.aT]at hb;rw[AV.aQ,AV.aQ,h n (by rw[Bool.not_eq_true',←Bool.not_eq_true,di]at hb;omega)]
 | .vec n o len L q,hb=>by rw[AV.aT]at hb;rw[AV.aQ,AV.aQ,h n (by rw[Bool.not_eq_true',←Bool.not_eq_true,di]at hb;omega)]
 | .cN n i j L q,hb=>by rw[AV.aT]at hb;rw[AV.aQ,AV.aQ,h n (by rw[Bool.not_eq_true',←Bool.not_eq_true,di]at hb;omega)]
 | .agg cs,hb=>by rw[AV.aT]at hb;rw[AV.aQ,AV.aQ,sT h cs hb]
 | .bk cs,hb=>by rw[AV.aT]at hb;rw[AV.aQ,AV.aQ,sT h cs hb]
 | .fn f cs,hb=>by rw[AV.aT]at hb;rw[AV.aQ,AV.aQ,sT h cs hb]
 | .d x,_=>by rw[AV.aQ,AV.aQ]
 | .bD xs i off,_=>by rw[AV.aQ,AV.aQ]
 | .full xs,_=>by rw[AV.aQ,AV.aQ]
 | .hid c,_=>by rw[AV.aQ,AV.aQ]
 | .dead,_=>by rw[AV.aQ,AV.aQ]
theorem sT{σ τ:Nat→Nat}{k:Nat}(h:∀i,i<k→σ i=τ i):∀l:akb AV,AV.lV k l=true→AV.eH σ l=AV.eH τ l
 |[],_=>by rw[AV.eH,AV.eH]
 |x::l,hb=>by
  rw[AV.lV,ajp]at hb;rw[AV.eH,AV.eH,wU h x hb.1,sT h l hb.2]
end
theorem Kr{σ τ:Nat→Nat}{k:Nat}(h:∀i,i<k→σ i=τ i)(B:aq)(hb:B.aT k=true):B.aQ σ=B.aQ τ:=by
 cases B with
 |cells cs=>rw[aq.aQ,aq.aQ,sT h cs (by rw[lH];exact hb)]
 |lp ls p as bd cs=>rw[aq.aQ,aq.aQ,sT h cs (by rw[lH];exact hb)]
 |it sn cs=>rw[aq.aQ,aq.aQ,sT h cs (by rw[lH];exact hb)]
 |vec e q cs=>
  rw[aq.aQ,aq.aQ]
  congr 1
  refine ajS fun c hc=>sT h c ?_;simp only[aq.aT,ajN]at hb;rw[lH,ajN];exact hb c hc
 |_=>rfl
theorem RM:∀(l:akb Nat)(b c i:Nat),i<l.length→rn l b i=rn l c i
 |[],b,c,i,h=>by simp at h
 |a::l,b,c,0,_=>by rw[rn,rn]
 |a::l,b,c,i+1,h=>by rw[rn,rn];exact RM l b c i (by simpa using h)
def ny:akb Nat→Bool
 |[]=>true
 |a::l=> !l.any (·==a)&&ny l
theorem PY:∀{l:akb Nat},ny l=true→l.Nodup
 |[],_=>List.nodup_nil
 |a::l,h=>by
  rw[ny,ajp,Bool.not_eq_true',←Bool.not_eq_true]at h;rw[List.nodup_cons];exact⟨fun hm=>h.1 (List.any_eq_true.2 ⟨a,hm,by simp⟩),PY h.2⟩
theorem VL:∀(l:akb Nat)(h Bs:akb aq),l.map (fun j=>h[j]?)=Bs.map some→fv l Bs h=h
 |[],h,Bs,e=>by
  cases Bs with
  |nil=>rw[fv,ajI]
  |cons=>simp at e
 |j::l,h,Bs,e=>by
  cases Bs with
  |nil=>simp at e
  |cons B Bs=>
   rw[ajM,ajM]at e;injection e with e1 e2;have hs:h.set j B=h:=by
     refine List.ext_getElem? fun m=> ?_;by_cases em:j=m
     ·subst em;rw[ajQ (ajn.1 e1).1,e1]
     ·rw[ajV em]
   rw[fv,hs];exact VL l h Bs e2
section
variable {P:ake} {f:FuncId} {dB:akb AV} {H:akb aq} {l:akb Nat} {h:akb aq}
theorem Uf{l:akb Nat}{h H:akb aq}{σ:Nat→Nat}(hb:l.map (fun j=>h[j]?)=H.map fun B=>some (B.aQ σ)):l.length=H.length∧(∀j∈l,j<h.length)∧∀(i j:Nat),l[i]?=some j→h[j]?=(H[i]?).map (aq.aQ σ):=by
 have h1:l.length=H.length:=by simpa using congrArg List.length hb
 have key:∀(i j:Nat),l[i]?=some j→∃B,H[i]?=some B∧h[j]?=some (B.aQ σ):=fun i j e=>by
  have aX:i<H.length:=by rw[←h1];exact(ajn.1 e).1
  have:=congrArg (·[i]?) hb;simp only[aju,e,ajr aX,Option.map_some,Option.some.injEq]at this;exact⟨_,ajr aX,this⟩
 refine⟨h1,fun j hj=> ?_,fun i j e=> ?_⟩
 ·obtain⟨i,hi⟩:=List.mem_iff_getElem?.1 hj;obtain⟨B,_,h2⟩:=key i j hi;exact(ajn.1 h2).1
 ·obtain⟨B,h2,h3⟩:=key i j e;rw[h2,h3];rfl
theorem bO.lF{r:AV}{H':akb aq}(hc:bO P f dB H fun r1 h1=>r1=r∧h1=H')(hd:ny l=true)(hb:l.map (fun j=>h[j]?)=H.map fun B=>some (B.aQ (rn l h.length)))(hl:(dB.all (AV.aT H.length)&&H.all (aq.aT H.length))=true):
 bO P f (dB.map (AV.aQ (rn l h.length))) h fun r1 h1=>r1=r.aQ (rn l h.length)∧h1=fv l (H'.map (aq.aQ (rn l h.length))) h:=by
 rw[ajp]at hl;obtain⟨h1,h2,h3⟩:=Uf hb;exact(hc.Rf (PY hd) h2 h3 h1 hl.1 hl.2).mono fun r1 h1 ⟨r2,H2,⟨e1,e2⟩,e3,e4⟩=>by subst e1;subst e2;exact⟨e3,e4⟩
theorem bO.rq{r:AV}(hc:bO P f dB H fun r1 h1=>r1=r∧h1=H)(hd:ny l=true)(hb:l.map (fun j=>h[j]?)=H.map fun B=>some (B.aQ (rn l 0)))(hl:(dB.all (AV.aT H.length)&&H.all (aq.aT H.length)&&r.aT H.length)=true)(e:akb aq):
 bO P f (dB.map (AV.aQ (rn l 0))) (h++e) fun r1 h1=>r1=r.aQ (rn l 0)∧h1=h++e:=by
 rw[ajp,ajp]at hl;obtain⟨⟨l1,l2⟩,l3⟩:=hl;obtain⟨h1,h2,_⟩:=Uf hb;have KH:∀i,i<H.length→rn l (h++e).length i=rn l 0 i:=fun i hi=>RM l _ _ i (by rw[h1];exact hi);have iP:H.map (fun B=>some (B.aQ (rn l (h++e).length)))=H.map fun B=>some (B.aQ (rn l 0)):=by
   refine ajS fun B hB=> ?_;rw[ajN]at l2;rw[Kr KH B (l2 B hB)]
 have jM:l.map (fun j=>(h++e)[j]?)=H.map fun B=>some (B.aQ (rn l (h++e).length)):=by
  rw[iP,←hb];refine ajS fun j hj=> ?_;rw[ajx (h2 j hj)]
 have:=hc.lF hd jM (by rw[l1,l2];rfl);have ha:dB.map (AV.aQ (rn l (h++e).length))=dB.map (AV.aQ (rn l 0)):=by
  refine ajS fun x hx=> ?_;rw[ajN]at l1;exact wU KH x (l1 x hx)
 rw[ha,wU KH r l3]at this;refine this.mono fun r1 h1 ⟨e1,e2⟩=>⟨e1,?_⟩;rw[e2];refine VL l _ _ ?_;rw[jM,List.map_map];rfl
end
end Go.Proofs.YtpgmcallngdceaaGreatDoor
namespace Go.Proofs.YtpgmcallngdceaaGreatDoor
open Go.RowKit
def aq.vd:aq→Prop
 | .vec _ _ cs=>(∀f,cs.map (AV.eH f)=cs)∧∀m,cs.all (·.all (AV.aT m))=true
 |_=>True
theorem XJ(f:Nat→Nat)(c:akb D):AV.eH f (c.map AV.d)=c.map AV.d:=by
 induction c with
 |nil=>simp [AV.eH]
 |cons x c ih=>simp only[ajM,AV.eH,AV.aQ,ih]
theorem afH(xs:akb (akb D)):(∀f,(bo xs).map (AV.eH f)=bo xs)∧∀m,(bo xs).all (·.all (AV.aT m))=true:=by
 refine⟨fun f=> ?_,fun m=>by simp [bo,AV.aT]⟩;unfold bo;rw[List.map_map];exact ajS fun c _=>XJ f c
def VD:akb aq→Prop
 |[]=>True
 |B::l=>B.vd∧VD l
theorem po:VD []:=trivial
theorem vM{e k:Nat}{xs:akb (akb D)}{l:akb aq}(h:VD l):VD (.vec e k (bo xs)::l):=⟨afH xs,h⟩
theorem VD.mem:∀{l:akb aq},VD l→∀B∈l,B.vd
 |[],_,B,hB=>by cases hB
 |_::_,h,B,hB=>by
  rcases ajR.1 hB with rfl|hB
  ·exact h.1
  ·exact VD.mem h.2 B hB
def aq.oM(f:Nat→Nat):aq→aq
 | .vec e k cs=> .vec e k cs
 |B=>B.aQ f
theorem SA{f:Nat→Nat}{B:aq}(h:B.vd):B.oM f=B.aQ f:=by
 cases B with
 |vec e k cs=>simp only[aq.oM,aq.aQ];rw[h.1 f]
 |_=>rfl
theorem agZ{f:Nat→Nat}{l:akb aq}(h:VD l):l.map (aq.oM f)=l.map (aq.aQ f):=ajS fun B hB=>SA (h.mem B hB)
def aq.sH(m:Nat):aq→Bool
 | .vec .. =>true
 |B=>B.aT m
theorem aeQ{m:Nat}{B:aq}(h:B.vd)(hl:B.sH m=true):B.aT m=true:=by
 cases B with
 |vec e k cs=>exact h.2 m
 |_=>exact hl
theorem abz{m:Nat}{l:akb aq}(h:VD l)(hl:l.all (aq.sH m)=true):l.all (aq.aT m)=true:=by
 rw[ajN]at hl ⊢;exact fun B hB=>aeQ (h.mem B hB) (hl B hB)
theorem ZO{f:Nat→Nat}{l:akb aq}(h:VD l):(l.map fun B=>some (B.oM f))=l.map fun B=>some (B.aQ f):=ajS fun B hB=>congrArg some (SA (h.mem B hB))
inductive In
 |none
 |bit (x:AV)
 |eq (x:AV)
 |el (xs:List (List D)) (i:Int)
 |lt (z:Int) (n:Nat)
 |len (xs:List (List D))
 |sub (xs:List (List D)) (lo:Int) (hi:Option Int) (k:Nat)
 |app (xs ys:List (List D)) (len k ct:Nat)
 |nz (b:Int)
 |nn (b:Int)
 |str (b:ByteArray) (lo hi:Int)
 |cat (n:Nat)
 |pr (p:Prop)
 |sd (p:Sd)
 |Fz (xs:List (List D))
 |FK (c:List D) (z:Int) (n:Nat)
 |ch (b:ByteArray) (i:Int)
 |call (f:FuncId) (args:List AV)
 |jd (f:FuncId) (args:List AV) (h:List aq)
 |Bn (c:fM) (args:List AV)
 |lF (f:FuncId) (args:List AV) (h:List aq)
def KC(P:ake)(c:fM)(args:akb AV)(r:AV):Prop:=∃g cs,c= .fn g cs∧aG P g (args++cs.map fM.av) (·=r)
inductive bX
 |none
 |bit (b:Bool)
 |D7
 |eq (y:AV)
 |el (c:List D)
 |ok
 |nat (n:Nat)
 |list (ys:List (List D))
 |Su (ys:List (List D)) (n:Nat)
 |byte (c:UInt8)
 |bytes (s:ByteArray)
 |one (d:D)
 |va (a:VA)
 |ret (r:AV)
 |NQ (r:AV) (h:List aq)
 |No (l:List Nat) (dB:List AV) (H:List aq) (r:AV) (H':List aq)
 |rq (l:List Nat) (dB:List AV) (H:List aq) (r:AV)
 |A3 (l:List Nat) (dB:List AV) (H:List aq) (r:AV) (H':List aq)
inductive OK(P:Program):In→bX→Prop
 |none {o:bX}:OK P .none o
 |bit {e b:Bool} (h:e=b):OK P (.bit (.d (.v (.bool e)))) (.bit b)
 |D7:OK P (.bit (.d (.v undef))) .D7
 |eq {x y:AV} (h:x=y):OK P (.eq x) (.eq y)
 |el {xs:List (List D)} {i:Int} {c:List D} (h0:0≤i) (h:xs[i.toNat]?=some c):OK P (.el xs i) (.el c)
 |lt {z:Int} {n:Nat} (h0:0≤z) (h:z<n):OK P (.lt z n) .ok
 |len {xs:List (List D)} {n:Nat} (h:xs.length=n):OK P (.len xs) (.nat n)
 |sub {xs ys:List (List D)} {lo hi:Int} {k:Nat} (h0:0≤lo) (h1:lo.toNat≤hi.toNat) (h2:0≤hi) (h3:hi.toNat≤xs.length) (hk:∀c∈xs,c.length=k) (h:(xs.take hi.toNat).drop lo.toNat=ys):OK P (.sub xs lo (some hi) k) (.list ys)
 |CE {xs ys:List (List D)} {lo:Int} {k:Nat} (h0:0≤lo) (h1:lo.toNat≤xs.length) (hk:∀c∈xs,c.length=k) (h:xs.drop lo.toNat=ys):OK P (.sub xs lo .none k) (.list ys)
 |app {xs ys zs:List (List D)} {len k ct n:Nat} (hl:len=xs.length) (hx:∀c∈xs,c.length=k) (hy:∀c∈ys,c.length=k) (hm:xs.length+ys.length≤maxLen) (hb:(xs.length+ys.length)*ct≤140737488355328) (hz:xs++ys=zs) (hn:xs.length+ys.length=n):OK P (.app xs ys len k ct) (.Su zs n)
 |nz {b:Int} (h:b≠0):OK P (.nz b) .ok
 |nn {b:Int} (h:0≤b):OK P (.nn b) .ok
 |str {b:ByteArray} {lo hi:Int} (h0:0≤lo) (h1:lo.toNat≤hi.toNat) (h2:0≤hi) (h3:hi.toNat≤b.size):OK P (.str b lo hi) .ok
 |ch {b:ByteArray} {i:Int} {c:UInt8} (h0:0≤i) (h:b[i.toNat]?=some c):OK P (.ch b i) (.byte c)
 |cat {n:Nat} (h:n≤maxLen):OK P (.cat n) .ok
 |pr {p:Prop} (a:VA) (h:p):OK P (.pr p) (.va a)
 |sd {p:Sd} {o:bX} (h:p.ok):OK P (.sd p) o
 |Fz {xs:List (List D)} {s:ByteArray} (h:∃ns:List Int,xs=ns.map (fun n=>[.v (.int .u8 n)])∧s=⟨(ns.map fun n=>UInt8.ofNat n.toNat).toArray⟩):OK P (.Fz xs) (.bytes s)
 |FK {c:List D} {z:Int} {n:Nat} {d:D} (h0:0≤z) (h1:z<n) (h:c[z.toNat]?=some d):OK P (.FK c z n) (.one d)
 |call {f:FuncId} {args:List AV} {r:AV} (h:aG P f args (·=r)):OK P (.call f args) (.ret r)
 |Bn {c:fM} {args:List AV} {r:AV} (h:KC P c args r):OK P (.Bn c args) (.ret r)
 |lF {f:FuncId} {ld dB:List AV} {h H H':List aq} {l:List Nat} {r:AV} (ha:ld=dB.map (AV.aQ (rn l h.length))) (hd:ny l=true) (hb:l.map (fun j=>h[j]?)=H.map fun B=>some (B.aQ (rn l h.length))) (hl:(dB.all (AV.aT H.length)&&H.all (aq.aT H.length))=true)
  (hc:bO P f dB H fun r1 h1=>r1=r∧h1=H'):OK P (.lF f ld h) (.No l dB H r H')
 |Ws {f:FuncId} {ld dB:List AV} {h H H':List aq} {l:List Nat} {r:AV} (mT:VD H) (hv:VD H') (ha:ld=dB.map (AV.aQ (rn l h.length))) (hd:ny l=true) (hb:l.map (fun j=>h[j]?)=H.map fun B=>some (B.oM (rn l h.length))) (hl:(dB.all (AV.aT H.length)&&H.all (aq.sH H.length))=true)
  (hc:bO P f dB H fun r1 h1=>r1=r∧h1=H'):OK P (.lF f ld h) (.A3 l dB H r H')
 |rq {f:FuncId} {ld dB:List AV} {h H:List aq} {l:List Nat} {r:AV} (ha:ld=dB.map (AV.aQ (rn l 0))) (hd:ny l=true) (hb:l.map (fun j=>h[j]?)=H.map fun B=>some (B.aQ (rn l 0))) (hl:(dB.all (AV.aT H.length)&&H.all (aq.aT H.length)&&r.aT H.length)=true)
    (hc:bO P f dB H fun r1 h1=>r1=r∧h1=H):OK P (.lF f ld h) (.rq l dB H r)
 |jd {f:FuncId} {args:List AV} {h h':List aq} {r:AV} (hc:bO P f args h fun r1 h1=>r1=r∧h1=h'):OK P (.jd f args h) (.NQ r h')
def Ad(P:ake)(t:TypeId)(cs:akb AV)(off:Nat):akd AV:=
 match kE P t,eF P t with
 |some true,some k=>bif cf (off+k) cs.length then some (.agg ((cs.drop off).take k))else none
 |some false,some _=>cs[off]?
 |_,_=>none
def w9(h:akb aq)(p:AV):akd (akb AV×Nat):=
 match p with
 | .ptr n off=>match h[n]? with
   |some (.cells cs)=>some (cs,off)
   |_=>none
 | .bD xs i off=>match xs[i]? with
   |some c=>some (c.map .d,off)
   |none=>none
 |_=>none
def MQ(x:AV)(i:akd Int)(k:Nat)(a:bX):akd (AV×In):=
 match x.ej,i,a with
 |some xs,some z, .el c=>bif c.length==k then some (.bD [c] 0 0, .el xs z)else none
 |_,_,_=>none
def Mt(P:ake)(T:TypeId)(x i:AV)(a:bX):akd (AV×In):=
 match dF P T with
 |some (_,k)=>
  match x with
  | .row n off len _ k'=>match i.int? with
    |some z=>bif k'==k then some (.ptr n (off+z.toNat*k), .lt z len)else none
    |none=>none
  |x=>MQ x i.int? k a
 |none=>match rK P T,x,i.int? with
  |some (n,_,k), .ptr b off,some z=>some (.ptr b (off+z.toNat*k), .lt z n)
  |some (n,_,k), .bD [c] 0 0,some z=>match a with
   | .one d=>bif k==1 then some (.bD [[d]] 0 0, .FK c z n)else none
   |_=>none
  |_,_,_=>none
def K3(P:ake)(T:TypeId)(x:AV)(a:bX):akd (AV×In):=
 match x with
 | .d (.v (.string s))=>bif fA P T then some (.d (.v (.int .i64 s.size)), .none)else none
 | .row _ _ len _ _=>bif (dF P T).isSome then some (.d (.v (.int .i64 len)), .none)else none
 |x=>match x.ej,a with
  |some xs, .nat n=>bif (dF P T).isSome then some (.d (.v (.int .i64 n)), .len xs)else none
  |_,_=>none
def oN(l:akd Int)(d:Nat):Nat:=match l with|some z=>z.toNat|none=>d
def Dw(ρ:Operand→AV):akd Operand→akd (akd Int)
 |none=>some none
 |some y=>match (ρ y).int? with
  |some z=>some (some z)
  |none=>none
def Om(P:ake)(T:TypeId)(ρ:Operand→AV)(x:AV)(lo hi mx:akd Operand)(a:bX):akd (AV×In):=
 match mx with
 |none=>match Dw ρ lo,Dw ρ hi with
  |some l,some h=>match x with
   | .d (.v (.string b))=>bif fA P T then some (.d (.v (.string (b.extract (oN l 0) (oN h b.size)))), .str b (l.getD 0) (h.getD b.size))else none
   | .ptr n off=>match rK P T,l,h with
     |some (m,_,k),none,none=>bif cf m 4096&& !cf m 0 then some (.row n off m m k, .none)else none
     |_,_,_=>none
   |x=>match x.ej,dF P T,a with
    |some xs,some (_,k), .list ys=>some (.d (.sl ys), .sub xs (l.getD 0) h k)
    |_,_,_=>none
  |_,_=>none
 |some m=>match lo,hi,ρ m with
  |none,some y, .d (.v (.int _ 0))=>match x.ej,dF P T,ρ y,a with
   |some xs,some (_,k), .d (.v (.int _ 0)), .list _=>some (.full [], .sub xs 0 (some 0) k)
   |_,_,_,_=>none
  |_,_,_=>none
def F1(h:akb aq)(k:Nat)(x:AV):akd (akb (akb D)):=
 match x with
 | .row n off len _ k'=>match h[n]? with
   |some (.cells cs)=>match lX ((cs.drop off).take (len*k))with
    |some ds=>bif k'==k&&cf (off+len*k) cs.length&&((cs.drop off).take (len*k)).all AV.iX then some (l4 k len ds)else none
    |none=>none
   |_=>none
 |x=>x.ej
def Ml(P:ake)(T:TypeId)(h:akb aq)(x y:AV)(a:bX):akd (AV×akb aq×In):=
 match dF P T,a with
 |some (e,k), .Su zs n'=>match gD P e,qS P e with
  |some z,some ct=>bif cf 1 k&&z.cells.toList.length==k then
   match F1 h k y with
   |some ys=>match x with
    | .own n xs=>match h[n]? with
      |some (.front e' k' len)=>bif e'==e&&k'==k then some (.own n zs,h.set n (.front e k n'), .app xs ys len k ct)else none
      |_=>none
    | .d (.v (.slice none 0 0))=>some (.own h.length zs,h++[.front e k n'], .app [] ys 0 k ct)
    | .full xs=>some (.own h.length zs,h++[.front e k n'], .app xs ys xs.length k ct)
    |_=>none
   |none=>none
   else none
  |_,_=>none
 |_,_=>none
def Ke(P:ake)(T:TypeId)(ps:akb (Nat×AV)):akd AV:=
 match N1 P T,gD P T with
 |some places,some z=>match nA places (z.cells.toList.map fun u=> .d (.v u)) ps with
  |some cs=>bif (ps.all fun p=>p.2.gR)&&z.cells.toList.all Value.oneCell' then some (.agg cs)else none
  |none=>none
 |_,_=>none
def MI(P:ake)(T:TypeId)(len:Nat)(ps:akb (Nat×AV)):akd AV:=
 match dF P T with
 |some (e,k)=>match gD P e with
  |some z=>match nA (ua k 0 len) (qE len (z.cells.toList.map fun u=> .d (.v u))) ps with
   |some cs=>match lX cs with
    |some ds=>bif cf 1 k&&cf (len*k) 16777216&&z.cells.toList.length==k&&z.cells.toList.all Value.oneCell'&&(ps.all fun p=>p.2.gR)then some (.full (l4 k len ds))else none
    |none=>none
   |none=>none
  |none=>none
 |none=>none
def FC(P:ake)(T:TypeId)(op:BinOp)(x y:AV):akd (AV×In):=
 match x,y with
 | .d (.v (.int k a)), .d (.v (.int k' b))=>
   match OR op k a b with
   |some v=>bif vx k k' then some (.d (.v v), .nz b)else none
   |none=>match Oj op k a b with
    |some v=>some (.d (.v v), .nn b)
    |none=>match Og op k a b with
     |some v=>bif vx k k' then some (.d (.v v), .none)else none
     |none=>none
 | .d (.v (.string a)), .d (.v (.string b))=>match MG op a b with
   |some v=>some (.d (.v v), .none)
   |none=>match op with
    | .add=>some (.d (.v (.string (a++b))), .cat (a.size+b.size))
    |_=>none
 | .d (.v (.bool a)), .d (.v (.bool b))=>match OL op a b with
   |some v=>bif xS P T then some (.d (.v v), .none)else none
   |none=>none
 | .agg xs, .agg ys=>match Js P T xs ys with
   |some b=>match wm op b with
    |some v=>some (.d (.v v), .none)
    |none=>none
   |none=>none
 |_,_=>none
def Fp(P:ake)(src dst:TypeId)(x:AV)(a:bX):akd (AV×In):=
 match x with
 | .d (.v (.int _ n))=>match pL P src,pL P dst with
   |some _,some k=>some (.d (.v (.int k (k.wrap n))), .none)
   |_,_=>none
 | .d (.v (.string b))=>bif fA P src&&fA P dst then some (.d (.v (.string b)), .none)else none
 |x=>match x.ej,dF P src,a with
  |some xs,some (e,_), .bytes s=>bif EG P e&&fA P dst then some (.d (.v (.string s)), .Fz xs)else none
  |_,_,_=>none
def HG(P:ake)(T:TypeId)(x:AV)(f:Nat):akd AV:=
 match rj P T f,x with
 |some (off,k,true), .agg cs=>bif cf (off+k) cs.length then some (.agg ((cs.drop off).take k))else none
 |some (off,_,false), .agg cs=>cs[off]?
 |_,_=>none
def IK(h:akb aq):akd AV→akd (AV×akb aq×In)
 |some x=>some (x,h, .none)
 |none=>none
def yc(h:akb aq):akd (AV×In)→akd (AV×akb aq×In)
 |some (x,i)=>some (x,h,i)
 |none=>none
mutual
def AV.nrm:AV→AV
 | .full xs=> .d (.sl xs)
 | .d (.v (.slice none 0 0))=> .d (.sl [])
 | .agg cs=> .agg (AV.vB cs)
 | .bk cs=> .bk (AV.vB cs)
 |x=>x
def AV.vB:akb AV→akb AV
 |[]=>[]
 |x::l=>x.nrm::AV.vB l
end
mutual
def AV.cap:AV→akd fM
 | .d x=>some (.d x)
 | .own _ xs=>some (.d (.sl xs))
 | .full xs=>some (.d (.sl xs))
 | .bD xs i off=>match xs[i]? with
   |some c=>some (.bD c off)
   |none=>none
 | .fn f cs=>match AV.yR cs with
   |some l=>some (.fn f l)
   |none=>none
 | .hid c=>some c
 |_=>none
def AV.yR:akb AV→akd (akb fM)
 |[]=>some []
 |x::l=>match x.cap,AV.yR l with
  |some c,some l=>some (c::l)
  |_,_=>none
end
def AV.DR:AV→AV
 | .fn f cs=>match AV.yR cs with
   |some l=> .hid (.fn f l)
   |none=> .fn f cs
 |x=>x
def AV.arg(x:AV):AV:=((x.bA 0).nrm).DR
def AV.mC(x:AV):AV:=(x.bA 0).nrm
def sdI:Sd→In
 | .no=> .none
 |p=> .sd p
def xR:akd (AV×akb aq×Sd)→akd (AV×akb aq×In)
 |some (x,h,p)=>some (x,h,sdI p)
 |none=>none
def vj(P:ake)(op:Op)(ρ:Operand→AV)(h:akb aq)(a:bX):akd (AV×akb aq×In):=
 match op with
 | .move x| .assign x=>some (ρ x,h, .none)
 | .pick c x y=>match a with
   | .bit b=>some (bif b then ρ x else ρ y,h, .bit (ρ c))
   |_=>none
 | .alloc e=>match gD P e with
   |some z=>some (.ptr h.length 0,h++[aq.cells (z.cells.toList.map fun u=> .d (.v u))], .none)
   |none=>none
 | .box _ x=>bif (ρ x).gR then some (.ptr h.length 0,h++[aq.cells (ρ x).cells], .none)else none
 | .load t p=>match w9 h (ρ p)with
   |some (cs,off)=>match Ad P t cs off with
    |some x=>some (x,h, .none)
    |none=>none
   |none=>none
 | .store t p x=>match ρ p with
   | .ptr n off=>match h[n]? with
     |some (.cells cs)=>match eF P t with
      |some k=>bif k==(ρ x).cells.length&&(ρ x).gR&&cf (off+(ρ x).cells.length) cs.length then some (.d (.v undef),h.set n (.cells (fI cs off (ρ x).cells)), .none)else none
      |none=>none
     |_=>none
   |_=>none
 | .nilCheck x=>match ρ x with
   | .ptr n off=>some (.ptr n off,h, .none)
   | .bD xs i off=>some (.bD xs i off,h, .none)
   | .fn f cs=>some (.fn f cs,h, .none)
   |_=>none
 | .fieldAddr S x f=>match rj P S f with
   |some (fo,_,_)=>match ρ x with
    | .ptr n off=>some (.ptr n (off+fo),h, .none)
    | .bD xs i off=>some (.bD xs i (off+fo),h, .none)
    |_=>none
   |none=>none
 | .field T x f=>IK h (HG P T (ρ x) f)
 | .indexAddr T x i=>yc h (Mt P T (ρ x) (ρ i) a)
 | .index T x i=>match ρ x,(ρ i).int?,a with
   | .d (.v (.string b)),some z, .byte c=>bif fA P T then some (.d (.v (.int .u8 c.toNat)),h, .ch b z)else none
   |_,_,_=>none
 | .build T ps=>IK h (Ke P T (ps.toList.map fun p=>(p.1,ρ p.2)))
 | .buildSlice T len ps=>IK h (MI P T len (ps.toList.map fun p=>(p.1,ρ p.2)))
 | .slice T x lo hi mx=>yc h (Om P T ρ (ρ x) lo hi mx a)
 | .extract x i=>match ρ x with
   | .bk cs=>match cs[i]? with
     |some c=>some (c,h, .none)
     |none=>none
   |_=>none
 | .makeFunc (.func f) first cV=>match first.toList with
   |[]=>some (.fn f (cV.toList.map ρ),h, .none)
   |_=>none
 | .binOp op T x y _=>yc h (FC P T op (ρ x) (ρ y))
 | .unOp op _ x=>match ρ x with
   | .d (.v u)=>match FW op u with
     |some v=>some (.d (.v v),h, .none)
     |none=>none
   |_=>none
 | .convert s t x=>yc h (Fp P s t (ρ x) a)
 | .call c=>match c.callee with
   | .builtin .len=>match c.args.toList,c.argTypes.toList with
     |[x],[T]=>yc h (K3 P T (ρ x) a)
     |_,_=>none
   | .builtin .append=>match c.args.toList,c.argTypes.toList with
     |[x,y],[T,U]=>bif (dF P U).isSome then Ml P T h (ρ x) (ρ y) a else none
     |_,_=>none
   | .builtin .max=>match AS true (c.args.toList.map ρ)with
     |some (k,a)=>some (.d (.v (.int k a)),h, .none)
     |none=>none
   | .builtin .min=>match AS false (c.args.toList.map ρ)with
     |some (k,a)=>some (.d (.v (.int k a)),h, .none)
     |none=>none
   | .value f=>match ρ f,a with
     | .fn g cV, .ret r=>bif ((c.args.toList.map ρ++cV).map AV.arg).all (AV.aT 0)&&r.aT 0 then some (r,h, .call g ((c.args.toList.map ρ++cV).map AV.arg))else none
     | .fn g cV, .NQ r h'=>some (r,h', .jd g (c.args.toList.map ρ++cV) h)
     | .fn g cV, .No l _ _ r H'=>some (r.aQ (rn l h.length),fv l (H'.map (aq.aQ (rn l h.length))) h, .lF g ((c.args.toList.map ρ++cV).map AV.mC) h)
     | .fn g cV, .A3 l _ _ r H'=>some (r.aQ (rn l h.length),fv l (H'.map (aq.oM (rn l h.length))) h, .lF g ((c.args.toList.map ρ++cV).map AV.mC) h)
     | .fn g cV, .rq l _ _ r=>some (r.aQ (rn l 0),h, .lF g ((c.args.toList.map ρ++cV).map AV.mC) h)
     | .hid q, .ret r=>bif ((c.args.toList.map ρ).map AV.arg).all (AV.aT 0)&&r.aT 0 then some (r,h, .Bn q ((c.args.toList.map ρ).map AV.arg))else none
     |_,_=>none
   |_=>none
 |op=>xR (nq P op ρ h)
theorem Jo:∀l,AV.vB l=l.map AV.nrm
 |[]=>by simp [AV.vB]
 |x::l=>by simp [AV.vB,Jo l]
theorem aL.nrm{G:Gh}{w:akg}{u:akf}{x:AV}(h:aL G w u x):aL G w u x.nrm:=by
 have eZ:∀(vs:Array akf)(cs:akb AV),(∀(i:Nat)(u:akf)(c:AV),vs[i]?=some u→cs[i]?=some c→aL G w u c.nrm)→∀(i:Nat)(u:akf)(c:AV),vs[i]?=some u→(AV.vB cs)[i]?=some c→aL G w u c:=by
  intro vs cs ih i u c hu hc;rw[Jo,aju]at hc;cases hx:cs[i]? with
  |none=>rw[hx]at hc;cases hc
  |some x=>rw[hx]at hc;cases hc;exact ih i u x hu hx
 induction h with
 |agg vs cs hl _ ih=>rw[AV.nrm];exact .agg vs _ (by rw[Jo,ajs];exact hl) (eZ vs cs ih)
 |bk vs cs hl _ ih=>rw[AV.nrm];exact .bk vs _ (by rw[Jo,ajs];exact hl) (eZ vs cs ih)
 |full xs hp hf=>rw[AV.nrm];exact .d hp
 | @d u x h=>
   by_cases hx:x= .v (.slice none 0 0)
   ·subst hx;cases h with|v=>simp only[AV.nrm];exact .d H8
   ·have:(AV.d x).nrm= .d x:=by
     unfold AV.nrm;split<;>simp_all
    rw[this];exact .d h
 |own n xs h hp hle hf=>simp only[AV.nrm];exact .own n xs h hp hle hf
 |ptr n off h=>simp only[AV.nrm];exact .ptr n off h
 |bD xs i off b o u x hx hS hu=>simp only[AV.nrm];exact .bD xs i off b o u x hx hS hu
 |row n off len cap k h hl hm=>simp only[AV.nrm];exact .row n off len cap k h hl hm
 |fn f vs cs hl h=>simp only[AV.nrm];exact .fn f vs cs hl h
 |mp n h=>simp only[AV.nrm];exact .mp n h
 |cE n h=>simp only[AV.nrm];exact .cE n h
 |vec n o len L k h hs hL hf=>simp only[AV.nrm];exact .vec n o len L k h hs hL hf
 |cN n i j L k h hs hL hf=>simp only[AV.nrm];exact .cN n i j L k h hs hL hf
 |hid h h1=>simp only[AV.nrm];exact .hid h h1
 |dead u=>simp only[AV.nrm];exact .dead u
theorem QH:∀(cs:akb AV)(l:akb fM),AV.yR cs=some l→cs.length=l.length∧∀(i:Nat)(x:AV)(c:fM),cs[i]?=some x→l[i]?=some c→x.cap=some c
 |[],l,h=>by
  unfold AV.yR at h;cases h;exact⟨rfl,fun i x c hx=>by simp at hx⟩
 |x::cs,l,h=>by
  unfold AV.yR at h;split at h
  ·next c l' e1 e2=>
   cases h
   obtain⟨h1,h2⟩:=QH cs l' e2;refine⟨by simp [h1],fun i y d hy hd=> ?_⟩
   match i with
   |0=>simp only[List.getElem?_cons_zero,Option.some.injEq]at hy hd;subst hy;subst hd;exact e1
   |i+1=>exact h2 i y d (by simpa using hy) (by simpa using hd)
  ·cases h
theorem aL.cap{G:Gh}{w:akg}{u:akf}{x:AV}(h:aL G w u x):∀c,x.cap=some c→nK G.S w u c:=by
 induction h with
 |d h=>intro c hc;simp only[AV.cap]at hc;cases hc;exact .d h
 |own n xs h hp hle hf=>intro c hc;simp only[AV.cap]at hc;cases hc;exact .d hp
 |full xs hp hf=>intro c hc;simp only[AV.cap]at hc;cases hc;exact .d hp
 |bD xs i off b o u x hx hS hu=>
  intro c hc;simp only[AV.cap,hx]at hc;cases hc
  exact .bD x off b o u hS hu
 |fn f vs cs hl h ih=>
  intro c hc;simp only[AV.cap]at hc;split at hc
  ·next l e=>
   cases hc
   obtain⟨h1,h2⟩:=QH cs l e;refine .fn f vs l (hl.trans h1) fun i v d hv hd=> ?_;have aX:i<cs.length:=by rw[h1];exact(ajn.1 hd).1
   exact ih i v _ hv (ajr aX) d (h2 i _ d (ajr aX) hd)
  ·cases hc
 |hid h h1=>intro c hc;simp only[AV.cap]at hc;cases hc;exact h
 |agg=>intro c hc;simp [AV.cap]at hc
 |bk=>intro c hc;simp [AV.cap]at hc
 |ptr=>intro c hc;simp [AV.cap]at hc
 |row=>intro c hc;simp [AV.cap]at hc
 |mp=>intro c hc;simp [AV.cap]at hc
 |cE=>intro c hc;simp [AV.cap]at hc
 |vec=>intro c hc;simp [AV.cap]at hc
 |cN=>intro c hc;simp [AV.cap]at hc
 |dead=>intro c hc;simp [AV.cap]at hc
theorem AV.Le.DR(x:AV):AV.Le x x.DR:=fun G w u h=>by
 unfold AV.DR;split
 ·next f cs=>
  split
  ·next l e=>
   have:=h.cap (.fn f l) (by simp only[AV.cap,e]);cases h with|fn=>exact .hid this rfl
  ·exact h
 ·exact h
theorem AV.Le.arg(x:AV):AV.Le x x.arg:=fun _ _ _ h=>AV.Le.DR _ _ _ _ (h.bA 0).nrm
theorem bO.args{P:ake}{f:FuncId}{as:akb AV}{h:akb aq}{K:AV→akb aq→Prop}(hc:bO P f as h K)(bs:akb AV)(hl:as.length=bs.length)(hle:∀(i:Nat)(c d:AV),bs[i]?=some c→as[i]?=some d→AV.Le c d):bO P f bs h K:=
 ⟨hc.1,fun G w vs hi hs hr=>hc.2 G w vs hi (hs.trans hl.symm) fun i u d hu hd=>by
  have aX:i<bs.length:=by rw[←hl];exact(ajn.1 hd).1
  exact hle i _ d (ajr aX) hd G w u (hr i u _ hu (ajr aX))⟩
theorem bO.QS{P:ake}{f:FuncId}{as:akb AV}{h:akb aq}{K:AV→akb aq→Prop}(hc:bO P f (as.map AV.arg) h K):bO P f as h K:=
 hc.args as (by rw[ajs]) fun i c d hc hd=>by
  rw[aju,hc]at hd;cases hd;exact AV.Le.arg c
theorem AV.Le.mC(x:AV):AV.Le x x.mC:=fun _ _ _ h=>(h.bA 0).nrm
theorem bO.JF{P:ake}{f:FuncId}{as:akb AV}{h:akb aq}{K:AV→akb aq→Prop}(hc:bO P f (as.map AV.mC) h K):bO P f as h K:=
 hc.args as (by rw[ajs]) fun i c d hc hd=>by
  rw[aju,hc]at hd;cases hd;exact AV.Le.mC c
theorem ahS(l:akb fM):(l.map fM.av).all (AV.aT 0)=true:=by
 rw[ajN];intro x hx;obtain⟨c,_,rfl⟩:=List.mem_map.1 hx;cases c<;>rfl
theorem KC.use{P:ake}{q:fM}{args:akb AV}{r:AV}{h:akb aq}{C:AV→akb aq→Prop}(hc:KC P q (args.map AV.arg) r)(ha:(args.map AV.arg).all (AV.aT 0)=true)(hr:r.aT 0=true)(hC:C r h):∃g cs,q= .fn g cs∧bO P g (args++cs.map fM.av) h C:=by
 obtain⟨g,cs,rfl,hc⟩:=hc;refine⟨g,cs,rfl,bO.args (hc.use (h:=h) (C:=C) (by rw[List.all_append,ha,ahS];rfl) hr hC) _ (by simp) fun i c d h1 h2=> ?_⟩;by_cases hi:i<args.length
 ·rw[ajx hi]at h1;rw[ajx (by simpa using hi),aju,h1]at h2;cases h2;exact AV.Le.arg c
 ·rw[ajD (by omega)]at h1;rw[ajD (by simpa using hi),ajs,h1]at h2;cases h2;exact AV.Le.refl c
theorem dq{α:Type}{b:Bool}{x y:α}(h:(bif b then some x else none)=some y):b=true∧x=y:=by
 cases b with
 |true=>exact⟨rfl,ajG h⟩
 |false=>cases h
theorem l5{α:Type}{b:Bool}{x:akd α}{y:α}(h:(bif b then x else none)=some y):b=true∧x=some y:=by
 cases b with
 |true=>exact⟨rfl,h⟩
 |false=>cases h
section
variable {P:ake} {ρ:Operand→AV} {h h':akb aq} {a:bX} {i:In} {x:AV} {C:AV→akb aq→Prop}
theorem OK.F7{x:AV}{b:Bool}(h:OK P (.bit x) (.bit b)):x= .d (.v (.bool b)):=by
 cases h with|bit h=>subst h;rfl
theorem Kx{t:TypeId}{p:AV}{cs:akb AV}{off:Nat}{K:AV→Prop}(h1:w9 h p=some (cs,off))(h2:Ad P t cs off=some x)(hK:K x):mm P t h p K:=by
 have key:(match kE P t,eF P t with
     |some true,some k=>ee (cf (off+k) cs.length) (K (.agg ((cs.drop off).take k)))
     |some false,some _=>match cs[off]? with
      |some c=>K c
      |none=>False
     |_,_=>False):=by
  unfold Ad at h2;split at h2
  ·next k e1 e2=>
   obtain⟨h3,rfl⟩:=dq h2;exact bN.2 ⟨h3,hK⟩
  ·next k e1 e2=>rw[h2];exact hK
  ·cases h2
 unfold mm qk;unfold w9 at h1;split at h1
 ·split at h1
  ·next ca e=>cases h1;simp only[e];exact key
  ·cases h1
 ·split at h1
  ·next c e=>cases h1;simp only[e];exact key
  ·cases h1
 ·cases h1
theorem aeY{y:AV}{z:akd Int}{k:Nat}(h1:MQ y z k a=some (x,i))(bY:OK P i a):∃xs w c,y.ej=some xs∧z=some w∧0≤w∧xs[w.toNat]?=some c∧c.length=k∧x= .bD [c] 0 0:=by
 unfold MQ at h1;split at h1
 ·next xs w c hx=>
  obtain⟨hk,he⟩:=dq h1;cases he
  cases bY with
  |el h0 hc=>exact⟨_,_,_,hx,rfl,h0,hc,by simpa using hk,rfl⟩
 ·cases h1
theorem abK{T:TypeId}{y z:AV}{K:AV→Prop}(h1:Mt P T y z a=some (x,i))(bY:OK P i a)(hK:K x):pG P T y z K:=by
 unfold Mt at h1;unfold pG;cases hT:dF P T with
 |some p=>
  obtain⟨e,k⟩:=p;simp only[hT]at h1 ⊢;cases y with
  |row n off len cap k'=>
   simp only at h1 ⊢;split at h1
   ·next w hw=>
    obtain⟨hk,he⟩:=dq h1;cases he
    cases bY with|lt h0 hl=>simp only[hw];exact bN.2 ⟨hk,h0,hl,hK⟩
   ·cases h1
  |_=>
   obtain⟨xs,w,c,e1,e2,e3,e4,e5,rfl⟩:=aeY h1 bY;simp only[e1,e2,e4,e5];exact⟨e3,trivial,hK⟩
 |none=>
  simp only[hT]at h1 ⊢;split at h1
  ·next n e k b off w hA hw=>
   cases h1
   simp only[hA,hw];cases bY with|lt h0 hl=>exact⟨h0,hl,hK⟩
  ·next n e k c w hA hw=>
   split at h1
   ·next d=>
    obtain⟨hb,he⟩:=dq h1;cases he;simp only[hA,hw];cases bY with|FK h0 hl h=>exact bN.2 ⟨hb,h0,hl,by simp only[List.getElem?_cons_zero,ajH,h];exact hK⟩
   ·cases h1
  ·cases h1
theorem WZ{T:TypeId}{y:AV}{K:Nat→Prop}{C:AV→Prop}(h1:K3 P T y a=some (x,i))(bY:OK P i a)(hK:C x)(hc:∀n:Nat,C (.d (.v (.int .i64 n)))→K n):qq P T y K:=by
 unfold K3 at h1;unfold qq;split at h1
 ·obtain⟨hb,he⟩:=dq h1;cases he;exact bN.2 ⟨hb,hc _ hK⟩
 ·obtain⟨hb,he⟩:=dq h1;cases he;exact bN.2 ⟨hb,hc _ hK⟩
 ·next n1 n2=>
  split at h1
  ·next xs n hx=>
   obtain⟨hb,he⟩:=dq h1;cases he;cases bY with
   |len hl=>
    subst hl;split
    ·next s=>exact absurd rfl (n1 s)
    ·next a b c d e=>exact absurd rfl (n2 a b c d e)
    ·simp only[hx];exact bN.2 ⟨hb,hc _ hK⟩
  ·cases h1
theorem abu{y:akd Operand}{l:akd Int}(h1:Dw ρ y=some l):(y=none∧l=none)∨∃o z,y=some o∧l=some z∧(ρ o).int?=some z:=by
 unfold Dw at h1;cases y with
 |none=>cases h1;exact .inl ⟨rfl,rfl⟩
 |some o=>
  simp only at h1;split at h1
  ·next z hz=>cases h1;exact .inr ⟨o,z,rfl,rfl,hz⟩
  ·cases h1
theorem tX{y:akd Operand}{l:akd Int}{d:Nat}{K:Nat→Prop}(h1:Dw ρ y=some l)(h0:∀z,l=some z→0≤z)(hK:K (oN l d)):ij ρ y d K:=by
 rcases abu h1 with⟨rfl,rfl⟩|⟨o,z,rfl,rfl,hz⟩
 ·exact hK
 ·simp only[ij,hz];exact⟨h0 z rfl,hK⟩
theorem ait{T:TypeId}{y:AV}{lo hi mx:akd Operand}{K:AV→Prop}(h1:Om P T ρ y lo hi mx a=some (x,i))(bY:OK P i a)(hK:K x):s5 P T ρ y lo hi mx K:=by
 unfold Om at h1;unfold s5;split at h1
 ·split at h1
  ·next l hh hl pv=>
   split at h1
   ·next b=>
    obtain⟨hb,he⟩:=dq h1;cases he;cases bY with
    |str h0 h2 h3 h4=>
     refine bN.2 ⟨hb,tX pv (fun z e=>by subst e;exact h3) ?_⟩;have e1:oN hh b.size=(hh.getD b.size).toNat:=by cases hh<;>simp [oN]
     have e2:oN l 0=(l.getD 0).toNat:=by cases l<;>simp [oN]
     rw[e1];refine⟨h4,tX hl (fun z e=>by subst e;exact h0) ?_⟩;rw[e2];rw[e1,e2]at hK;exact⟨h2,hK⟩
   ·next n off=>
    split at h1
    ·next m e k hT=>
     obtain⟨hb,he⟩:=dq h1;cases he;simp only[hT];generalize cf m 4096=q at hb ⊢;rw[ajp]at hb;refine bN.2 ⟨hb.1,tX pv (fun z e=>by cases e) (bN.2 ⟨di.2 (ajy _),tX hl (fun z e=>by cases e) (bN.2 ⟨?_,?_⟩)⟩)⟩
     ·rw[ajp];exact⟨di.2 (Nat.zero_le _),hb.2⟩
     ·show K (.row n (off+0*k) (m-0) (m-0) k);rw[Nat.zero_mul,Nat.add_zero,Nat.sub_zero];exact hK
    ·cases h1
   ·next Fc lz=>
    split at h1
    ·next xs e k ys hx hT=>
     cases h1
     dsimp only;split
     ·next b=>exact absurd rfl (Fc b)
     ·next n off=>exact absurd rfl (lz n off)
     ·simp only[hx,hT];cases hh with
      |none=>
       cases bY with
       |CE h0 h2 hk he=>
        refine⟨hk,tX pv (fun z e=>by cases e) ⟨ajy _,tX hl (fun z e=>by subst e;exact h0) ?_⟩⟩;have e2:oN l 0=(l.getD 0).toNat:=by cases l<;>simp [oN]
        rw[e2];refine⟨h2,?_⟩;rw[show oN none xs.length=xs.length from rfl,List.take_length,he];exact hK
      |some z=>
       cases bY with
       |sub h0 h2 h3 h4 hk he=>
        refine⟨hk,tX pv (fun z e=>by cases e;exact h3) ⟨h4,tX hl (fun z e=>by subst e;exact h0) ?_⟩⟩;have e2:oN l 0=(l.getD 0).toNat:=by cases l<;>simp [oN]
        rw[e2];refine⟨h2,?_⟩;rw[show oN (some z) xs.length=z.toNat from rfl,he];exact hK
    ·cases h1
  ·cases h1
 ·split at h1
  ·next m _ _ y' _ hm=>
   split at h1
   ·next xs e k _ _ ys hx hT hy=>
    cases h1
    cases bY with
    |sub h0 h2 h3 h4 hk he=>
     simp only[hx,hT];refine⟨hk,?_⟩;simp only[ij,hm,hy,AV.int?];refine⟨Int.le_refl _,Nat.zero_le _,Int.le_refl _,?_,by simpa using hK⟩;first|rfl|trivial
   ·cases h1
  ·cases h1
theorem KK{k:Nat}{y:AV}{ys:akb (akb D)}{K:akb (akb D)→Prop}(h1:F1 h k y=some ys)(hy:∀c∈ys,c.length=k)(hK:K ys):rY h k y K:=by
 unfold F1 at h1;unfold rY;split at h1
 ·split at h1
  ·next cs e=>
   split at h1
   ·next ds e2=>
    obtain⟨hb,rfl⟩:=dq h1;simp only[e,e2];exact bN.2 ⟨hb,hK⟩
   ·cases h1
  ·cases h1
 ·next hn=>
  split
  ·next n off len cap k'=>exact absurd rfl (hn n off len cap k')
  ·simp only[h1];exact⟨hy,hK⟩
theorem adA{T:TypeId}{y z:AV}(h1:Ml P T h y z a=some (x,h',i))(bY:OK P i a)(hC:C x h'):tE P T h y z C:=by
 unfold Ml at h1;unfold tE;split at h1
 ·next e k zs n' hT=>
  simp only[hT];split at h1
  ·next zv ct hz nT=>
   simp only[hz,nT];obtain⟨hb,h1⟩:=l5 h1;refine bN.2 ⟨hb,?_⟩;split at h1
   ·next ys ir=>
    split at h1
    ·next n xs=>
     split at h1
     ·next e' k' len hn=>
      obtain⟨hc,he⟩:=dq h1;cases he;cases bY with
      |app hl hx hy hm j8 gS D6=>
       subst gS;subst D6;refine KK ir hy ?_;simp only[hn];exact bN.2 ⟨hc,hl,hx,hm,j8,hC⟩
     ·cases h1
    ·cases h1
     cases bY with
     |app hl hx hy hm j8 gS D6=>
      subst gS;subst D6;refine KK ir hy ?_;simp only[List.nil_append,ajz,ajH]at hC hm j8 ⊢;exact⟨hm,j8,hC⟩
    ·cases h1
     cases bY with
     |app hl hx hy hm j8 gS D6=>
      subst gS;subst D6;exact KK ir hy ⟨hx,hm,j8,hC⟩
    ·cases h1
   ·cases h1
  ·cases h1
 ·cases h1
theorem abF{T:TypeId}{ps:akb (Nat×AV)}{K:AV→Prop}(h1:Ke P T ps=some x)(hK:K x):wI P T ps K:=by
 unfold Ke at h1;unfold wI;split at h1
 ·next pl z e1 e2=>
  simp only[e1,e2];split at h1
  ·next cs e3=>obtain⟨hb,rfl⟩:=dq h1;simp only[e3];exact bN.2 ⟨hb,hK⟩
  ·cases h1
 ·cases h1
theorem afL{T:TypeId}{len:Nat}{ps:akb (Nat×AV)}{K:AV→Prop}(h1:MI P T len ps=some x)(hK:K x):ui P T len ps K:=by
 unfold MI at h1;unfold ui;split at h1
 ·next e k hT=>
  simp only[hT];split at h1
  ·next z hz=>
   simp only[hz];split at h1
   ·next cs fg=>
    simp only[fg];split at h1
    ·next ds sa=>obtain⟨hb,rfl⟩:=dq h1;simp only[sa];exact bN.2 ⟨hb,hK⟩
    ·cases h1
   ·cases h1
  ·cases h1
 ·cases h1
theorem Rp{T:TypeId}{op:BinOp}{y z:AV}{K:AV→Prop}(h1:FC P T op y z=some (x,i))(bY:OK P i a)(hK:K x):vq P T op y z K:=by
 unfold FC at h1;unfold vq;split at h1
 ·split at h1
  ·next v e=>
   obtain⟨hb,he⟩:=dq h1;cases he;cases bY with|nz h0=>simp only[e];exact bN.2 ⟨hb,h0,hK⟩
  ·next e=>
   simp only[e];split at h1
   ·next v e2=>
    cases h1
    cases bY with|nn h0=>simp only[e2];exact⟨h0,hK⟩
   ·next e2=>
    simp only[e2];split at h1
    ·next v e3=>obtain⟨hb,he⟩:=dq h1;cases he;simp only[e3];exact bN.2 ⟨hb,hK⟩
    ·cases h1
 ·split at h1
  ·next v e=>cases h1;simp only[e];exact hK
  ·next e=>
   simp only[e];split at h1
   ·cases h1;cases bY with|cat h=>exact⟨h,hK⟩
   ·cases h1
 ·split at h1
  ·next v e=>obtain⟨hb,he⟩:=dq h1;cases he;simp only[e];exact bN.2 ⟨hb,hK⟩
  ·cases h1
 ·split at h1
  ·next b e=>
   simp only[e];split at h1
   ·next v e2=>cases h1;simp only[e2];exact hK
   ·cases h1
  ·cases h1
 ·cases h1
theorem Yi{s t:TypeId}{y:AV}{K:AV→Prop}(h1:Fp P s t y a=some (x,i))(bY:OK P i a)(hK:K x):wX P s t y K:=by
 unfold Fp at h1;unfold wX;split at h1
 ·split at h1
  ·next e1 e2=>cases h1;simp only[e1,e2];exact hK
  ·cases h1
 ·obtain⟨hb,he⟩:=dq h1;cases he;exact bN.2 ⟨hb,hK⟩
 ·next h8 h9=>
  split at h1
  ·next xs e k s' e1 e2=>
   obtain⟨hb,he⟩:=dq h1;cases he;cases bY with
   |Fz h=>
    obtain⟨ns,k1,k2⟩:=h;subst k2;split
    ·next k' n=>exact absurd rfl (h8 k' n)
    ·next b'=>exact absurd rfl (h9 b')
    ·simp only[e1,e2];exact bN.2 ⟨hb,ns,k1,hK⟩
  ·cases h1
theorem Tn{T:TypeId}{y:AV}{f:Nat}{K:AV→Prop}(h1:HG P T y f=some x)(hK:K x):uB P T y f K:=by
 unfold HG at h1;unfold uB;split at h1
 ·next e=>obtain⟨hb,rfl⟩:=dq h1;simp only[e];exact bN.2 ⟨hb,hK⟩
 ·next e=>simp only[e,h1];exact hK
 ·cases h1
theorem Lw{y:akd AV}(h1:IK h y=some (x,h',i)):y=some x∧h'=h:=by
 cases y with
 |none=>cases h1
 |some y=>cases h1;exact⟨rfl,rfl⟩
theorem EI{y:akd (AV×In)}(h1:yc h y=some (x,h',i)):y=some (x,i)∧h'=h:=by
 cases y with
 |none=>cases h1
 |some y=>cases h1;exact⟨rfl,rfl⟩
theorem AF{o:Oper}(h1:vj P o.op ρ h a=some (x,h',i))(bY:OK P i a)(hC:C x h'):cn P o ρ h C:=by
 obtain⟨dst,op,type,pos,after,guard⟩:=o;simp only at h1;unfold vj at h1;unfold cn;split at h1
 ·cases h1;exact hC
 ·cases h1;exact hC
 ·next c y z=>
  split at h1
  ·next b=>
   cases h1
   simp only[OK.F7 bY];cases b<;>simp_all
  ·cases h1
 ·split at h1
  ·next z e=>cases h1;simp only[e];exact hC
  ·cases h1
 ·obtain⟨hb,he⟩:=dq h1;cases he;exact bN.2 ⟨hb,hC⟩
 ·split at h1
  ·next cs off e=>
   split at h1
   ·next y e2=>cases h1;exact Kx e e2 hC
   ·cases h1
  ·cases h1
 ·split at h1
  ·next n off e=>
   split at h1
   ·next cs e2=>
    split at h1
    ·next k e3=>obtain⟨hb,he⟩:=dq h1;cases he;simp only[e,vR,e2,e3];exact bN.2 ⟨hb,hC⟩
    ·cases h1
   ·cases h1
  ·cases h1
 ·split at h1
  ·next e=>cases h1;simp only[e];exact hC
  ·next e=>cases h1;simp only[e];exact hC
  ·next e=>cases h1;simp only[e];exact hC
  ·cases h1
 ·split at h1
  ·next e=>
   simp only[e];split at h1
   ·next e2=>cases h1;simp only[e2];exact hC
   ·next e2=>cases h1;simp only[e2];exact hC
   ·cases h1
  ·cases h1
 ·obtain⟨e,rfl⟩:=Lw h1;exact Tn e hC
 ·obtain⟨e,rfl⟩:=EI h1;exact abK e bY hC
 ·split at h1
  ·next b z c e1 e2=>
   obtain⟨hb,he⟩:=dq h1;cases he;cases bY with
   |ch h0 hc=>simp only[e1,e2];refine bN.2 ⟨hb,h0,?_⟩;simp only[hc];exact hC
  ·cases h1
 ·obtain⟨e,rfl⟩:=Lw h1;exact abF e hC
 ·obtain⟨e,rfl⟩:=Lw h1;exact afL e hC
 ·obtain⟨e,rfl⟩:=EI h1;exact ait e bY hC
 ·split at h1
  ·next e=>
   split at h1
   ·next e2=>cases h1;simp only[e,e2];exact hC
   ·cases h1
  ·cases h1
 ·split at h1
  ·next e=>cases h1;simp only[e];exact hC
  ·cases h1
 ·obtain⟨e,rfl⟩:=EI h1;exact Rp e bY hC
 ·unfold uX;split at h1
  ·next e=>
   split at h1
   ·next e2=>cases h1;simp only[e,e2];exact hC
   ·cases h1
  ·cases h1
 ·obtain⟨e,rfl⟩:=EI h1;exact Yi e bY hC
 ·next c=>
  split at h1
  ·next hc=>
   simp only[hc];split at h1
   ·next e1 e2=>obtain⟨e,rfl⟩:=EI h1;simp only[e1,e2];exact WZ (C:=fun x=>C x _) e bY hC (fun n hn=>hn)
   ·cases h1
  ·next hc=>
   simp only[hc];split at h1
   ·next e1 e2=>obtain⟨hb,h1⟩:=l5 h1;simp only[e1,e2];exact bN.2 ⟨hb,adA h1 bY hC⟩
   ·cases h1
  ·next hc=>
   simp only[hc];split at h1
   ·next e1=>cases h1;simp only[e1];exact hC
   ·cases h1
  ·next hc=>
   simp only[hc];split at h1
   ·next e1=>cases h1;simp only[e1];exact hC
   ·cases h1
  ·next f hc=>
   simp only[hc];split at h1
   ·next g cV r e=>
    obtain⟨hb,he⟩:=dq h1;cases he;simp only[ajp]at hb;simp only[e];cases bY with|call jd=>exact(jd.use hb.1 hb.2 hC).QS
   ·next g cV r h2 e=>
    cases h1
    simp only[e];cases bY with|jd jd=>exact jd.mono fun r1 h1 ⟨e1,e2⟩=>by subst e1;subst e2;exact hC
   ·next g cV l dB H r H' e=>
    cases h1
    simp only[e];cases bY with|lF ha hd hb hl hc=>exact(ha▸(hc.lF hd hb hl).mono fun r1 h1 ⟨e1,e2⟩=>by subst e1;subst e2;exact hC:bO P g _ _ _).JF
   ·next g cV l dB H r H' e=>
    cases h1
    simp only[e];cases bY with|Ws mT hv ha hd hb hl hc=>exact(ha▸(hc.lF hd (by rw[hb,ZO mT]) (by rw[ajp]at hl ⊢;exact⟨hl.1,abz mT hl.2⟩)).mono fun r1 h1 ⟨e1,e2⟩=>by subst e1;subst e2;rw[←agZ hv];exact hC:bO P g _ _ _).JF
   ·next g cV l dB H r e=>
    cases h1
    simp only[e];cases bY with|rq ha hd hb hl hc=>exact(ha▸(by have:=hc.rq hd hb hl [];rw[ajI]at this;exact this.mono fun r1 h1 ⟨e1,e2⟩=>by subst e1;subst e2;exact hC):bO P g _ _ _).JF
   ·next q r e=>
    obtain⟨hb,he⟩:=dq h1;cases he;simp only[ajp]at hb;simp only[e];cases bY with|Bn hq=>exact hq.use hb.1 hb.2 hC
   ·cases h1
  ·cases h1
 ·next op _=>
  unfold xR at h1;split at h1
  ·next y h2 p e=>
   cases h1
   simp only[e];refine⟨?_,hC⟩;cases p with
   |no=>trivial
   |lt n=>cases bY with|sd h=>exact h
  ·cases h1
end
def gM:akb (Nat×bX)→Nat→bX
 |[],_=> .none
 |(k,x)::l,i=>bif k==i then x else gM l i
def s7(i:In)(a:bX)(r:akd (St×akb (In×bX))):akd (St×akb (In×bX)):=
 match i with
 | .none=>r
 |i=>match r with
  |some (s,l)=>some (s,(i,a)::l)
  |none=>none
def CI:bX→Bool
 | .NQ .. | .No .. | .A3 .. =>true
 |_=>false
def Aq(o:Oper):bX→Bool
 | .A3 [] .. =>cg o==6
 |_=>false
def G8(P:ake)(dr vk:Bool)(op:Op)(ρ:Operand→AV)(h:akb aq)(a:bX):akd (AV×akb aq×In):=
 match a with
 | .va va=>bif dr&& !vk then none else match gJ P op ρ h va with
   |some (x,h',p)=>some (x,h', .pr p)
   |none=>none
 |a=>vj P op ρ h a
def nX(P:ake)(dr:Bool)(o:Oper)(j:Nat)(as:akb (Nat×bX))(s:St):akd (St×akb (In×bX)):=
 bif dr&&CI (gM as (3*j+1))&& !Aq o (gM as (3*j+1))then none else
 match G8 P dr (iz o) o.op (ev s) s.h (gM as (3*j+1))with
 |some (x,h',i)=>match gM as (3*j+2)with
  | .eq y=>s7 i (gM as (3*j+1)) (some ((s.wh h').put o.dst y,[(.eq x, .eq y)]))
  |_=>s7 i (gM as (3*j+1)) (some ((s.wh h').put o.dst x,[]))
 |none=>none
def DU(o:Oper)(s:St):St:=s.put o.dst (.d (.v undef))
def oK(l:akb (In×bX)):akd (St×akb (In×bX))→akd (St×akb (In×bX))
 |some (s,m)=>some (s,l++m)
 |none=>none
def mK(P:ake)(ops:Array Oper)(dr:Bool)(o:Oper)(j:Nat)(as:akb (Nat×bX))(s:St):akd (St×akb (In×bX)):=
 match o.guard with
 |none=>nX P dr o j as s
 |some (g,want)=>match gM as (3*j)with
  | .bit b=>oK [(.bit (su ops g s.t), .bit b)] (bif b==want then nX P dr o j as s else some (DU o s,[]))
  | .D7=>oK [(.bit (su ops g s.t), .D7)] (some (DU o s,[]))
  |_=>none
def mF(P:ake)(ops:Array Oper)(dr:Bool):akb Oper→Nat→akb (Nat×bX)→St→akd (St×akb (In×bX))
 |[],_,_,s=>some (s,[])
 |o::rest,j,as,s=>match mK P ops dr o j as s with
  |some (s1,l)=>oK l (mF P ops dr rest (j+1) as s1)
  |none=>none
def fS(P:ake)(l:akb (In×bX)):Prop:=∀p∈l,OK P p.1 p.2
section
variable {P:ake} {ops:Array Oper} {dr:Bool} {o:Oper} {j:Nat} {as:akb (Nat×bX)} {s s1:St} {l:akb (In×bX)} {K:St→Prop}
theorem Jt{i:In}{a:bX}{r:akd (St×akb (In×bX))}(h:s7 i a r=some (s1,l))(bY:fS P l):∃m,r=some (s1,m)∧fS P m∧OK P i a:=by
 unfold s7 at h;split at h
 ·exact⟨l,h,bY, .none⟩
 ·split at h
  ·next s2 m=>
   cases h
   exact⟨m,rfl,fun p hp=>bY p (ajw _ hp),bY (i,a) ajt⟩
  ·cases h
theorem yo{r:akd (St×akb (In×bX))}{m:akb (In×bX)}(h:oK m r=some (s1,l))(bY:fS P l):∃n,r=some (s1,n)∧fS P n∧fS P m:=by
 unfold oK at h;split at h
 ·next s2 n=>
  cases h
  exact⟨n,rfl,fun p hp=>bY p (List.mem_append_right _ hp),fun p hp=>bY p (List.mem_append_left _ hp)⟩
 ·cases h
def Gm(P:ake)(dr:Bool)(o:Oper)(K:St→Prop)(s:St):Prop:=bif dr then Q0 P o K s else pD P o K s
theorem abp{x:AV}{h':akb aq}{i:In}{a:bX}(h1:vj P o.op (ev s) s.h a=some (x,h',i))(bY:OK P i a)(hh:CI a=false)(hK:K ((s.wh h').put o.dst x)):Q0 P o K s:=by
 refine .inl ?_;unfold AL;split
 ·next c fa=>
  split
  ·next f hc=>
   rw[fa]at h1;unfold vj at h1;simp only[hc]at h1;split at h1
   ·next g cV r e=>
    obtain⟨hb,he⟩:=dq h1;cases he;simp only[ajp]at hb;simp only[e];cases bY with
    |call jd=>exact⟨_,hK,fun e=>(jd.use hb.1 hb.2 ⟨rfl,rfl⟩).QS⟩
   ·cases hh
   ·cases hh
   ·cases hh
   ·next g cV l dB H r e=>
    cases h1
    simp only[e];cases bY with|rq ha hd hb hl hc=>exact⟨_,hK,fun e=>(ha▸hc.rq hd hb hl e:bO P g _ _ _).JF⟩
   ·next q r e=>
    obtain⟨hb,he⟩:=dq h1;cases he;simp only[ajp]at hb;simp only[e];cases bY with
    |Bn hq=>
     have:=fun h=>hq.use (h:=h) (C:=fun r' h'=>r'=x∧h'=h) hb.1 hb.2 ⟨rfl,rfl⟩;obtain⟨g,cs,e1,_⟩:=this [];refine⟨g,cs,e1,x,hK,fun e=> ?_⟩;obtain⟨g',ca,e2,h9⟩:=this (s.h++e);rw[e1]at e2;cases e2
     exact h9
   ·cases h1
  ·exact AF (C:=fun x h'=>K ((s.wh h').put o.dst x)) h1 bY hK
 ·exact AF (C:=fun x h'=>K ((s.wh h').put o.dst x)) h1 bY hK
theorem afF{o:Oper}{ρ:Operand→AV}{h h':akb aq}{dB:akb AV}{H H':akb aq}{r x:AV}{i:In}(hk:cg o=6)(hr:vj P o.op ρ h (.A3 [] dB H r H')=some (x,h',i)):h'=h++H'.map (aq.oM (rn [] h.length)):=by
 unfold cg at hk;split at hk
 all_goals first|(cases hk;done)|skip
 next c fa=>
  split at hk
  all_goals first|(cases hk;done)|skip
  next f hc=>
   rw[fa]at hr;unfold vj at hr;simp only[hc]at hr;generalize ρ f=v at hr;cases v<;>first|(cases hr;rfl)|cases hr
theorem R4(h:nX P dr o j as s=some (s1,l))(bY:fS P l)(hK:K s1):Gm P dr o K s:=by
 unfold nX at h;cases hd:dr&&CI (gM as (3*j+1))&& !Aq o (gM as (3*j+1))with
 |true=>rw[hd]at h;cases h
 |false=>
  rw[hd]at h;simp only[cond_false]at h;split at h
  ·next x h' i hr=>
   have fin:OK P i (gM as (3*j+1))→K ((s.wh h').put o.dst x)→Gm P dr o K s:=fun h1 h2=>by
    unfold Gm;cases dr with
    |true=>
     unfold G8 at hr;split at hr
     ·next va e=>
      cases hv:iz o with
      |false=>rw[hv]at hr;cases hr
      |true=>
       rw[hv]at hr;simp only[Bool.not_true,Bool.and_false,cond_false]at hr;split at hr
       ·next x2 Q3 p e2=>
        cases hr
        rw[e]at h1;cases h1 with|pr _ hp=>exact .inr (.inr (.inl ⟨hv,va,x,h',p,e2,hp,h2⟩))
       ·cases hr
     ·by_cases hx:Aq o (gM as (3*j+1))=true
      ·refine .inr (.inr (.inr ?_));generalize gM as (3*j+1)=a at hx h1 hr;unfold Aq at hx;split at hx
       ·next dB H r H'=>
        have CC:cg o=6:=by simpa using hx
        have this:h'=s.h++H'.map (aq.oM (rn [] s.h.length)):=afF CC hr;refine⟨CC,x,H'.map (aq.oM (rn [] s.h.length)),?_,fun C hC=> ?_⟩
        ·rw[←this];exact h2
        ·rw[←this]at hC;exact AF hr h1 hC
       ·cases hx
      ·exact abp hr h1 (by simpa [hx]using hd) h2
    |false=>
     unfold G8 at hr;split at hr
     ·next va e=>
      simp only[Bool.false_and,cond_false]at hr;split at hr
      ·next x2 Q3 p e2=>
       cases hr
       rw[e]at h1;cases h1 with|pr _ hp=>exact .inl ⟨va,x,h',p,e2,hp,h2⟩
      ·cases hr
     ·exact .inr (.inr (.inl (AF (C:=fun x h'=>K ((s.wh h').put o.dst x)) hr h1 h2)))
   split at h
   ·next y hy=>
    obtain⟨m,e,h2,h3⟩:=Jt h bY;cases e
    have:=h2 (.eq x, .eq y) ajt;cases this with|eq e=>subst e;exact fin h3 hK
   ·obtain⟨m,e,h2,h3⟩:=Jt h bY;cases e
    exact fin h3 hK
  ·cases h
theorem Mi(h:mK P ops dr o j as s=some (s1,l))(bY:fS P l)(hK:K s1):aGuard ops o s (Gm P dr o K s) (K (s.put o.dst (.d (.v undef)))):=by
 unfold mK at h;split at h
 ·next hg=>unfold aGuard;rw[hg];exact R4 h bY hK
 ·next g want hg=>
  obtain⟨dst,op,ty,pos,after,guard⟩:=o;simp only at hg;subst hg;split at h
  ·next b hb=>
   obtain⟨n,e,h2,h3⟩:=yo h bY;have h4:=OK.F7 (h3 (_,_) ajt);rw[Ju,h4];refine⟨fun e2=> ?_,fun e2=> ?_⟩
   ·subst e2;simp only[BEq.rfl,cond_true]at e;exact R4 e h2 hK
   ·subst e2;have:((!want)==want)=false:=by cases want<;>rfl
    rw[this]at e;simp only[cond_false]at e;cases e
    exact hK
  ·next hb=>
   obtain⟨n,e,h2,h3⟩:=yo h bY;cases e
   have h4:=h3 (_,_) ajt;have h5:su ops g s.t= .d (.v undef):=by
    generalize su ops g s.t=z at h4;cases h4;rfl
   rw[Ju,h5];exact hK
  ·cases h
theorem y5:∀(ol:akb Oper)(j:Nat)(s:St)(l:akb (In×bX)),mF P ops dr ol j as s=some (s1,l)→fS P l→K s1→(bif dr then Bb P ops ol K s else qf P ops ol K s)
 |[],_,s,l,h,_,hK=>by cases h;cases dr<;>exact hK
 |o::rest,j,s,l,h,bY,hK=>by
  unfold mF at h;split at h
  ·next s2 m hg=>
   obtain⟨n,e,h2,h3⟩:=yo h bY;have ih:=y5 rest (j+1) s2 n e h2 hK;cases dr with
   |true=>exact Mi (K:=Bb P ops rest K) hg h3 ih
   |false=>exact Mi (K:=qf P ops rest K) hg h3 ih
  ·cases h
theorem OD(s:St)(d:akd Nat)(x:AV):∃pre,(s.put d x).t=pre++s.t:=by
 cases d with
 |none=>exact⟨[],rfl⟩
 |some k=>
  by_cases hk:k<s.n
  ·exact⟨[(k,x)],by rw[rS hk];rfl⟩
  ·exact⟨[],by rw[Cd hk];rfl⟩
theorem TJ(h:mK P ops dr o j as s=some (s1,l)):(∃pre,s1.t=pre++s.t)∧s1.n=s.n:=by
 have cI:∀{i a r l},s7 i a r=some (s1,l)→∃m,r=some (s1,m):=fun{i a r l} h=>by
  unfold s7 at h;split at h
  ·exact⟨_,h⟩
  ·split at h
   ·cases h;exact⟨_,rfl⟩
   ·cases h
 have cR:∀{m r l},oK m r=some (s1,l)→∃m,r=some (s1,m):=fun{m r l} h=>by
  unfold oK at h;split at h
  ·cases h;exact⟨_,rfl⟩
  ·cases h
 have st:∀l,nX P dr o j as s=some (s1,l)→(∃pre,s1.t=pre++s.t)∧s1.n=s.n:=fun l h=>by
  unfold nX at h;cases hd:dr&&CI (gM as (3*j+1))&& !Aq o (gM as (3*j+1))with
  |true=>rw[hd]at h;cases h
  |false=>
   rw[hd]at h;simp only[cond_false]at h;split at h
   ·split at h<;>(obtain⟨m,e⟩:=cI h;cases e;exact⟨OD _ _ _,by rw[n8];rfl⟩)
   ·cases h
 unfold mK at h;split at h
 ·exact st _ h
 ·split at h
  ·obtain⟨m,e⟩:=cR h;revert e;generalize ((_:Bool)==_)=q;intro e;cases q with
   |true=>exact st _ e
   |false=>cases e;exact⟨OD _ _ _,by unfold DU;rw[n8]⟩
  ·obtain⟨m,e⟩:=cR h;cases e;exact⟨OD _ _ _,by unfold DU;rw[n8]⟩
  ·cases h
theorem Ok:∀(ol:akb Oper)(j:Nat)(s:St)(l:akb (In×bX)),mF P ops dr ol j as s=some (s1,l)→(∃pre,s1.t=pre++s.t)∧s1.n=s.n
 |[],_,s,l,h=>by cases h;exact⟨⟨[],rfl⟩,rfl⟩
 |o::rest,j,s,l,h=>by
  unfold mF at h;split at h
  ·next s2 m hg=>
   unfold oK at h;split at h
   ·next s3 n e=>
    cases h
    obtain⟨⟨p1,e1⟩,n1⟩:=TJ hg;obtain⟨⟨p2,e2⟩,n2⟩:=Ok rest (j+1) s2 n e;exact⟨⟨p2++p1,by rw[e2,e1,ajE]⟩,n2.trans n1⟩
   ·cases h
  ·cases h
end
def VY:AV→Bool
 | .dead=>true
 |_=>false
def nR(P:ake)(dr:Bool)(l:akb Oper)(as:akb (Nat×bX))(bn:akb Nat)(s:St):akd (akb (Nat×AV)×akb aq×akb (In×bX)):=
 match mF P l.toArray dr l 0 as s with
 |some (s1,ps)=>bif (s1.t.take (s1.t.length-s.t.length)).all (fun p=>bn.any (·==p.1)||VY (bB s.t p.1))then some (bn.map fun k=>(k,bB s1.t k),s1.h,ps)else none
 |none=>none
theorem Cg:∀(a b:akb (Nat×AV))(i:Nat),(i∈a.map (·.1)∧bB (a++b) i=bB a i)∨(i ∉ a.map (·.1)∧bB (a++b) i=bB b i)
 |[],b,i=> .inr ⟨by simp,rfl⟩
 |(k,x)::a,b,i=>by
  by_cases e:i=k
  ·subst e;exact .inl ⟨by simp,by simp [lK]⟩
  ·rcases Cg a b i with⟨h1,h2⟩|⟨h1,h2⟩
   ·exact .inl ⟨by simp at h1 ⊢;exact .inr h1,by rw[List.cons_append,lK,if_neg e,h2,lK,if_neg e]⟩
   ·exact .inr ⟨by simp at h1 ⊢;exact⟨e,h1⟩,by rw[List.cons_append,lK,if_neg e,h2]⟩
section
variable {P:ake} {dr:Bool} {as:akb (Nat×bX)} {s s1 s':St} {ps:akb (In×bX)} {bn:akb Nat} {ol:akb Oper} {Δ:akb (Nat×AV)} {h':akb aq}
theorem FB(h:nR P dr ol as bn s=some (Δ,h',ps)):∃s1,mF P ol.toArray dr ol 0 as s=some (s1,ps)∧s1.n=s.n∧s1.h=h'∧∀i,bB (Δ++s.t) i=bB s1.t i∨bB (Δ++s.t) i= .dead:=by
 unfold nR at h;split at h
 ·next s1 ps' hr=>
  obtain⟨hb,he⟩:=dq h;cases he
  obtain⟨⟨pre,e1⟩,n1⟩:=Ok _ _ _ _ hr;refine⟨s1,hr,n1,rfl,fun i=> ?_⟩;have Bl:∀(f:Nat→AV),(bn.map fun k=>(k,f k)).map (·.1)=bn:=fun f=>by rw[List.map_map];exact List.map_id _
  rcases Cg (bn.map fun k=>(k,bB s1.t k)) s.t i with⟨h1,h2⟩|⟨h1,h2⟩
  ·rw[Bl]at h1;rw[h2,pz (fun k=>bB s1.t k),if_pos h1];exact .inl rfl
  ·rw[Bl]at h1;rw[h2];rw[e1,ajo,Nat.add_sub_cancel,List.take_left']at hb
   ·rw[e1];rcases Cg pre s.t i with⟨h3,h4⟩|⟨h3,h4⟩
    ·right
     obtain⟨p,hp,rfl⟩:=List.mem_map.1 h3;have:=ajN.1 hb p hp;rw[Bool.or_eq_true]at this;rcases this with this|this
     ·exfalso;obtain⟨k,hk,e⟩:=List.any_eq_true.1 this;rw[beq_iff_eq]at e;exact h1 (e▸hk)
     ·generalize bB s.t p.1=z at this;cases z<;>first|rfl|cases this
    ·exact .inl h4.symm
   ·rfl
 ·cases h
theorem cx.less{G:Gh}{w:akg}{a:Act}(hs:cx G w a s1)(hn:s'.n=s1.n)(hh:s'.h=s1.h)(ht:∀i,bB s'.t i=bB s1.t i∨bB s'.t i= .dead):cx G w a s':=
 ⟨hs.size.trans hn.symm,fun i=>by
  rcases ht i with e|e
  ·rw[e];exact hs.tmp i
  ·rw[e];exact .dead _,by rw[hh];exact hs.inv,hs.df⟩
end
structure Ob(P:Program) where
 i:In
 o:bX
 ok:OK P i o
def bT{P:ake}{e:Bool}(h:e=true):Ob P:=⟨_,_, .bit (b:=true) h⟩
def bF{P:ake}{e:Bool}(h:e=false):Ob P:=⟨_,_, .bit (b:=false) h⟩
def uN{P:ake}:Ob P:=⟨_,_, .D7⟩
def cL{P:ake}{f:FuncId}{args:akb AV}{r:AV}(h:aG P f args (·=r)):Ob P:=⟨_,_, .call h⟩
def jX{P:ake}(l:akb (Nat×Ob P)):akb (Nat×bX):=l.map fun b=>(b.1,b.2.o)
def jv{P:ake}(l:akb (Nat×Ob P)):akb (In×bX):=l.map fun b=>(b.2.i,b.2.o)
theorem uV{P:ake}(l:akb (Nat×Ob P)):fS P (jv l):=fun p hp=>by
 obtain⟨b,_,rfl⟩:=List.mem_map.1 hp;exact b.2.ok
section
variable {P:ake} {r:akd Nat} {N0 id:Nat} {ol:akb Oper} {y:Code} {s:St} {Q Q':Exit→St→Prop} {aW:akb (Nat×Ob P)} {Δ:akb (Nat×AV)} {h':akb aq}
theorem JD{c:Code}{s':St}(hn:s'.n=s.n)(hh:s'.h=s.h)(ht:∀i,bB s'.t i=bB s.t i∨bB s'.t i= .dead)(h:bJ P r N0 c Q s'):bJ P r N0 c Q s:=
 ⟨fun G w a n hs hN=>h.run G w a n (hs.less hn hh ht) hN⟩
theorem Pz(aW:akb (Nat×Ob P))(Δ:akb (Nat×AV))(h':akb aq)(h:nR P false ol (jX aW) (Δ.map (·.1)) s=some (Δ,h',jv aW))(k:bJ P r N0 y Q' ⟨s.n,Δ++s.t,h'⟩):bJ P r N0 (.region id ol.toArray false) (gA (fun s=>bJ P r N0 y Q' s) Q) s:=by
 obtain⟨s1,h1,h2,h3,h4⟩:=FB h;refine eW ?_;exact y5 (dr:=false) ol 0 s _ h1 (uV aW) (JD (s:=s1) (s':=⟨s.n,Δ++s.t,h'⟩) h2.symm h3.symm h4 k)
theorem aiy(hm:P.follows .mixedOrders=true)(hl:q9 ol.toArray=true)(aW:akb (Nat×Ob P))(Δ:akb (Nat×AV))(h':akb aq)(h:nR P true ol (jX aW) (Δ.map (·.1)) s=some (Δ,h',jv aW))(k:bJ P r N0 y Q' ⟨s.n,Δ++s.t,h'⟩):bJ P r N0 (.region id ol.toArray true) (gA (fun s=>bJ P r N0 y Q' s) Q) s:=by
 obtain⟨s1,h1,h2,h3,h4⟩:=FB h;refine Kl hm hl ?_;exact y5 (dr:=true) ol 0 s _ h1 (uV aW) (JD (s:=s1) (s':=⟨s.n,Δ++s.t,h'⟩) h2.symm h3.symm h4 k)
def I8(P:ake)(dr:Bool)(l:akb Oper)(as:akb (Nat×bX))(s:St):akd (akb (Nat×AV)×akb aq×akb (In×bX)):=
 match mF P l.toArray dr l 0 as s with
 |some (s1,ps)=>some (s1.t,s1.h,ps)
 |none=>none
theorem adi{dr:Bool}{as:akb (Nat×bX)}{t:akb (Nat×AV)}{ps:akb (In×bX)}(h:I8 P dr ol as s=some (t,h',ps)):mF P ol.toArray dr ol 0 as s=some (⟨s.n,t,h'⟩,ps):=by
 unfold I8 at h;split at h
 ·next s1 ps' hr=>
  cases h
  obtain⟨_,n1⟩:=Ok _ _ _ _ hr;rw[hr,←n1]
 ·cases h
theorem acj(aW:akb (Nat×Ob P))(Δ:akb (Nat×AV))(h':akb aq)(h:I8 P false ol (jX aW) s=some (Δ++s.t,h',jv aW))(k:Q .normal ⟨s.n,Δ++s.t,h'⟩):bJ P r N0 (.region id ol.toArray false) Q s:=
 eW (y5 (dr:=false) ol 0 s _ (adi h) (uV aW) k)
end
def AV.fin(m:Nat)(x:AV):AV:=(x.bA m).nrm
def aq.nv:aq→aq
 | .cells cs=> .cells (cs.map AV.nrm)
 | .lp ls p as bd cs=> .lp ls p as bd (cs.map AV.nrm)
 | .it sn cs=> .it sn (cs.map AV.nrm)
 | .vec e k cs=> .vec e k (cs.map (·.map AV.nrm))
 |B=>B
def ia(s:St)(live:akb Nat)(m:Nat):akd St:=
 bif cf m s.h.length&&(live.all fun k=>((bB s.t k).bA m).aT m)&&(((s.h.take m).map (aq.bA m)).all (aq.aT m))then some ⟨s.n,live.map fun k=>(k,(bB s.t k).fin m),((s.h.take m).map (aq.bA m)).map aq.nv⟩else none
theorem OF{G:Gh}{w:akg}{h:akb aq}(hi:bV G w h):bV G w (h.map aq.nv):=by
 have dT:∀(n:Nat)(B:aq),(h.map aq.nv)[n]?=some B→∃B',h[n]?=some B'∧B=B'.nv:=fun n B hB=>by
  rw[aju]at hB;cases hx:h[n]? with
  |none=>rw[hx]at hB;cases hB
  |some B'=>rw[hx]at hB;cases hB;exact⟨B',rfl,rfl⟩
 have dE:∀n b,b6 (h.map aq.nv) G n=some b→b6 h G n=some b:=fun n b hb=>by
  obtain⟨B,hB,hb⟩:=mr hb;obtain⟨B',h1,rfl⟩:=dT n B hB;rw[dm h1,←hb];cases B'<;>rfl
 refine⟨by rw[ajs];exact hi.len,hi.z,hi.S,fun n B hB=> ?_,fun i j b h1 h2=>hi.inj i j b (dE i b h1) (dE j b h2),hi.gl⟩;obtain⟨B',h1,rfl⟩:=dT n B hB;have dA:=hi.cU n B' h1;cases B' with
 |gone=>trivial
 |front e k len=>exact dA
 |map kv=>exact dA
 |vec e k cs=>
  obtain⟨c1,c2,c3,c4⟩:=dA;refine⟨by rw[ajs];exact c1,by rw[ajs];exact c2,fun c hc=> ?_,?_⟩
  ·obtain⟨x,hx,rfl⟩:=List.mem_map.1 hc;rw[ajs];exact c3 x hx
  ·rcases c4 with⟨d1,d2,A,d3⟩|⟨g,cap,cur,d1,d2,d3,d4,d5,d6,d7,d8,d9⟩
   ·exact .inl ⟨d1,by rw[d2];rfl,A,d3⟩
   ·refine .inr ⟨g,cap,cur,d1,by rw[ajs];exact d2,d3,d4,by rw[ajs];exact d5,d6,d7,d8,fun i j c x u hc hx hu=> ?_⟩;rw[aju]at hc;cases hy:cs[i]? with
    |none=>rw[hy]at hc;cases hc
    |some y=>
     rw[hy]at hc;cases hc
     rw[aju]at hx;cases hw:y[j]? with
     |none=>rw[hw]at hx;cases hx
     |some z=>rw[hw]at hx;cases hx;exact(d9 i j y z u hy hw hu).nrm
 |cells cs=>
  obtain⟨c1,c2,vs,T,c3,c4,c5⟩:=dA;refine⟨c1,c2,vs,T,c3,by rw[ajs];exact c4,fun i u c hu hc=> ?_⟩;rw[aju]at hc;cases hx:cs[i]? with
  |none=>rw[hx]at hc;cases hc
  |some x=>rw[hx]at hc;cases hc;exact(c5 i u x hu hx).nrm
 |lp ls p as bd cs=>
  obtain⟨c1,c2,fn,vs,T,c3,c4,c5⟩:=dA;refine⟨c1,c2,fn,vs,T,c3,by rw[ajs];exact c4,fun i u c hu hc=> ?_⟩;rw[aju]at hc;cases hx:cs[i]? with
  |none=>rw[hx]at hc;cases hc
  |some x=>rw[hx]at hc;cases hc;exact(c5 i u x hu hx).nrm
 |it sn cs=>
  obtain⟨c1,c2,fn,vs,T,c3,c4,c5⟩:=dA;refine⟨c1,c2,fn,vs,T,c3,by rw[ajs];exact c4,fun i u c hu hc=> ?_⟩;rw[aju]at hc;cases hx:cs[i]? with
  |none=>rw[hx]at hc;cases hc
  |some x=>rw[hx]at hc;cases hc;exact(c5 i u x hu hx).nrm
section
variable {P:ake} {r:akd Nat} {n N0:Nat} {G:Gh} {w:akg} {a:Act} {s s':St} {Q Q':Exit→St→Prop} {live:akb Nat} {m:Nat}
theorem aaD(h:ia s live m=some s'):s.zp live m∧s'.n=s.n∧s'.t=(live.map fun k=>(k,(bB s.t k).fin m))∧s'.h=((s.h.take m).map (aq.bA m)).map aq.nv:=by
 unfold ia at h;obtain⟨hb,rfl⟩:=dq h;rw[ajp,ajp]at hb;exact⟨⟨di.1 hb.1.1,hb.1.2,hb.2⟩,rfl,rfl,rfl⟩
theorem cx.ia(hs:cx G w a s)(h:ia s live m=some s'):cx (G.cut m) w a s':=by
 obtain⟨h1,h2,h3,h4⟩:=aaD h;have hm:=hs.mask h1;refine⟨hs.size.trans h2.symm,fun i=> ?_,by rw[h4];exact OF hm.inv,hs.df⟩;have:=hm.tmp i
 change aL _ _ _ (bB (live.map fun k=>(k,(bB s.t k).bA m)) i)at this
 rw[pz (fun k=>(bB s.t k).bA m)]at this;rw[h3,pz (fun k=>(bB s.t k).fin m)];split at this
 ·rename_i hi;rw[if_pos hi];exact this.nrm
 ·rename_i hi;rw[if_neg hi];exact .dead _
theorem adx{c:Code}{ι:Type}(live:akb Nat)(m:Nat)(st:ι→St)(I:ι→Prop)(μ:ι→Nat)(i0:ι)(hm:N0≤m)(h0:Go.Proofs.YtpgmcallngdceaaGreatDoor.ia s live m=some (st i0))(hI:I i0)
 (round:∀i,I i→bJ P r N0 c (gA (fun s'=>∃i',Go.Proofs.YtpgmcallngdceaaGreatDoor.ia s' live m=some (st i')∧I i'∧μ i'<μ i) Q) (st i)):bJ P r N0 (.loop c) Q s:=by
 constructor
 intro G w a n hs _;refine OI (fun(i:ι) a' w'=>∃G',I i∧bP N0 G w G' w'∧N0≤G'.N∧cx G' w' a' (st i)) μ i0 ⟨G.cut m,hI,ni _ _ _ _,hm,hs.ia h0⟩ ?_;rintro i a' w' ⟨G',hi,hE,hN,cp⟩;refine wpIn_mono ((round i hi).run G' w' a' n cp hN) fun e a1 w1 hn=> ?_;obtain⟨G1,s1,iA,fb,dS,hq⟩:=hn;cases e with
 |normal=>
  obtain⟨i',h1,h2,h3⟩:=hq;exact⟨i',⟨G1.cut m,h2,(hE.trans iA).trans (ni _ _ _ _),hm,dS.ia h1⟩,h3⟩
 |_=>exact⟨G1,s1,hE.trans iA,fb,dS,hq⟩
theorem ja{c:Code}(live:akb Nat)(m:Nat)(hm:N0≤m)(h0:Go.Proofs.YtpgmcallngdceaaGreatDoor.ia s live m=some s')(h:bJ P r N0 c Q s'):bJ P r N0 c Q s:=by
 constructor
 intro G w a n hs _;exact wpIn_mono (h.run (G.cut m) w a n (hs.ia h0) hm) fun _ _ _ hn=>hn.trans (ni N0 G w m)
theorem aag{c y:Code}{ι:Type}(live:akb Nat)(m:Nat)(st:ι→St)(I:ι→Prop)(hm:N0≤m)(hc:bJ P r N0 c (gA (fun s'=>∃i,Go.Proofs.YtpgmcallngdceaaGreatDoor.ia s' live m=some (st i)∧I i) Q) s)(hy:∀i,I i→bJ P r N0 y Q' (st i)):bJ P r N0 c (gA (fun s=>bJ P r N0 y Q' s) Q) s:=by
 refine hc.mono fun e s' h=> ?_;cases e with
 |normal=>obtain⟨i,h1,h2⟩:=h;exact ja live m hm h1 (hy i h2)
 |_=>exact h
def rB(P:ake)(s:St):akb ResultVar→akd (akb AV)
 |[]=>some []
 | .tmp t::l=>match rB P s l with
   |some xs=>some (bB s.t t::xs)
   |none=>none
 | .cell p t::l=>match w9 s.h (bB s.t p)with
   |some (cs,off)=>match Ad P t cs off,rB P s l with
    |some x,some xs=>some (x::xs)
    |_,_=>none
   |none=>none
def wE(P:ake)(rs:akb ResultVar)(s:St):akd AV:=
 match rB P s rs with
 |some l=>bif ((iu l).bA 0).aT 0 then some ((iu l).fin 0)else none
 |none=>none
def Ae(P:ake)(fn:Func)(R:AV):Exit→St→Prop
 | .normal,s=>wE P fn.results.toList s=some R
 | .ret,s=>wE P fn.results.toList s=some R
 |_,_=>False
theorem C8:∀(l:akb ResultVar)(xs:akb AV)(C:akb AV→Prop),rB P s l=some xs→C xs→kO P s l C
 |[],xs,C,h,hC=>by cases h;exact hC
 | .tmp t::l,xs,C,h,hC=>by
   unfold rB at h;split at h
   ·next ys e=>cases h;exact C8 l ys _ e hC
   ·cases h
 | .cell p t::l,xs,C,h,hC=>by
   unfold rB at h;split at h
   ·next cs off e=>
    split at h
    ·next x ys e1 e2=>cases h;exact Kx e e1 (C8 l ys _ e2 hC)
    ·cases h
   ·cases h
theorem Rt{fn:Func}{R:AV}(h:wE P fn.results.toList s=some R):ou P fn 0 (fun r h'=>h'=[]∧r.nrm=R) s:=by
 unfold wE at h;split at h
 ·next l e=>
  obtain⟨hb,rfl⟩:=dq h;exact C8 _ l _ e ⟨Nat.zero_le _,hb,by simp,by simp,rfl⟩
 ·cases h
theorem jI{fn:Func}{R:AV}(h:wE P fn.results.toList s=some R):Ae P fn R .ret s:=h
theorem yW{f:FuncId}{fn:Func}{c:Code}{args:akb AV}{R:AV}(hf:P.funcs[f]?=some fn)(hb:fn.body=some c)(hn:(fn.name== "runtime.NumGoroutine")=false)
 (hw:bJ P none 0 c (Ae P fn R) {n:=args.length+(fn.ntmps-args.length),t:=jH 0 args,h:=[]}):aG P f args (·=R):=by
 have h:=zn (P:=P) (f:=f) (args:=args) (h:=[]) (K:=fun r h'=>h'=[]∧r.nrm=R) 0 hf hb hn (ajy _) (hw.mono fun e s hq=>by
  cases e with
  |normal=>exact Rt hq
  |ret=>exact Rt hq
  |_=>exact hq.elim)
 refine⟨h.1,fun G w vs hi hl hr=>(h.2 G w vs hi hl hr).mono fun e w' hp=> ?_⟩;obtain⟨v,G',x,h',rfl,hE,hN,dg,hv,rfl,rfl⟩:=hp;exact⟨v,G',x.nrm,[],rfl,hE,hN,dg,hv.nrm,rfl,rfl⟩
theorem ajg{c:Code}(b i:Nat)(xs:akb (akb D))(hx:((s.h[b]?).bind fun B=>match B with| .cells cs=>(cs[i]?).bind AV.ej|_=>none)=some xs)(h:xs.length≤maxLen→bJ P r N0 c Q s):bJ P r N0 c Q s:=by
 constructor
 intro G w a n hs hN;cases hb:s.h[b]? with
 |none=>rw[hb]at hx;cases hx
 |some B=>
  rw[hb]at hx;cases B with
  |cells cs=>
   simp only[ajm]at hx;obtain⟨_,_,vs,T,_,hl,hr⟩:=hs.inv.cU b _ hb;cases hc:cs[i]? with
   |none=>rw[hc]at hx;cases hx
   |some x=>
    rw[hc]at hx;have aX:i<vs.size:=by rw[hl];exact(ajn.1 hc).1
    obtain⟨A,b',o,c',k',us,_,_,h1,h2,_⟩:=((hr i _ x (ajJ aX) hc).list hx).nS;exact(h (ajF h1 h2)).run G w a n hs hN
  |_=>cases hx
end
theorem abg{P:ake}{r:akd Nat}{N0 id:Nat}{ol:akb Oper}{y:Code}{s:St}{Q Q':Exit→St→Prop}(Δ:akb (Nat×AV))(h':akb aq)(h:∃aW:akb (Nat×Ob P),nR P false ol (jX aW) (Δ.map (·.1)) s=some (Δ,h',jv aW))(k:bJ P r N0 y Q' ⟨s.n,Δ++s.t,h'⟩):bJ P r N0 (.region id ol.toArray false) (gA (fun s=>bJ P r N0 y Q' s) Q) s:=
 let ⟨aW,h⟩:=h;Pz aW Δ h' h k
theorem aiQ{P:ake}{r:akd Nat}{N0 id:Nat}{ol:akb Oper}{y:Code}{s:St}{Q Q':Exit→St→Prop}(hm:P.follows .mixedOrders=true)(hl:q9 ol.toArray=true)(Δ:akb (Nat×AV))(h':akb aq)(h:∃aW:akb (Nat×Ob P),nR P true ol (jX aW) (Δ.map (·.1)) s=some (Δ,h',jv aW))(k:bJ P r N0 y Q' ⟨s.n,Δ++s.t,h'⟩):bJ P r N0 (.region id ol.toArray true) (gA (fun s=>bJ P r N0 y Q' s) Q) s:=
 let ⟨aW,h⟩:=h;aiy hm hl aW Δ h' h k
theorem eC{α:Type}{c:Bool}{a b:α}(h:c=true):cond c a b=a:=by rw[h];rfl
theorem jG{α:Type}{c:Bool}{a b:α}(h:c=false):cond c a b=b:=by rw[h];rfl
theorem ao{α β:Type}{x:akd α}{f:α→akd β}{b:β}(h:Option.bind x f=some b):∃a,x=some a∧f a=some b:=by
 cases x with
 |none=>cases h
 |some a=>exact⟨a,rfl,h⟩
theorem jQ(b:Bool):b=true∨b=false:=by cases b<;>simp
theorem not_t{b:Bool}(h:b=true):(!b)=false:=by rw[h];rfl
theorem bS{b:Bool}(h:b=false):(!b)=true:=by rw[h];rfl
theorem jw{α:Type}{c:Bool}{x:akd α}{r:α}(h:(bif c then x else none)=some r):c=true:=by
 cases c with
 |true=>rfl
 |false=>cases h
section
variable {P:ake} {r:akd Nat} {N0 id n:Nat} {ol:akb Oper} {y:Code} {t:akb (Nat×AV)} {h:akb aq} {Q Q':Exit→St→Prop}
theorem rg(aW:akb (Nat×Ob P))(Δ:akb (Nat×AV))(h':akb aq)(e:nR P false ol (jX aW) (Δ.map (·.1)) ⟨n,t,h⟩=some (Δ,h',jv aW))(k:bJ P r N0 y Q' ⟨n,Δ++t,h'⟩):bJ P r N0 (.region id ol.toArray false) (gA (fun s=>bJ P r N0 y Q' s) Q) ⟨n,t,h⟩:=Pz aW Δ h' e k
theorem re(aW:akb (Nat×Ob P))(Δ:akb (Nat×AV))(h':akb aq)(e:I8 P false ol (jX aW) ⟨n,t,h⟩=some (Δ++t,h',jv aW))(k:Q .normal ⟨n,Δ++t,h'⟩):bJ P r N0 (.region id ol.toArray false) Q ⟨n,t,h⟩:=acj aW Δ h' e k
theorem YQ(Δ:akb (Nat×AV))(h':akb aq)(e:∃aW:akb (Nat×Ob P),nR P false ol (jX aW) (Δ.map (·.1)) ⟨n,t,h⟩=some (Δ,h',jv aW))(k:bJ P r N0 y Q' ⟨n,Δ++t,h'⟩):bJ P r N0 (.region id ol.toArray false) (gA (fun s=>bJ P r N0 y Q' s) Q) ⟨n,t,h⟩:=abg Δ h' e k
theorem rdE(hm:P.follows .mixedOrders=true)(hl:q9 ol.toArray=true)(Δ:akb (Nat×AV))(h':akb aq)(e:∃aW:akb (Nat×Ob P),nR P true ol (jX aW) (Δ.map (·.1)) ⟨n,t,h⟩=some (Δ,h',jv aW))(k:bJ P r N0 y Q' ⟨n,Δ++t,h'⟩):bJ P r N0 (.region id ol.toArray true) (gA (fun s=>bJ P r N0 y Q' s) Q) ⟨n,t,h⟩:=aiQ hm hl Δ h' e k
end
def bs(l:akb UInt8):akc:=⟨l.toArray⟩
def rW(x:D):Prop:=∃(S:Nat→Nat→Prop)(w:akg)(u:akf),cY S w u x
theorem uy{xs:akb (akb D)}(h:rW (.sl xs)):xs.length≤maxLen:=by
 obtain⟨S,w,u,h⟩:=h;obtain⟨A,b',o,c',k',us,_,_,h1,h2,_⟩:=h.nS;exact ajF h1 h2
theorem NO{xs:akb (akb D)}{i j:Nat}{c:akb D}{d:D}(h:rW (.sl xs))(hc:xs[i]?=some c)(hd:c[j]?=some d):rW d:=by
 obtain⟨S,w,u,h⟩:=h;obtain⟨A,b',o,c',k',us,_,_,h1,h2,h3,h4,h5⟩:=h.nS;exact⟨S,w,_,h5 i j c d hc hd⟩
section
variable {P:ake} {r:akd Nat} {n N0:Nat} {s:St} {Q:Exit→St→Prop}
theorem xk{c:Code}(k:Nat)(xs:akb (akb D))(hx:(bB s.t k).ej=some xs)(h:rW (.sl xs)→bJ P r N0 c Q s):bJ P r N0 c Q s:=by
 constructor
 intro G w a n hs hN;exact(h ⟨_,_,_,(hs.tmp k).list hx⟩).run G w a n hs hN
theorem afO{c:Code}(b i:Nat)(xs:akb (akb D))(hx:((s.h[b]?).bind fun B=>match B with| .cells cs=>(cs[i]?).bind AV.ej|_=>none)=some xs)(h:rW (.sl xs)→bJ P r N0 c Q s):bJ P r N0 c Q s:=by
 constructor
 intro G w a n hs hN;cases hb:s.h[b]? with
 |none=>rw[hb]at hx;cases hx
 |some B=>
  rw[hb]at hx;cases B with
  |cells cs=>
   simp only[ajm]at hx;obtain⟨_,_,vs,T,_,hl,hr⟩:=hs.inv.cU b _ hb;cases hc:cs[i]? with
   |none=>rw[hc]at hx;cases hx
   |some x=>
    rw[hc]at hx;have aX:i<vs.size:=by rw[hl];exact(ajn.1 hc).1
    exact(h ⟨_,_,_,(hr i _ x (ajJ aX) hc).list hx⟩).run G w a n hs hN
  |_=>cases hx
end
end Go.Proofs.YtpgmcallngdceaaGreatDoor
namespace Go.Proofs.YtpgmcallngdceaaGreatDoor
open Go.RowKit
mutual
def AV.dQ(b:Nat)(ds:akb D):AV→AV
 | .ptr n off=>bif n==b then .bD [ds] 0 off else .ptr n off
 | .agg cs=> .agg (AV.tR b ds cs)
 | .bk cs=> .bk (AV.tR b ds cs)
 | .fn f cs=> .fn f (AV.tR b ds cs)
 |x=>x
def AV.tR(b:Nat)(ds:akb D):akb AV→akb AV
 |[]=>[]
 |x::l=>x.dQ b ds::AV.tR b ds l
end
theorem A7(b:Nat)(ds:akb D):∀l,AV.tR b ds l=l.map (AV.dQ b ds)
 |[]=>by simp [AV.tR]
 |x::l=>by simp [AV.tR,A7 b ds l]
def aq.dQ(b:Nat)(ds:akb D):aq→aq
 | .cells cs=> .cells (cs.map (AV.dQ b ds))
 | .lp ls p as bd cs=> .lp ls p as bd (cs.map (AV.dQ b ds))
 | .it sn cs=> .it sn (cs.map (AV.dQ b ds))
 | .vec e k cs=> .vec e k (cs.map (·.map (AV.dQ b ds)))
 |B=>B
def D5(s:St)(b:Nat):akd St:=
 match s.h[b]? with
 |some (.cells cs)=>match lX cs with
  |some ds=>some ⟨s.n,s.t.map fun p=>(p.1,p.2.dQ b ds),(s.h.map (aq.dQ b ds)).set b .gone⟩
  |none=>none
 |_=>none
theorem E2(f:AV→AV)(hf:f .dead= .dead):∀(t:akb (Nat×AV))(i:Nat),bB (t.map fun p=>(p.1,f p.2)) i=f (bB t i)
 |[],i=>by simp [bB,hf]
 |(k,x)::l,i=>by
  simp only[ajM,lK,E2 f hf l i];split<;>rfl
theorem aL.dQ{G G':Gh}{w:akg}{b:Nat}{ds:akb D}(hE:bP G.N G w G' w)(hN:G'.N=G.N)(hp:∀off,aL G' w (.pointer (some ⟨G.bm b,off,none⟩)) (.bD [ds] 0 off)){u:akf}{x:AV}(h:aL G w u x):aL G' w u (x.dQ b ds):=by
 have bn:∀{u:akf}{x:AV},aL G w u x→aL G' w u x:=fun h=>h.bn hE (Nat.le_of_eq hN.symm);have eZ:∀(vs:Array akf)(cs:akb AV),(∀(i:Nat)(u:akf)(c:AV),vs[i]?=some u→cs[i]?=some c→aL G' w u (c.dQ b ds))→∀(i:Nat)(u:akf)(c:AV),vs[i]?=some u→(AV.tR b ds cs)[i]?=some c→aL G' w u c:=by
  intro vs cs ih i u c hu hc;rw[A7,aju]at hc;cases hx:cs[i]? with
  |none=>rw[hx]at hc;cases hc
  |some x=>rw[hx]at hc;cases hc;exact ih i u x hu hx
 induction h with
 |agg vs cs hl _ ih=>rw[AV.dQ];exact .agg vs _ (by rw[A7,ajs];exact hl) (eZ vs cs ih)
 |bk vs cs hl _ ih=>rw[AV.dQ];exact .bk vs _ (by rw[A7,ajs];exact hl) (eZ vs cs ih)
 |fn f vs cs hl _ ih=>rw[AV.dQ];exact .fn f vs _ (by rw[A7,ajs];exact hl) (eZ vs cs ih)
 |ptr n off h=>
  rw[AV.dQ,cond_eq_ite];split
  ·next e=>rw[beq_iff_eq]at e;subst e;exact hp off
  ·exact bn (.ptr n off h)
 |own n xs h hp hle hf=>simp only[AV.dQ];exact bn (.own n xs h hp hle hf)
 |d h=>simp only[AV.dQ];exact bn (.d h)
 |bD xs i off b o u x hx hS hu=>simp only[AV.dQ];exact bn (.bD xs i off b o u x hx hS hu)
 |full xs hp hf=>simp only[AV.dQ];exact bn (.full xs hp hf)
 |row n off len cap k h hl hm=>simp only[AV.dQ];exact bn (.row n off len cap k h hl hm)
 |mp n h=>simp only[AV.dQ];exact bn (.mp n h)
 |cE n h=>simp only[AV.dQ];exact bn (.cE n h)
 |vec n o len L k h hs hL hf=>simp only[AV.dQ];exact bn (.vec n o len L k h hs hL hf)
 |cN n i j L k h hs hL hf=>simp only[AV.dQ];exact bn (.cN n i j L k h hs hL hf)
 |hid h h1=>simp only[AV.dQ];exact bn (.hid h h1)
 |dead u=>simp only[AV.dQ];exact .dead u
theorem Sp:∀(cs:akb AV)(ds:akb D),lX cs=some ds→cs.length=ds.length∧∀(i:Nat)(c:AV)(d:D),cs[i]?=some c→ds[i]?=some d→c.vO=some d
 |[],ds,h=>by unfold lX at h;cases h;exact⟨rfl,fun i c d hc=>by simp at hc⟩
 |x::cs,ds,h=>by
  unfold lX at h;split at h
  ·next d l e1 e2=>
   cases h
   obtain⟨h1,h2⟩:=Sp cs l e2;refine⟨by simp [h1],fun i c d' hc hd=> ?_⟩
   match i with
   |0=>simp only[List.getElem?_cons_zero,Option.some.injEq]at hc hd;subst hc;subst hd;exact e1
   |i+1=>exact h2 i c d' (by simpa using hc) (by simpa using hd)
  ·cases h
theorem aL.ahE{G:Gh}{w:akg}{u:akf}{x:AV}{d:D}(h:aL G w u x)(hd:x.vO=some d):cY G.S w u d:=by
 cases h with
 |d h=>cases hd;exact h.zj
 |own n xs h hp=>cases hd;exact hp
 |full xs hp=>cases hd;exact hp
 |_=>cases hd
theorem cx.D5{G:Gh}{w:akg}{a:Act}{s s':St}{b:Nat}(hs:cx G w a s)(h:D5 s b=some s'):∃G',bP G.N G w G' w∧G'.N=G.N∧cx G' w a s':=by
 unfold Go.Proofs.YtpgmcallngdceaaGreatDoor.D5 at h;split at h
 ·next cs hb=>
  split at h
  ·next ds sa=>
   cases h
   obtain⟨z1,z2,vs,T,z3,z4,z5⟩:=hs.inv.cU b _ hb;obtain⟨d1,d2⟩:=Sp cs ds sa;have l9:b6 s.h G b=some (G.bm b):=dm hb;obtain⟨S,hS⟩:∃S:Nat→Nat→Prop,S=fun b' o=>G.S b' o∨(b'=G.bm b∧o<ds.length):=⟨_,rfl⟩;have hE:bP G.N G w {G with S:=S} w:=⟨ajy _,fun b o h=>by show S b o;rw[hS];exact .inl h,fun _ _ _=>rfl,fun _ _=>rfl,fun _ _=> .inl ⟨rfl,rfl⟩,fJ rfl,fun _ _=>rfl,rfl,rfl,rfl,fun b' o hs=>by
    have cp:S b' o:=hs;rw[hS]at cp;rcases cp with h|⟨rfl,_⟩
    ·exact .inl h
    ·exact .inr z1⟩
   have hp:∀off,aL {G with S:=S} w (.pointer (some ⟨G.bm b,off,none⟩)) (.bD [ds] 0 off):=fun off=>by
    have:=aL.bD (G:={G with S:=S}) (w:=w) [ds] 0 off (G.bm b) 0 (fun j=>vs.getD j undef) ds rfl (fun j hj=> ?_) (fun j d hd=> ?_)
    ·rwa [ajH]at this
    ·have gY:j<vs.size:=by rw[z4,d1];exact hj
     refine⟨by show S _ _;rw[hS];exact .inr ⟨rfl,by rw[ajH];exact hj⟩,?_⟩;rw[ajH,cell_of_row w (G.bm b) j vs T (0,0) z3];simp [Array.getD,gY]
    ·have hj:j<ds.length:=(ajn.1 hd).1;have gY:j<vs.size:=by rw[z4,d1];exact hj
     have hc:cs[j]?=some cs[j]:=ajr (by rw[d1];exact hj);have hv:=z5 j vs[j] _ (ajJ gY) hc;have e:vs.getD j undef=vs[j]:=by simp [Array.getD,gY]
     rw[e];exact(hv.ahE (d2 j _ d hc hd)).bn hE.S hE.cell
   have hv:∀{u:akf}{x:AV},aL G w u x→aL {G with S:=S} w u (x.dQ b ds):=fun h=>h.dQ hE rfl hp;have aaF:=(ajn.1 hb).1;have dT:∀(n:Nat)(B:aq),((s.h.map (aq.dQ b ds)).set b .gone)[n]?=some B→(n=b∧B= .gone)∨(n≠b∧∃B',s.h[n]?=some B'∧B=B'.dQ b ds):=fun n B hB=>by
    by_cases e:b=n
    ·subst e;rw[ajQ (by rw[ajs];exact aaF)]at hB;cases hB;exact .inl ⟨rfl,rfl⟩
    ·rw[ajV e,aju]at hB;cases hx:s.h[n]? with
     |none=>rw[hx]at hB;cases hB
     |some B'=>rw[hx]at hB;cases hB;exact .inr ⟨fun h=>e h.symm,B',rfl,rfl⟩
   have dE:∀n x,b6 ((s.h.map (aq.dQ b ds)).set b .gone) {G with S:=S} n=some x→n≠b∧b6 s.h G n=some x:=fun n x hx=>by
    obtain⟨B,hn,hx⟩:=mr hx;rcases dT n _ hn with⟨_,e⟩|⟨cu,B',h1,rfl⟩
    ·subst e;cases hx
    ·refine⟨cu,?_⟩;rw[dm h1,←hx];cases B'<;>rfl
   refine⟨{G with S:=S},hE,rfl,hs.size,fun i=> ?_,⟨by rw[List.length_set,ajs];exact hs.inv.len,hs.inv.z,fun b' o h=> ?_,fun n B hB=> ?_,fun m n x h1 h2=>hs.inv.inj m n x (dE m x h1).2 (dE n x h2).2,hs.inv.gl.bn hE⟩,hs.df⟩
   ·show aL _ _ _ (bB (s.t.map fun p=>(p.1,p.2.dQ b ds)) i);rw[E2 (AV.dQ b ds) (by simp [AV.dQ])];exact hv (hs.tmp i)
   ·have cp:S b' o:=h;rw[hS]at cp;rcases cp with h|⟨rfl,_⟩
    ·exact hs.inv.S b' o h
    ·exact(ajC.1 z3).1
   ·rcases dT n B hB with⟨rfl,rfl⟩|⟨cu,B',h1,rfl⟩
    ·trivial
    ·have dA:=hs.inv.cU n B' h1;cases B' with
     |gone=>trivial
     |map kv=>exact dC.bn (G':={G with S:=S}) (hs.inv.lt h1) hE (ajy _) ⟨rfl,rfl,rfl⟩ (fun c hc=>⟨rfl,fun o jC hq=>by
      have cp:S c o:=hq;rw[hS]at cp;rcases cp with h|⟨e,_⟩
      ·exact jC h
      ·exact cu (hs.inv.inj n b _ ((dm h1).trans hc) (by rw[e];exact l9))⟩) dA
     |front e k len=>exact dC.bn (G':={G with S:=S}) (hs.inv.lt h1) hE (ajy _) ⟨rfl,rfl,rfl⟩ (fun c hc=>⟨rfl,fun o jC hq=>by
      have cp:S c o:=hq;rw[hS]at cp;rcases cp with h|⟨e,_⟩
      ·exact jC h
      ·exact cu (hs.inv.inj n b _ ((dm h1).trans hc) (by rw[e];exact l9))⟩) dA
     |cells ca=>
      obtain⟨c1,c2,fc,T',c3,c4,c5⟩:=dA;have lh:b6 s.h G n=some (G.bm n):=dm h1;refine⟨c1,fun o hq=> ?_,fc,T',c3,by rw[ajs];exact c4,fun i u c hu hc=> ?_⟩
      ·have cp:S (G.bm n) o:=hq;rw[hS]at cp;rcases cp with h|⟨e,_⟩
       ·exact c2 o h
       ·exact cu (hs.inv.inj n b _ lh (by rw[e];exact l9))
      ·rw[aju]at hc;cases hx:ca[i]? with
       |none=>rw[hx]at hc;cases hc
       |some x=>rw[hx]at hc;cases hc;exact hv (c5 i u x hu hx)
     |lp ls p as bd ca=>
      obtain⟨c1,c2,fn,fc,T',c3,c4,c5⟩:=dA;have lh:b6 s.h G n=some (G.bm n):=dm h1;refine⟨c1,fun o hq=> ?_,fn,fc,T',c3,by rw[ajs];exact c4,fun i u c hu hc=> ?_⟩
      ·have cp:S (G.bm n) o:=hq;rw[hS]at cp;rcases cp with h|⟨e,_⟩
       ·exact c2 o h
       ·exact cu (hs.inv.inj n b _ lh (by rw[e];exact l9))
      ·rw[aju]at hc;cases hx:ca[i]? with
       |none=>rw[hx]at hc;cases hc
       |some x=>rw[hx]at hc;cases hc;exact hv (c5 i u x hu hx)
     |it sn ca=>
      obtain⟨c1,c2,fn,fc,T',c3,c4,c5⟩:=dA;have lh:b6 s.h G n=some (G.bm n):=dm h1;refine⟨c1,fun o hq=> ?_,fn,fc,T',c3,by rw[ajs];exact c4,fun i u c hu hc=> ?_⟩
      ·have cp:S (G.bm n) o:=hq;rw[hS]at cp;rcases cp with h|⟨e,_⟩
       ·exact c2 o h
       ·exact cu (hs.inv.inj n b _ lh (by rw[e];exact l9))
      ·rw[aju]at hc;cases hx:ca[i]? with
       |none=>rw[hx]at hc;cases hc
       |some x=>rw[hx]at hc;cases hc;exact hv (c5 i u x hu hx)
     |vec e k ca=>
      obtain⟨c1,c2,c3,c4⟩:=dA;refine⟨by rw[ajs];exact c1,by rw[ajs];exact c2,fun c hc=> ?_,?_⟩
      ·obtain⟨x,hx,rfl⟩:=List.mem_map.1 hc;rw[ajs];exact c3 x hx
      ·rcases c4 with⟨d1,d2,A,d3⟩|⟨g,cap,cur,d1,d2,d3,d4,d5,d6,d7,d8,d9⟩
       ·exact .inl ⟨d1,by rw[d2];rfl,A,d3⟩
       ·have lh:b6 s.h G n=some g:=(dm h1).trans d1;refine .inr ⟨g,cap,cur,d1,by rw[ajs];exact d2,d3,d4,by rw[ajs];exact d5,d6,d7,fun o hq=> ?_,fun i j c x u hc hx hu=> ?_⟩
        ·have cp:S g o:=hq;rw[hS]at cp;rcases cp with h|⟨e,_⟩
         ·exact d8 o h
         ·exact cu (hs.inv.inj n b _ lh (by rw[e];exact l9))
        ·rw[aju]at hc;cases hy:ca[i]? with
         |none=>rw[hy]at hc;cases hc
         |some y=>
          rw[hy]at hc;cases hc
          rw[aju]at hx;cases hw:y[j]? with
          |none=>rw[hw]at hx;cases hx
          |some z=>rw[hw]at hx;cases hx;exact hv (d9 i j y z u hy hw hu)
  ·cases h
 ·cases h
def D.te:D→Bool
 | .v u=>u.oneCell'
 | .sl _=>true
mutual
def AV.kill(b:Nat):AV→AV
 | .vec n o len L k=>bif n==b then .dead else .vec n o len L k
 | .cN n i j L k=>bif n==b then .dead else .cN n i j L k
 | .agg cs=> .agg (AV.Fy b cs)
 | .bk cs=> .bk (AV.Fy b cs)
 | .fn f cs=> .fn f (AV.Fy b cs)
 |x=>x
def AV.Fy(b:Nat):akb AV→akb AV
 |[]=>[]
 |x::l=>x.kill b::AV.Fy b l
end
def aq.iV(f:AV→AV):aq→aq
 | .cells cs=> .cells (cs.map f)
 | .lp ls p as bd cs=> .lp ls p as bd (cs.map f)
 | .it sn cs=> .it sn (cs.map f)
 | .vec e k cs=> .vec e k (cs.map (·.map f))
 |B=>B
theorem YN{G:Gh}{w:akg}{h:akb aq}(hi:bV G w h){b:Nat}{S:Nat→Nat→Prop}{f:AV→AV}(hE:bP G.N G w {G with S:=S} w)(hS:∀c o,S c o→G.S c o∨b6 h G b=some c)(hv:∀{u:akf}{x:AV},aL G w u x→aL {G with S:=S} w u (f x)):
 bV {G with S:=S} w ((h.map (aq.iV f)).set b .gone):=by
 have dT:∀(n:Nat)(B:aq),((h.map (aq.iV f)).set b .gone)[n]?=some B→(n=b∧B= .gone)∨(n≠b∧∃B',h[n]?=some B'∧B=B'.iV f):=fun n B hB=>by
  by_cases e:b=n
  ·subst e;have aX:=(ajn.1 hB).1;rw[List.length_set]at aX;rw[ajQ aX]at hB;cases hB;exact .inl ⟨rfl,rfl⟩
  ·rw[ajV e,aju]at hB;cases hx:h[n]? with
   |none=>rw[hx]at hB;cases hB
   |some B'=>rw[hx]at hB;cases hB;exact .inr ⟨fun h=>e h.symm,B',rfl,rfl⟩
 have dE:∀n x,b6 ((h.map (aq.iV f)).set b .gone) {G with S:=S} n=some x→n≠b∧b6 h G n=some x:=fun n x hx=>by
  obtain⟨B,hn,hx⟩:=mr hx;rcases dT n _ hn with⟨_,e⟩|⟨cu,B',h1,rfl⟩
  ·subst e;cases hx
  ·refine⟨cu,?_⟩;rw[dm h1,←hx];cases B'<;>rfl
 refine⟨by rw[List.length_set,ajs];exact hi.len,hi.z,fun c o hs=> ?_,fun n B hB=> ?_,fun m n x h1 h2=>hi.inj m n x (dE m x h1).2 (dE n x h2).2,hi.gl.bn hE⟩
 ·rcases hS c o hs with h1|h1
  ·exact hi.S c o h1
  ·exact hi.gP h1
 ·rcases dT n B hB with⟨rfl,rfl⟩|⟨cu,B',h1,rfl⟩
  ·trivial
  ·have dA:=hi.cU n B' h1;have fw:∀c,B'.dv G n=some c→∀o,¬G.S c o→¬S c o:=fun c hc o jC hq=>by
    rcases hS c o hq with h2|h2
    ·exact jC h2
    ·exact cu (hi.inj n b c ((dm h1).trans hc) h2)
   cases B' with
   |gone=>trivial
   |map kv=>exact dC.bn (G':={G with S:=S}) (hi.lt h1) hE (ajy _) ⟨rfl,rfl,rfl⟩ (fun c hc=>⟨rfl,fw c hc⟩) dA
   |front e k len=>exact dC.bn (G':={G with S:=S}) (hi.lt h1) hE (ajy _) ⟨rfl,rfl,rfl⟩ (fun c hc=>⟨rfl,fw c hc⟩) dA
   |cells ca=>
    obtain⟨c1,c2,fc,T',c3,c4,c5⟩:=dA;refine⟨c1,fun o=>fw _ rfl o (c2 o),fc,T',c3,by rw[ajs];exact c4,fun i u c hu hc=> ?_⟩;rw[aju]at hc;cases hx:ca[i]? with
    |none=>rw[hx]at hc;cases hc
    |some x=>rw[hx]at hc;cases hc;exact hv (c5 i u x hu hx)
   |lp ls p as bd ca=>
    obtain⟨c1,c2,fn,fc,T',c3,c4,c5⟩:=dA;refine⟨c1,fun o=>fw _ rfl o (c2 o),fn,fc,T',c3,by rw[ajs];exact c4,fun i u c hu hc=> ?_⟩;rw[aju]at hc;cases hx:ca[i]? with
    |none=>rw[hx]at hc;cases hc
    |some x=>rw[hx]at hc;cases hc;exact hv (c5 i u x hu hx)
   |it sn ca=>
    obtain⟨c1,c2,fn,fc,T',c3,c4,c5⟩:=dA;refine⟨c1,fun o=>fw _ rfl o (c2 o),fn,fc,T',c3,by rw[ajs];exact c4,fun i u c hu hc=> ?_⟩;rw[aju]at hc;cases hx:ca[i]? with
    |none=>rw[hx]at hc;cases hc
    |some x=>rw[hx]at hc;cases hc;exact hv (c5 i u x hu hx)
   |vec e k ca=>
    obtain⟨c1,c2,c3,c4⟩:=dA;refine⟨by rw[ajs];exact c1,by rw[ajs];exact c2,fun c hc=> ?_,?_⟩
    ·obtain⟨x,hx,rfl⟩:=List.mem_map.1 hc;rw[ajs];exact c3 x hx
    ·rcases c4 with⟨d1,d2,A,d3⟩|⟨g,cap,cur,d1,d2,d3,d4,d5,d6,d7,d8,d9⟩
     ·exact .inl ⟨d1,by rw[d2];rfl,A,d3⟩
     ·refine .inr ⟨g,cap,cur,d1,by rw[ajs];exact d2,d3,d4,by rw[ajs];exact d5,d6,d7,fun o=>fw g d1 o (d8 o),fun i j c x u hc hx hu=> ?_⟩;rw[aju]at hc;cases hy:ca[i]? with
      |none=>rw[hy]at hc;cases hc
      |some y=>
       rw[hy]at hc;cases hc
       rw[aju]at hx;cases hw:y[j]? with
       |none=>rw[hw]at hx;cases hx
       |some z=>rw[hw]at hx;cases hx;exact hv (d9 i j y z u hy hw hu)
mutual
def AV.cw(b kk:Nat)(xs:akb (akb D)):AV→AV
 | .vec n o len L k=>bif n==b then(bif L==xs.length&&k==kk then .d (.sl ((xs.drop o).take len))else .dead)else .vec n o len L k
 | .cN n i j L k=>bif n==b then .dead else .cN n i j L k
 | .agg cs=> .agg (AV.nE b kk xs cs)
 | .bk cs=> .bk (AV.nE b kk xs cs)
 | .fn f cs=> .fn f (AV.nE b kk xs cs)
 |x=>x
def AV.nE(b kk:Nat)(xs:akb (akb D)):akb AV→akb AV
 |[]=>[]
 |x::l=>x.cw b kk xs::AV.nE b kk xs l
end
theorem oU(b kk:Nat)(xs:akb (akb D)):∀l,AV.nE b kk xs l=l.map (AV.cw b kk xs)
 |[]=>by simp [AV.nE]
 |x::l=>by simp [AV.nE,oU b kk xs l]
theorem aL.cw{G G':Gh}{w:akg}{b kk:Nat}{xs:akb (akb D)}(hE:bP G.N G w G' w)(hN:G'.N=G.N)(hp:∀(u:akf)(o len:Nat),aL G w u (.vec b o len xs.length kk)→cY G'.S w u (.sl ((xs.drop o).take len))){u:akf}{x:AV}(h:aL G w u x):aL G' w u (x.cw b kk xs):=by
 have bn:∀{u:akf}{x:AV},aL G w u x→aL G' w u x:=fun h=>h.bn hE (Nat.le_of_eq hN.symm);have eZ:∀(vs:Array akf)(cs:akb AV),(∀(i:Nat)(u:akf)(c:AV),vs[i]?=some u→cs[i]?=some c→aL G' w u (c.cw b kk xs))→∀(i:Nat)(u:akf)(c:AV),vs[i]?=some u→(AV.nE b kk xs cs)[i]?=some c→aL G' w u c:=by
  intro vs cs ih i u c hu hc;rw[oU,aju]at hc;cases hx:cs[i]? with
  |none=>rw[hx]at hc;cases hc
  |some x=>rw[hx]at hc;cases hc;exact ih i u x hu hx
 induction h with
 |agg vs cs hl _ ih=>rw[AV.cw];exact .agg vs _ (by rw[oU,ajs];exact hl) (eZ vs cs ih)
 |bk vs cs hl _ ih=>rw[AV.cw];exact .bk vs _ (by rw[oU,ajs];exact hl) (eZ vs cs ih)
 |fn f vs cs hl _ ih=>rw[AV.cw];exact .fn f vs _ (by rw[oU,ajs];exact hl) (eZ vs cs ih)
 |vec n o len L k h hs hL hf=>
  rw[AV.cw,cond_eq_ite];split
  ·next e=>
   have e:n=b:=by simpa using e
   subst e;rw[cond_eq_ite];split
   ·next e2=>
    rw[ajp,beq_iff_eq,beq_iff_eq]at e2;obtain⟨rfl,rfl⟩:=e2;exact .d (hp _ o len (.vec n o len _ _ h hs hL hf))
   ·exact .dead _
  ·exact bn (.vec n o len L k h hs hL hf)
 |cN n i j L k h hs hL hf=>
  rw[AV.cw,cond_eq_ite];split
  ·exact .dead _
  ·exact bn (.cN n i j L k h hs hL hf)
 |ptr n off h=>simp only[AV.cw];exact bn (.ptr n off h)
 |own n xs h hp hle hf=>simp only[AV.cw];exact bn (.own n xs h hp hle hf)
 |d h=>simp only[AV.cw];exact bn (.d h)
 |bD xs i off b o u x hx hS hu=>simp only[AV.cw];exact bn (.bD xs i off b o u x hx hS hu)
 |full xs hp hf=>simp only[AV.cw];exact bn (.full xs hp hf)
 |row n off len cap k h hl hm=>simp only[AV.cw];exact bn (.row n off len cap k h hl hm)
 |mp n h=>simp only[AV.cw];exact bn (.mp n h)
 |cE n h=>simp only[AV.cw];exact bn (.cE n h)
 |hid h h1=>simp only[AV.cw];exact bn (.hid h h1)
 |dead u=>simp only[AV.cw];exact .dead u
theorem cx.L1{G:Gh}{w:akg}{a:Act}{s:St}(hs:cx G w a s)(xs:akb (akb D)){b e k:Nat}(hb:s.h[b]?=some (.vec e k (bo xs)))(fB:∀c∈xs,c.all D.te=true)
 :∃G',bP G.N G w G' w∧G'.N=G.N∧cx G' w a ⟨s.n,s.t.map fun p=>(p.1,p.2.cw b k xs),(s.h.map (aq.iV (AV.cw b k xs))).set b .gone⟩:=by
 obtain⟨L,hL⟩:∃L,xs.length=L:=⟨_,rfl⟩;have DZ:(bo xs).length=L:=by unfold bo;rw[ajs];exact hL
 have gL:=EM hs.inv hb;have lU:∀d∈xs,d.length=k:=fun d hd=>by
  have:=gL (d.map .d) (by unfold bo;exact List.mem_map.2 ⟨d,hd,rfl⟩)
  rwa [ajs]at this
 obtain⟨S,hS⟩:∃S:Nat→Nat→Prop,S=fun c o=>G.S c o∨(b6 s.h G b=some c∧o<L*k):=⟨_,rfl⟩;have hE:bP G.N G w {G with S:=S} w:=⟨ajy _,fun b o h=>by show S b o;rw[hS];exact .inl h,fun _ _ _=>rfl,fun _ _=>rfl,fun _ _=> .inl ⟨rfl,rfl⟩,fJ rfl,fun _ _=>rfl,rfl,rfl,rfl,fun c o hq=>by
  have cp:S c o:=hq;rw[hS]at cp;rcases cp with h|⟨h,_⟩
  ·exact .inl h
  ·obtain⟨B,hB,eP⟩:=mr h;exact .inr ((hs.inv.cU b B hB).kV eP)⟩
 have Rj:∀(u:akf)(o len:Nat),aL G w u (.vec b o len xs.length k)→cY S w u (.sl ((xs.drop o).take len)):=fun u o len mT=>by
  rw[hL]at mT;have j7:=mT.yk hs.inv hb DZ;obtain⟨Iz,⟨A,cc,q1,q2,q3,q4,q5⟩,_⟩:=j7;generalize hy:(xs.drop o).take len=ys;have uj:ys.length=len:=by rw[←hy,List.length_take,List.length_drop];omega
  rw[q1,←uj];show cY S w _ _;by_cases hh0:True
  ·skip
   by_cases h0:len=0
   ·have:ys=[]:=List.eq_nil_of_length_eq_zero (by omega);subst this;exact .sl A 0 0 cc 0 [] (fun _ _=>undef) (fun h=>absurd rfl h) (Nat.zero_le _) q3 (fun _ h=>absurd h aj3) (fun i j hi=>absurd hi (ajP _)) (fun i j x d hx=>by simp at hx)
   ·obtain⟨g,cap,s1,rfl,s3⟩:=q5 (by omega);obtain⟨g',Np,cur,r1,r2,r3,r4,r5,r6,r7,r8,r9⟩:=Hq hs.inv hb (fun e=>by rw[e]at DZ;simp at DZ;omega);rw[r2]at s1;cases s1
    have l9:b6 s.h G b=some g:=(dm hb).trans r1;have ir:∀i,i<len→ys[i]?=xs[o+i]?:=fun i dg=>by rw[←hy,List.getElem?_take_of_lt dg,List.getElem?_drop]
    have fY:∀i j,i<len→j<k→o*k+i*k+j<cur.size:=fun i j hi hj=>by
     have:=k8 (i:=o+i) (k:=k) (L:=(bo xs).length) (j:=j) (by omega) hj;rw[Nat.add_mul]at this;have h2:(bo xs).length*k≤cap*k:=Nat.mul_le_mul_right k (by omega);rw[r7];omega
    have lG:∀(i j:Nat)(x:akb D)(d:D),i<len→ys[i]?=some x→x[j]?=some d→aL G w (cur.getD (o*k+i*k+j) undef) (.d d):=fun i j x d hi hx hd=>by
     rw[ir i hi]at hx;have hj:j<k:=by rw[←lU x (ajA hx)];exact(ajn.1 hd).1
     refine r9 (o+i) j (x.map .d) (.d d) _ (by unfold bo;rw[aju,hx];rfl) (by rw[aju,hd];rfl) ?_;have hc:=fY i j hi hj;rw[show(o+i)*k+j=o*k+i*k+j by rw[Nat.add_mul]];simp [Array.getD,hc]
    refine .sl _ g (o*k) cc k ys (fun i j=>cur.getD (o*k+i*k+j) undef) (fun _=>rfl) (by omega) q3 (fun x hx=> ?_) (fun i j hi hj=>⟨?_,?_,?_⟩) (fun i j x d hx hd=> ?_)
    ·rw[←hy]at hx;exact lU x (List.mem_of_mem_drop (List.mem_of_mem_take hx))
    ·rw[hS];refine .inr ⟨l9,?_⟩;have:=k8 (i:=o+i) (k:=k) (L:=(bo xs).length) (j:=j) (by omega) hj;rw[Nat.add_mul]at this;exact this
    ·rw[cell_of_row w g _ cur e (0,0) r4];have hc:=fY i j (by omega) hj;simp [Array.getD,hc]
    ·have dg:i<len:=by omega
     obtain⟨x,hx⟩:∃x,ys[i]?=some x:=⟨_,ajr hi⟩;have mb:=hx;rw[ir i dg]at mb;have mi:=ajA mb;obtain⟨d,hd⟩:∃d,x[j]?=some d:=⟨_,ajr (by rw[lU x mi];exact hj)⟩;refine(lG i j x d dg hx hd).iX ?_;have h1:=fB x mi;rw[ajN]at h1;have h2:=h1 d (ajA hd);cases d with
     |v u=>exact h2
     |sl l=>rfl
    ·have dg:i<len:=by rw[←uj];exact(ajn.1 hx).1
     have:=lG i j x d dg hx hd;generalize cur.getD (o*k+i*k+j) undef=q at this;cases this with|d h=>exact h.bn hE.S hE.cell
  ·exact(hh0 trivial).elim
 have hinv:=YN (b:=b) (f:=AV.cw b k xs) hs.inv hE (fun c o hq=>by rw[hS]at hq;exact hq.imp id And.left) (fun hq=>hq.cw hE rfl Rj);have cp:cx {G with S:=S} w a ⟨s.n,s.t.map fun p=>(p.1,p.2.cw b k xs),(s.h.map (aq.iV (AV.cw b k xs))).set b .gone⟩:=by
  refine⟨hs.size,fun i=> ?_,hinv,hs.df⟩;show aL _ _ _ (bB (s.t.map fun p=>(p.1,p.2.cw b k xs)) i);rw[E2 (AV.cw b k xs) (by simp [AV.cw])];exact(hs.tmp i).cw hE rfl Rj
 exact⟨_,hE,rfl,cp⟩
def uh(P:ake)(rs:akb ResultVar)(m:Nat)(s:St):akd (AV×akb aq):=
 match rB P s rs with
 |some l=>bif cf m s.h.length&&((iu l).bA m).aT m&&(((s.h.take m).map (aq.bA m)).all (aq.aT m))then some (((iu l).bA m).nrm,((s.h.take m).map (aq.bA m)).map aq.nv)else none
 |none=>none
def yj(P:ake)(fn:Func)(m:Nat)(R:AV)(H:akb aq):Exit→St→Prop
 | .normal,s=>uh P fn.results.toList m s=some (R,H)
 | .ret,s=>uh P fn.results.toList m s=some (R,H)
 |_,_=>False
theorem Pw{P:ake}{s:St}{fn:Func}{m:Nat}{R:AV}{H:akb aq}(h:uh P fn.results.toList m s=some (R,H)):ou P fn m (fun r h'=>r.nrm=R∧h'.map aq.nv=H) s:=by
 unfold uh at h;split at h
 ·next l e=>
  obtain⟨hb,he⟩:=dq h;cases he
  simp only[ajp,di]at hb;exact C8 _ _ _ e ⟨hb.1.1,hb.1.2,hb.2,rfl,rfl⟩
 ·cases h
theorem U0{P:ake}{s:St}{fn:Func}{m:Nat}{R:AV}{H:akb aq}(h:uh P fn.results.toList m s=some (R,H)):yj P fn m R H .ret s:=h
theorem J5{P:ake}{f:FuncId}{fn:Func}{c:Code}{args:akb AV}{h H:akb aq}{R:AV}(m:Nat)(hf:P.funcs[f]?=some fn)(hb:fn.body=some c)(hn:(fn.name== "runtime.NumGoroutine")=false)(hm:h.length≤m)
 (hw:bJ P none h.length c (yj P fn m R H) {n:=args.length+(fn.ntmps-args.length),t:=jH 0 args,h:=h}):bO P f args h fun r1 h1=>r1=R∧h1=H:=by
 have h0:=zn (P:=P) (f:=f) (args:=args) (h:=h) (K:=fun r h'=>r.nrm=R∧h'.map aq.nv=H) m hf hb hn hm (hw.mono fun e s hq=>by
  cases e with
  |normal=>exact Pw hq
  |ret=>exact Pw hq
  |_=>exact hq.elim)
 refine⟨h0.1,fun G w vs hi hl hr=>(h0.2 G w vs hi hl hr).mono fun e w' hp=> ?_⟩;obtain⟨v,G',x,h',rfl,hE,hN,dg,hv,rfl,rfl⟩:=hp;exact⟨v,G',x.nrm,_,rfl,hE,hN,OF dg,hv.nrm,rfl,rfl⟩
theorem CL{P:ake}{r:akd Nat}{N0:Nat}{c:Code}{s s':St}{Q:Exit→St→Prop}(e:s=s')(h:bJ P r N0 c Q s'):bJ P r N0 c Q s:=e▸h
def gI(g:Nat):akb Int:=((zo zw g).getD []).map fun v=>match v with| .int _ n=>n|_=>0
def aaS(l:akb Int):akc:=⟨(l.map fun n=>UInt8.ofNat n.toNat).toArray⟩
end Go.Proofs.YtpgmcallngdceaaGreatDoor
