/-
  Part 2 of the proof: AbsZero, AbsIter, AbsCode, AbsWalk, GrowF, AbsDraw, AbsFrame, AbsRun, AbsFrz.
-/
import Derived.Test.YtphmhnabilhbgaaGreatDoorPm1
import Derived.Lib.AppendZeros
import Derived.Maps.RangeRun
namespace Go.Proofs.YtphmhnabilhbgaaGreatDoor
open Go.RowKit Go.Lib
def AV.isNil:AV→Bool
 | .d (.v (.slice none 0 0))=>true
 |_=>false
theorem aba{x:AV}(h:x.isNil=true):x= .d (.v (.slice none 0 0)):=by
 unfold AV.isNil at h;split at h
 ·rfl
 ·cases h
def vK(P:agX)(op:Op)(ρ:Operand→AV)(h:agU an):agW (AV×agU an):=
 match op with
 | .slice T x lo hi none=>match ej P T,rS ρ 0 lo,rS ρ 0 hi with
   |some _,some 0,some 0=>bif (ρ x).isNil then some (.d (.v (.slice none 0 0)),h)else none
   |_,_,_=>none
 | .call c=>match c.callee with
   | .builtin .cap=>match c.args.toList,c.argTypes.toList with
     |[x],[T]=>bif (ρ x).isNil&&(ej P T).isSome then some (.d (.v (.int .i64 0)),h)else none
     |_,_=>none
   | .builtin .append=>match c.args.toList,c.argTypes.toList with
     |[x,y],[T,U]=>match ej P T,nC P U,ρ y with
      |some (e,k),some _, .d (.v (.int _ (.ofNat m)))=>match zeroT P e,oA P e with
       |some z,some dc=>bif (ρ x).isNil&&b8 1 m&&b8 1 k&&z.cells.toList.length==k&&b8 m maxLen&&b8 (m*dc) 140737488355328 then some (.vec h.length 0 m m k,h++[.vec e k (List.replicate m (z.cells.toList.map fun u=> .d (.v u)))])else none
       |_,_=>none
      |_,_,_=>none
     |_,_=>none
   |_=>none
 |_=>none
section
variable {P:agX} {r:agW Nat} {n N0:Nat} {G:Gh} {w:agZ} {a:Act} {s:St} {o:Oper} {K:St→Prop} {Q:Exit→Act→agZ→Prop}
theorem XR{x:Operand}{T:TypeId}(c:Call)(hc:c.callee= .builtin .cap)(h1:c.args.toList=[x])(h2:c.argTypes.toList=[T])(ho:o.op= .call c):
 (execOp a.eval o).run P w=((Builtin.cap_ #[T] o.type #[a.eval x]).run P w).andThen fun v w'=> .ok (.value v) w':=by
 have e1:c.args= #[x]:=by rw[←Array.toList_inj];exact h1
 have e2:c.argTypes= #[T]:=by rw[←Array.toList_inj];exact h2
 unfold execOp;simp only[ho,resolve,hc,e1,e2,invoke,builtin,Sem.run_bind,Sem.run_pure,Result.andThen_ok,List.map_toArray,agv,List.map_nil]
theorem UK(hs:cT G w a s){x:agW Operand}(h:rS (ev s) 0 x=some 0):yu a x 0 0:=by
 cases x with
 |none=>rfl
 |some y=>exact K8 (d:=0) hs h (Int.le_refl _)
theorem WV{x:AV}{h':agU an}(hs:cT G w a s)(cA:N0≤G.N)(hx:vK P o.op (ev s) s.h=some (x,h'))(hK:K ((s.wh h').put o.dst x)):o.wpIn (WF r) n P a w (iE N0 G w K) Q:=by
 have dt:=hs.ev;have nil:∀{y:Operand},(ev s y).isNil=true→a.eval y= .slice none 0 0:=fun{y} h=>by
  have:=dt y;rw[aba h]at this;exact this.val
 unfold vK at hx;split at hx
 next T y lo hi ho=>
  split at hx
  ·next ek e1 e2 e3=>
   obtain⟨hb,he⟩:=kK hx;cases he
   obtain⟨eP,fe⟩:=iV e1;refine eX (by rw[ho];simp) hs cA (v:= .slice none 0 0) ?_ (.d (.v _)) hK;have jt:=zW (P:=P) (wu:=true) (UK hs e2) (UK hs e3) (agh _) (agh 0) w;unfold execOp;simp [ho,nil hb,Instr.sliceAt,Instr.slice,run_underlying eP,jt,kJ fe]
  ·cases hx
 next c ho=>
  split at hx
  ·next hc=>
   split at hx
   ·next y T e1 e2=>
    obtain⟨hb,he⟩:=kK hx;cases he
    rw[af7]at hb;cases hT:ej P T with
    |none=>rw[hT]at hb;cases hb.2
    |some ek=>
     obtain⟨eP,fe⟩:=iV hT;refine eX (by rw[ho];simp) hs cA (v:= .int .i64 0) ?_ (.d (.v _)) hK;rw[XR c hc e1 e2 ho,nil hb.1];simp [Builtin.cap_,run_underlying eP,goInt]
   ·cases hx
  ·next hc=>
   split at hx
   ·next y z T U e1 e2=>
    split at hx
    ·next e k kn kq m f1 f2 f3=>
     split at hx
     ·next zz dc g1 g2=>
      obtain⟨hb,he⟩:=kK hx;cases he
      simp only[af7,dA,beq_iff_eq]at hb;obtain⟨⟨⟨⟨⟨hb1,jt⟩,zk⟩,mO⟩,FM⟩,L7⟩:=hb;clear hx;obtain⟨eP,fe⟩:=iV f1;obtain⟨i,jL,iz⟩:∃i,P.info? e=some i∧i.size=k:=by
       unfold fh at fe;cases hq:P.info? e with
       |none=>rw[hq]at fe;cases fe
       |some i=>rw[hq]at fe;exact⟨i,rfl,agp fe⟩
      have hz:i.zero=some zz:=by unfold zeroT at g1;rw[jL]at g1;exact g1
      have Zj:i.bytes=dc:=by unfold oA at g2;rw[jL]at g2;exact agp g2
      subst iz;subst Zj;have hy:=dt z;rw[f3]at hy;have ey:a.eval z= .int kq (m:Nat):=hy.val;have dv:=run_append_nil_zeros (P:=P) w T U o.type e i zz kq kn eP (E9 f2) jL hz m (by omega) (by omega) (by have:=FM;simp [maxLen]at this;omega) (by omega);have iK:zz.cells.size=i.size:=by rw[←agD];exact mO
      have fz:(List.replicate m (zz.cells.toList.map fun u=>AV.d (.v u))).length=m:=agG;obtain⟨cap,im⟩:∃cap,cap=grownCap w m 0 e:=⟨_,rfl⟩;have jg:m≤cap:=by rw[im];exact grownCap_ge _ _ _ _
      have hle:cap≤maxLen:=by rw[im];exact grownCap_le_maxLen _ _ _ _ FM
      rw[←im]at dv;obtain⟨cur,jl⟩:∃cur,cur=Builtin.zeroCells zz.cells m++Builtin.zeroCells zz.cells (cap-m):=⟨_,rfl⟩;rw[←jl]at dv;have fm:cur.size=cap*i.size:=by
        rw[jl,Array.size_append,size_zeroCells,size_zeroCells,iK,←Nat.add_mul]
        congr 1
        omega
      obtain⟨G',q1,q2,q3,q4⟩:=Jw (e:=e) (k:=i.size) (cap:=cap) (cs:=List.replicate m (zz.cells.toList.map fun u=>AV.d (.v u))) (cur:=cur) hs.inv (by rw[fz];exact jg) hle fm (fun c hc=>by
       rw[List.eq_of_mem_replicate hc,aga];exact mO) w.drew ⟨rfl,rfl,rfl,rfl⟩ (fun a' b c x u hc hx hu=>by
       have:=List.eq_of_mem_replicate (agj hc);subst this;rw[agc]at hx;cases hq:zz.cells.toList[b]? with
       |none=>rw[hq]at hx;cases hx
       |some y=>
        rw[hq]at hx;cases hx
        have hbk:b<i.size:=by rw[←mO];exact(af5.1 hq).1
        have IT:a'<m:=by have:=(af5.1 hc).1;rwa [fz]at this
        have aN:a'*i.size+b<m*i.size:=ji IT hbk;rw[jl,Array.getElem?_append_left (by rw[size_zeroCells,iK];exact aN)]at hu;unfold Builtin.zeroCells at hu;rw[Array.getElem?_map,Array.getElem?_range,iK,if_pos aN]at hu;simp only[Option.map_some,Option.some.injEq]at hu;rw[(C7 (i:=a') hbk).2]at hu;have AE:zz.cells[b]?=some y:=by rw[←agt];exact hq
        rw[getElem!_pos zz.cells b (by rw[iK];exact hbk)]at hu;rw[ags (by rw[iK];exact hbk)]at AE;cases AE
        subst hu;exact .d (.v _))
      rw[fz]at q4;refine mC (by rw[ho];simp) hs cA (by rw[yS c hc e1 e2 ho,nil hb1,ey,dv];rfl) q1 q2 q3 (q4 m (agh _)) hK
     ·cases hx
    ·cases hx
   ·cases hx
  ·cases hx
 next=>cases hx
end
end Go.Proofs.YtphmhnabilhbgaaGreatDoor
namespace Go.Proofs.YtphmhnabilhbgaaGreatDoor
open Go.RowKit
section
variable {G:Gh} {w:agZ} {h:agU an}
end
def opR(P:agX)(lo:Nat)(op:Op)(ρ:Operand→AV)(h:agU an):agW (AV×agU an):=
 match op with
 | .range T m=>match ra P T,ρ m with
   |some _, .mp mb=>match h[mb]? with
    |some (.map [_])=>some (.ptr h.length 0,h++[.it false [.mp mb]])
    |_=>none
   |_,_=>none
 | .next it false=>match ρ it with
   | .ptr n 0=>match h[n]? with
     |some (.it sn [.mp mb])=>match h[mb]? with
      |some (.map [(s,d)])=>match sn with
       |true=>some (.bU [.d (.v (.bool false))],h)
       |false=>bif b8 lo n then some (.bU [.d (.v (.bool true)), .d (.v (.string s)), .d d],h.set n (.it true [.mp mb]))else none
      |_=>none
     |_=>none
   |_=>none
 | .entry it=>match ρ it with
   | .ptr n 0=>match h[n]? with
     |some (.it true [.mp mb])=>match h[mb]? with
      |some (.map [(s,d)])=>some (.bU [.d (.v (.string s)), .d d],h)
      |_=>none
     |_=>none
   |_=>none
 |_=>none
section
variable {P:agX} {r:agW Nat} {n N0:Nat} {G:Gh} {w:agZ} {a:Act} {s:St} {o:Oper} {K:St→Prop} {Q:Exit→Act→agZ→Prop}
end
def iw(ops:Array Oper)(o:Oper)(s:St)(yes no:Prop):Prop:=
 match o.guard with
 |none=>yes
 |some (j,want)=>match (ops[j]?).bind (·.dst)with
  |some d=>match bm s.t d with
   | .d (.v (.bool b))=>(b=want→yes)∧(b= !want→no)
   | .d (.v (.tuple _))=>no
   |_=>False
  |none=>False
structure bB(P:Program)(r:Option Nat)(N0:Nat)(c:Code)(Q:Exit→St→Prop)(s:St):Prop where
 run:∀(G:Gh)(w:World)(a:Act)(n:Nat),cT G w a s→N0≤G.N→c.wpIn (WF r) n P (fun e a' w'=>iE N0 G w (Q e) a' w') a w
def hO(K:St→Prop)(Q:Exit→St→Prop):Exit→St→Prop
 | .normal,s=>K s
 |e,s=>Q e s
def kg:Nat→agU AV→agU (Nat×AV)
 |_,[]=>[]
 |k,x::l=>(k,x)::kg (k+1) l
theorem I0:∀(l:agU AV)(k i:Nat),bm (kg k l) i=if k≤i then(l[i-k]?).getD .dead else .dead
 |[],k,i=>by simp [kg,bm]
 |x::l,k,i=>by
  rw[kg,kL,I0 l (k+1) i];by_cases h:i=k
  ·subst h;simp
  ·rw[if_neg h];by_cases h2:k≤i
   ·rw[if_pos (by omega),if_pos h2,show i-k=i-(k+1)+1 by omega,agH]
   ·rw[if_neg (by omega),if_neg h2]
def YS(P:agX)(k:Nat)(x:AV)(h:agU an)(C:Bool→agU an→Prop):Prop:=
 ∀(G:Gh)(w:agZ)(v:agY)(r:agW Nat)(n:Nat),bO G w h→aE G w v x→k<G.N∧∃(p:Nat)(as bd:Code)(fn:FuncId)(tm:Array agY)(D:Nat),
  w.heap[G.bg k]?=some (.loop {state:= .ready,pending:=none,fn:=fn,tmps:=tm,params:= #[p],assign:=as,body:=bd,defers:=D})∧
  RoundIn (WF r) n P (G.bg k) fn (tm.setIfInBounds p v) as bd w fun e w'=>∃(b:Bool)(G':Gh)(h':agU an),e= .returned (.bool b)∧bK G.N G w G' w'∧G.N≤G'.N∧bO G' w' h'∧C b h'
def ae4(C:Bool→agU an→Prop)(k:Nat):Exit→St→Prop
 | .normal,s2=>∃p as bd ju,s2.h[k]?=some (.lp .busy p as bd ju)∧C true (s2.h.set k (.lp .ready p as bd ju))
 | .ret,s2=>∃p as bd ju,s2.h[k]?=some (.lp .busy p as bd ju)∧C false (s2.h.set k (.lp (.done .ret) p as bd ju))
 | .exit i,s2=>∃p as bd ju,s2.h[k]?=some (.lp .busy p as bd ju)∧C false (s2.h.set k (.lp (.done (.exit i)) p as bd ju))
 |_,_=>False
def Fb(P:agX)(o:Oper)(K:St→Prop)(s:St):Prop:=
 match o.op with
 | .call c=>match c.callee with
   | .value f=>match ev s f,c.args.toList.map (ev s)with
     | .c7 k,[x]=>YS P k x s.h fun b h'=>K ((s.wh h').put o.dst (.d (.v (.bool b))))
     |_,_=>False
   |_=>False
 |_=>False
def abB(P:agX)(o:Oper)(K:St→Prop)(s:St):Prop:=∃x h',vK P o.op (ev s) s.h=some (x,h')∧K ((s.wh h').put o.dst x)
def lS(P:agX)(o:Oper)(K:St→Prop)(s:St):Prop:=F9 P o K s∨zJ P o K s∨nH P o K s∨Fb P o K s∨abB P o K s
def pQ(P:agX)(ops:Array Oper):agU Oper→(St→Prop)→St→Prop
 |[],K,s=>K s
 |o::rest,K,s=>iw ops o s (lS P o (pQ P ops rest K) s) (pQ P ops rest K (s.put o.dst (.d (.v undef))))
def nM(id:Nat)(Q:Exit→St→Prop):Exit→St→Prop
 | .exit oe,s=>bif oe==id then Q .normal s else Q (.exit oe) s
 |e,s=>Q e s
section
variable {P:agX} {r:agW Nat} {n N0:Nat} {G:Gh} {w:agZ} {a:Act} {s:St} {o:Oper} {Q:Exit→St→Prop}
theorem iE.mono{K K':St→Prop}(h:∀s,K s→K' s){a':Act}{w':agZ}(hn:iE N0 G w K a' w'):iE N0 G w K' a' w':=
 let ⟨G',s',h1,h2,h3,h4⟩:=hn;⟨G',s',h1,h2,h3,h _ h4⟩
theorem iE.trans{K:St→Prop}{G1:Gh}{w1:agZ}(hE:bK N0 G w G1 w1){a':Act}{w':agZ}(hn:iE N0 G1 w1 K a' w'):iE N0 G w K a' w':=
 let ⟨G',s',h1,h2,h3,h4⟩:=hn;⟨G',s',hE.trans h1,h2,h3,h4⟩
theorem bB.mono{c:Code}{Q':Exit→St→Prop}(h:bB P r N0 c Q s)(hq:∀e s,Q e s→Q' e s):bB P r N0 c Q' s:=
 ⟨fun G w a n hs hN=>wpIn_mono (h.run G w a n hs hN) fun e _ _ hn=>hn.mono (hq e)⟩
theorem HQ{ops:Array Oper}{yes no:Prop}(hs:cT G w a s)(h:iw ops o s yes no):if Region.wanted o (yielded ops a.tmps)then yes else no:=by
 unfold iw at h;split at h
 ·rename_i hg
  rw[if_pos (by simp [Region.wanted,hg])];exact h
 ·rename_i j want hg
  split at h
  ·rename_i d hd
   have hv:=hs.tmp d;split at h
   ·rename_i b hb
    rw[hb]at hv;have e:=hv.bool;have hy:yielded ops a.tmps j=some b:=by
      unfold yielded;rw[hd,af4];by_cases aN:d<a.tmps.size
      ·rw[ags aN];have:a.tmps.getD d undef=a.tmps[d]:=by simp [Array.getD,aN]
       rw[this]at e;rw[e]
      ·have:a.tmps.getD d undef=undef:=by simp [Array.getD,aN]
       rw[this]at e;cases e
    by_cases uH:b=want
    ·rw[if_pos (by simp [Region.wanted,hg,hy,uH])];exact h.1 uH
    ·rw[if_neg (by simp [Region.wanted,hg,hy,uH])];exact h.2 (by cases b<;>cases want<;>simp_all)
   ·rename_i vs hb
    rw[hb]at hv;have e:=hv.val;have hy:yielded ops a.tmps j=none:=by
      unfold yielded;rw[hd,af4];by_cases aN:d<a.tmps.size
      ·rw[ags aN];have:a.tmps.getD d undef=a.tmps[d]:=by simp [Array.getD,aN]
       rw[this]at e;rw[e]
      ·rw[Array.getElem?_eq_none (Nat.le_of_not_lt aN)]
    rw[if_neg (by simp [Region.wanted,hg,hy])];exact h
   ·exact h.elim
  ·exact h.elim
theorem YS.mono{k:Nat}{x:AV}{h:agU an}{C C':Bool→agU an→Prop}(hy:YS P k x h C)(hc:∀b h',C b h'→C' b h'):YS P k x h C':=fun G w v r n hi hv=>
 let ⟨h0,p,as,bd,fn,tm,D,h1,h2⟩:=hy G w v r n hi hv
 ⟨h0,p,as,bd,fn,tm,D,h1,h2.mono fun _ _ ⟨b,G',h',a1,a2,a3,a4,a5⟩=>⟨b,G',h',a1,a2,a3,a4,hc _ _ a5⟩⟩
theorem abE{k:Nat}{x:AV}{h:agU an}{C:Bool→agU an→Prop}
 (hA:∃p as bd cs,h[k]?=some (.lp .ready p as bd cs)∧p<cs.length∧∀(l:Nat),bB P (some l) h.length as (hO (fun s1=>∃p1 p9 ql vf,s1.h[k]?=some (.lp .ready p1 p9 ql vf)∧bB P (some l) h.length bd (ae4 C k) ⟨s1.n,s1.t,s1.h.set k (.lp .busy p1 p9 ql vf)⟩) (fun _ _=>False)) ⟨cs.length,(p,x)::kg 0 cs,h⟩):YS P k x h C:=by
 intro G w v r n hi Kt;obtain⟨p,as,bd,cs,hk,hp,hA⟩:=hA;have vZ:k<G.N:=hi.lt hk;obtain⟨hS,fn,tm,D,h3,h4,h5,af0⟩:=E1 hi hk;refine⟨vZ,p,as,bd,fn,tm,D,h3,?_⟩;refine roundIn_of_wpIn (F:=WF r) trivial ?_;have JP:cT G w {tmps:=tm.setIfInBounds p v,defers:=[]} ⟨cs.length,(p,x)::kg 0 cs,h⟩:=by
  refine⟨by simp [h4],fun i=> ?_,hi,oF.nil _ _⟩;show aE _ _ _ (bm ((p,x)::kg 0 cs) i);rw[kL];split
  ·next e=>
   subst e;have:(tm.setIfInBounds i v).getD i undef=v:=by simp [Array.getD,h4,hp]
   rw[this];exact Kt
  ·next e=>
   rw[I0];simp only[Nat.zero_le,if_true,Nat.sub_zero];cases jk:cs[i]? with
   |none=>exact .dead _
   |some y=>
    have aN:i<tm.size:=by rw[h4];exact(af5.1 jk).1
    have:(tm.setIfInBounds p v).getD i undef=tm[i]:=by
     simp [Array.getD,aN,Ne.symm e]
    rw[this];exact h5 i _ y (ags aN) jk
 have rf:=hA (G.bg k);rw[hi.len]at rf;refine wpIn_mono (rf.run G w _ n JP (agh _)) fun e1 a1 w1 tD=> ?_;obtain⟨G1,s1,jr,fE,eM,UJ⟩:=tD;cases e1 with
 |normal=>
  obtain⟨p1,p9,ql,vf,qz,hb1⟩:=UJ;have oW:G1.bg k=G.bg k:=jr.bg k vZ;obtain⟨_,Zb,YM,D1,g3,g4,g5,QX⟩:=E1 eM.inv qz;obtain⟨gE,gI⟩:=QX .busy;rw[oW]at g3 gE gI;refine⟨_,run_beginRound g3 rfl,?_⟩;have vW:cT G1 (w1.putObj (G.bg k) (.loop {state:= .busy,pending:=none,fn:=Zb,tmps:=YM,params:= #[p1],assign:=p9,body:=ql,defers:=D1})) a1 ⟨s1.n,s1.t,s1.h.set k (.lp .busy p1 p9 ql vf)⟩:=eM.move gE (agh _) gI;refine wpIn_mono (hb1.run G1 _ a1 n vW fE) fun e3 a3 w3 hn3=> ?_;obtain⟨G3,s3,Tl,UP,hs3,Eu⟩:=hn3;have fin:∀(jump:agW Code)(ls:LS)(b:Bool)(p:Nat)(as bd:Code)(ju:agU AV),s3.h[k]?=some (.lp .busy p as bd ju)→ls.pd=jump→ls.st=(if jump.isNone then .ready else .done)→jump.isNone=b→C b (s3.h.set k (.lp ls p as bd ju))→
   ∃v w',(Instr.endRound (G.bg k) jump).run P w3= .ok v w'∧∃(b:Bool)(G':Gh)(h':agU an),(Ending.returned v:Ending)= .returned (.bool b)∧bK G.N G w G' w'∧G.N≤G'.N∧bO G' w' h'∧C b h':=fun jump ls b p as bd ju hk3 q1 q2 q3 hK=>by
   have Ln:G3.bg k=G.bg k:=(Tl.bg k vZ).trans oW;obtain⟨_,fn3,tm3,D3,z3,z4,z5,XA⟩:=E1 hs3.inv hk3;obtain⟨zE,zI⟩:=XA ls;rw[Ln]at z3 zE zI;subst q1;have Cm:=run_endRound (P:=P) ls.pd z3;rw[←q2]at Cm;refine⟨_,_,Cm,b,G3,_,by rw[q3],?_,UP,zI,hK⟩;exact(jr.trans ((gE.less fE).trans Tl)).trans (zE.less UP)
  cases e3 with
  |normal=>obtain⟨p2,Cu,zG,ju,y1,y2⟩:=Eu;exact fin none .ready true p2 Cu zG ju y1 rfl rfl rfl y2
  |ret=>obtain⟨p2,Cu,zG,ju,y1,y2⟩:=Eu;exact fin (some .ret) (.done .ret) false p2 Cu zG ju y1 rfl rfl rfl y2
  |exit i=>obtain⟨p2,Cu,zG,ju,y1,y2⟩:=Eu;exact fin (some (.exit i)) (.done (.exit i)) false p2 Cu zG ju y1 rfl rfl rfl y2
  |_=>exact Eu.elim
 |_=>exact UJ.elim
theorem ab7{K:St→Prop}{Q:Exit→Act→agZ→Prop}(hs:cT G w a s)(hN:N0≤G.N)(h:Fb P o K s):o.wpIn (WF r) n P a w (iE N0 G w K) Q:=by
 unfold Fb at h;split at h
 ·next c ho=>
  split at h
  ·next f hc=>
   split at h
   ·next k x hf hx=>
    have hv:=hs.ev f;rw[hf]at hv;have ea:a.eval f= .func (.yield (G.bg k)) #[] #[]:=by
     generalize a.eval f=u at hv;cases hv;rfl
    obtain⟨p1,p2⟩:=AZ hs c.args;obtain⟨v,tZ⟩:∃v,c.args.map a.eval= #[v]:=by
     have:(c.args.map a.eval).size=1:=by rw[p1,hx];rfl
     exact⟨(c.args.map a.eval)[0],Array.ext (by simp [this]) fun i h1 h2=>by
      have:i=0:=by simp at h2;exact h2
      subst this;rfl⟩
    have Kt:aE G w v x:=p2 0 v x (by rw[tZ];rfl) (by rw[hx];rfl);obtain⟨vZ,p,as,bd,fn,tm,D,h3,hA⟩:=h G w v r (n-1) hs.inv Kt;have jw:∀c',o.op≠ .defer c':=fun c' e=>by rw[ho]at e;cases e
    have hy:=run_yield (P:=P) (args:= #[v]) h3 rfl;have dv:(o.semAt (WF r).round a.eval).run P w= .ok (.round (G.bg k) fn (tm.setIfInBounds p v) as bd) w:=by
     rw[Oper.semAt_eq _ _ _ jw];unfold execOp;simp only[ho,resolve,hc,ea];simp [Deferred.ofValue,invoke,tZ,hy]
    unfold Oper.wpIn;refine⟨fun g hg=>trivial,?_⟩;rw[dv,Oper.uponIn_round];refine⟨fun h=>(by simp [WF,Fence.wide]at h),hA.mono fun e w' hp=> ?_⟩;obtain⟨b,G',h',rfl,hE,EF,dw,hK⟩:=hp;exact⟨G',_,hE.less hN,ago hN EF,(hs.move hE EF dw).put (.d (.v _)) o.dst,hK⟩
   ·exact h.elim
  ·exact h.elim
 ·exact h.elim
theorem XW{K:St→Prop}{Q:Exit→Act→agZ→Prop}(hs:cT G w a s)(hN:N0≤G.N)(h:lS P o K s):o.wpIn (WF r) n P a w (iE N0 G w K) Q:=by
 rcases h with h|h|h|h|⟨x,h',h,hK⟩
 ·exact Mf hs hN (.inl h)
 ·exact Mf hs hN (.inr (.inl h))
 ·exact Mf hs hN (.inr (.inr h))
 ·exact ab7 hs hN h
 ·exact WV hs hN h hK
theorem H4{ops:Array Oper}{K:St→Prop}{Q':Exit→Act→agZ→Prop}(hQ:∀a' w',iE N0 G w K a' w'→Q' .normal a' w'):∀(l:agU Oper)(k:Nat),(∀j,l[j]?=ops[k+j]?)→∀(G1:Gh)(w1:agZ)(a:Act)(s:St),
 bK N0 G w G1 w1→N0≤G1.N→cT G1 w1 a s→pQ P ops l K s→wpOpsIn (WF r) n P ops Q' (List.range' k l.length) a w1
 |[],k,_,G1,w1,a,s,hE,hN,hs,h=>hQ _ _ ⟨G1,s,hE,hN,hs,h⟩
 |o::l,k,hl,G1,w1,a,s,hE,hN,hs,h=>by
  have h0:ops[k]?=some o:=by simpa using (hl 0).symm
  have nc:∀j,l[j]?=ops[k+1+j]?:=fun j=>by have:=hl (j+1);simpa [Nat.add_assoc,Nat.add_comm 1 j]using this
  have hg:=HQ hs h;simp only[af8,List.range'_succ,wpOpsIn,h0];split
  ·rename_i hw
   rw[if_pos hw]at hg;exact Oper.wpIn_mono (fun a' w' hn=>by
     obtain⟨G2,s2,e2,n2,LI,k2⟩:=hn;exact H4 hQ l (k+1) nc G2 w' a' s2 (hE.trans e2) n2 LI k2) (XW hs hN hg)
  ·rename_i hw
   rw[if_neg hw]at hg;exact⟨fun _ _=>trivial,H4 hQ l (k+1) nc G1 w1 _ _ hE hN (hs.put (.d (.v undef)) o.dst) hg⟩
theorem e7{id:Nat}{ops:Array Oper}(h:pQ P ops ops.toList (Q .normal) s):bB P r N0 (.region id ops false) Q s:=by
 constructor
 intro G w a n hs hN;refine wpIn_region ?_;rw[List.range_eq_range',←agD];exact H4 (G:=G) (w:=w) (K:=Q .normal) (fun _ _ h=>h) ops.toList 0 (by simp) G w a s (bK.refl _ _ _) hN hs h
theorem eo(h:Q .normal s):bB P r N0 .skip Q s:=⟨fun G _ _ _ hs hN=>wpIn_skip ⟨G,s,bK.refl _ _ _,hN,hs,h⟩⟩
theorem dD(h:Q .ret s):bB P r N0 .ret Q s:=⟨fun G _ _ _ hs hN=>wpIn_ret ⟨G,s,bK.refl _ _ _,hN,hs,h⟩⟩
theorem lL{id:Nat}(h:Q (.exit id) s):bB P r N0 (.exit id) Q s:=⟨fun G _ _ _ hs hN=>wpIn_exit ⟨G,s,bK.refl _ _ _,hN,hs,h⟩⟩
theorem aP{x y:Code}(h:bB P r N0 x (hO (fun s'=>bB P r N0 y Q s') Q) s):bB P r N0 (.seq x y) Q s:=by
 constructor
 intro G w a n hs hN;refine wpIn_seq (wpIn_mono (h.run G w a n hs hN) fun e a1 w1 hn=> ?_);obtain⟨G1,s1,hE,fE,eM,hq⟩:=hn;cases e with
 |normal=>exact wpIn_mono (hq.run G1 w1 a1 n eM fE) fun _ _ _ hn=>hn.trans hE
 |_=>exact⟨G1,s1,hE,fE,eM,hq⟩
theorem Ke{c:Operand}{x y:Code}{t:Bool}(hc:ev s c= .d (.v (.bool t)))(h1:t=true→bB P r N0 x Q s)(h2:t=false→bB P r N0 y Q s):bB P r N0 (.cond c x y) Q s:=by
 constructor
 intro G w a n hs hN;have hb:=hs.ev c;rw[hc]at hb;exact wpIn_cond_split hb.bool (fun e=>(h1 e).run G w a n hs hN) (fun e=>(h2 e).run G w a n hs hN)
theorem fi{id:Nat}{c:Code}(h:bB P r N0 c (nM id Q) s):bB P r N0 (.block id c) Q s:=by
 constructor
 intro G w a n hs hN;refine wpIn_block (wpIn_mono (h.run G w a n hs hN) fun e a1 w1 hn=> ?_);obtain⟨G1,s1,hE,fE,eM,hq⟩:=hn;cases e with
 |exit oe=>
  by_cases he:oe=id
  ·simp only[nM,he,BEq.rfl,cond_true]at hq;simp only[Exit.inBlock,if_pos he];exact⟨G1,s1,hE,fE,eM,hq⟩
  ·have Y4:(oe==id)=false:=by simpa using he
   simp only[nM,Y4,cond_false]at hq;simp only[Exit.inBlock,if_neg he];exact⟨G1,s1,hE,fE,eM,hq⟩
 |_=>exact⟨G1,s1,hE,fE,eM,hq⟩
theorem Mt{F:Fence}{c:Code}{Q:Exit→Act→agZ→Prop}{ι:Type}(I:ι→Act→agZ→Prop)(μ:ι→Nat)(i0:ι)(h₀:I i0 a w)
 (round:∀i a w,I i a w→c.wpIn F n P (Exit.then (fun a' w'=>∃i',I i' a' w'∧μ i'<μ i) Q) a w):(Code.loop c).wpIn F n P Q a w:=by
 intro b k cs x8 hb hr;have key:∀j i a w,μ i=j→I i a w→
  ∃e a' w',Q e a' w'∧ArrivesIn (Machine.fenced P F) P (lone (b.atR a (.code c:: .inLoop c::k)) cs w) b k cs e a' w':=by
  intro j
  induction j using Nat.strongRecOn with
  |_ j ih=>
   intro i a w hn hI;obtain⟨e,a₁,w₁,hq,qW⟩:=round i a w hI b (.inLoop c::k) cs x8 hb hr;cases e with
   |normal=>
    obtain⟨i',XU,aN⟩:=hq;obtain⟨e₂,a₂,w₂,hq₂,Wi⟩:=ih (μ i') (hn▸aN) i' a₁ w₁ rfl XU;exact⟨e₂,a₂,w₂,hq₂, .of_steps (StepsIn.trans qW (.one (fenced_calm hb hr rfl) stepR_inLoop)) Wi⟩
   |exit id=>exact⟨_,a₁,w₁,hq, .pass (x:= .inLoop c) rfl (fun _ _=> .inl (by simp)) qW⟩
   |goto l=>exact⟨_,a₁,w₁,hq, .pass (x:= .inLoop c) rfl (fun _ _=> .inl (by simp)) qW⟩
   |ret=>exact⟨_,a₁,w₁,hq, .pass (x:= .inLoop c) rfl (fun _ _=> .inl (by simp)) qW⟩
   |panic ch=>exact⟨_,a₁,w₁,hq, .pass (x:= .inLoop c) rfl (fun _ _=> .inl (by simp)) qW⟩
   |outgrown=>exact⟨_,a₁,w₁,hq, .pass (x:= .inLoop c) rfl (fun _ _=> .inl (by simp)) qW⟩
 obtain⟨e,a',w',hq,qW⟩:=key _ i0 a w rfl h₀;exact⟨e,a',w',hq, .of_steps (.one (fenced_calm hb hr rfl) stepR_loop) qW⟩
end
mutual
def AV.bz(m:Nat):AV→AV
 | .own n xs=>bif b8 m n then .d (.sl xs)else .own n xs
 | .agg cs=> .agg (AV.nm m cs)
 | .bU cs=> .bU (AV.nm m cs)
 | .fn f cs=> .fn f (AV.nm m cs)
 |x=>x
def AV.nm(m:Nat):agU AV→agU AV
 |[]=>[]
 |x::l=>x.bz m::AV.nm m l
end
mutual
def AV.aO(m:Nat):AV→Bool
 | .own n _| .ptr n _| .row n _ _ _ _| .mp n| .c7 n| .vec n _ _ _ _| .de n _ _ _ _=> !b8 m n
 | .agg cs=>AV.lP m cs
 | .bU cs=>AV.lP m cs
 | .fn _ cs=>AV.lP m cs
 |_=>true
def AV.lP(m:Nat):agU AV→Bool
 |[]=>true
 |x::l=>x.aO m&&AV.lP m l
end
theorem z8(m:Nat):∀l,AV.nm m l=l.map (AV.bz m)
 |[]=>by simp [AV.nm]
 |x::l=>by simp [AV.nm,z8 m l]
theorem lE(m:Nat):∀l,AV.lP m l=l.all (AV.aO m)
 |[]=>by simp [AV.lP]
 |x::l=>by simp [AV.lP,lE m l]
def an.bz(m:Nat):an→an
 | .cells cs=> .cells (cs.map (AV.bz m))
 | .lp ls p as bd cs=> .lp ls p as bd (cs.map (AV.bz m))
 | .it sn cs=> .it sn (cs.map (AV.bz m))
 | .vec e k cs=> .vec e k (cs.map (·.map (AV.bz m)))
 |B=>B
def an.aO(m:Nat):an→Bool
 | .cells cs=>cs.all (AV.aO m)
 | .lp _ _ _ _ cs=>cs.all (AV.aO m)
 | .it _ cs=>cs.all (AV.aO m)
 | .vec _ _ cs=>cs.all (·.all (AV.aO m))
 |_=>true
theorem aE.bz{G:Gh}{w:agZ}(m:Nat){u:agY}{x:AV}(h:aE G w u x):aE G w u (x.bz m):=by
 have e8:∀(vs:Array agY)(cs:agU AV),(∀(i:Nat)(u:agY)(c:AV),vs[i]?=some u→cs[i]?=some c→aE G w u (c.bz m))→∀(i:Nat)(u:agY)(c:AV),vs[i]?=some u→(AV.nm m cs)[i]?=some c→aE G w u c:=by
  intro vs cs ih i u c hu hc;rw[z8,agc]at hc;cases hx:cs[i]? with
  |none=>rw[hx]at hc;cases hc
  |some x=>rw[hx]at hc;cases hc;exact ih i u x hu hx
 induction h with
 |agg vs cs hl _ ih=>rw[AV.bz];exact .agg vs _ (by rw[z8,aga];exact hl) (e8 vs cs ih)
 |bU vs cs hl _ ih=>rw[AV.bz];exact .bU vs _ (by rw[z8,aga];exact hl) (e8 vs cs ih)
 |fn f vs cs hl _ ih=>rw[AV.bz];exact .fn f vs _ (by rw[z8,aga];exact hl) (e8 vs cs ih)
 |own n xs h hp hle hf=>
  rw[AV.bz,cond_eq_ite];split
  ·exact .d hp
  ·exact .own n xs h hp hle hf
 |d h=>simp only[AV.bz];exact .d h
 |ptr n off h=>simp only[AV.bz];exact .ptr n off h
 |aW xs i off b o u x hx hS hu=>simp only[AV.bz];exact .aW xs i off b o u x hx hS hu
 |full xs hp hf=>simp only[AV.bz];exact .full xs hp hf
 |row n off len cap k h hl hm=>simp only[AV.bz];exact .row n off len cap k h hl hm
 |mp n h=>simp only[AV.bz];exact .mp n h
 |c7 n h=>simp only[AV.bz];exact .c7 n h
 |vec n o len L k h hs hL hf=>simp only[AV.bz];exact .vec n o len L k h hs hL hf
 |de n i j L k h hs hL hf=>simp only[AV.bz];exact .de n i j L k h hs hL hf
 |hid h h1=>simp only[AV.bz];exact .hid h h1
 |dead u=>simp only[AV.bz];exact .dead u
def Gh.cut(G:Gh)(m:Nat):Gh:={G with N:=m}
theorem aE.cut{G:Gh}{w:agZ}{m:Nat}{u:agY}{x:AV}(h:aE G w u x)(hb:x.aO m=true):aE (G.cut m) w u x:=by
 induction h with
 |agg vs cs hl _ ih=>
  rw[AV.aO,lE,agw]at hb;exact .agg vs cs hl fun i u c hu hc=>ih i u c hu hc (hb c (agj hc))
 |bU vs cs hl _ ih=>
  rw[AV.aO,lE,agw]at hb;exact .bU vs cs hl fun i u c hu hc=>ih i u c hu hc (hb c (agj hc))
 |fn f vs cs hl _ ih=>
  rw[AV.aO,lE,agw]at hb;exact .fn f vs cs hl fun i u c hu hc=>ih i u c hu hc (hb c (agj hc))
 |own n xs h hp hle hf=>rw[AV.aO]at hb;exact .own n xs (show n<m by rw[Bool.not_eq_true',←Bool.not_eq_true,dA]at hb;omega) hp hle hf
 |ptr n off h=>rw[AV.aO]at hb;exact .ptr (G:=G.cut m) n off (show n<m by rw[Bool.not_eq_true',←Bool.not_eq_true,dA]at hb;omega)
 |row n off len cap k h hl hm=>rw[AV.aO]at hb;exact .row (G:=G.cut m) n off len cap k (show n<m by rw[Bool.not_eq_true',←Bool.not_eq_true,dA]at hb;omega) hl hm
 |mp n h=>rw[AV.aO]at hb;exact .mp (G:=G.cut m) n (show n<m by rw[Bool.not_eq_true',←Bool.not_eq_true,dA]at hb;omega)
 |c7 n h=>rw[AV.aO]at hb;exact .c7 (G:=G.cut m) n (show n<m by rw[Bool.not_eq_true',←Bool.not_eq_true,dA]at hb;omega)
 |vec n o len L k h hs hL hf=>rw[AV.aO]at hb;exact .vec (G:=G.cut m) n o len L k (show n<m by rw[Bool.not_eq_true',←Bool.not_eq_true,dA]at hb;omega) hs hL hf
 |de n i j L k h hs hL hf=>rw[AV.aO]at hb;exact .de (G:=G.cut m) n i j L k (show n<m by rw[Bool.not_eq_true',←Bool.not_eq_true,dA]at hb;omega) hs hL hf
 |hid h h1=>exact .hid (G:=G.cut m) h h1
 |d h=>exact .d h
 |aW xs i off b o u x hx hS hu=>exact .aW xs i off b o u x hx hS hu
 |full xs hp hf=>exact .full xs hp hf
 |dead u=>exact .dead u
def St.mask(s:St)(live:agU Nat)(m:Nat):St:={s with t:=live.map fun k=>(k,(bm s.t k).bz m),h:=(s.h.take m).map (an.bz m)}
def St.wX(s:St)(live:agU Nat)(m:Nat):Prop:=m≤s.h.length∧(live.all fun k=>((bm s.t k).bz m).aO m)=true∧(((s.h.take m).map (an.bz m)).all (an.aO m))=true
theorem mS(f:Nat→AV):∀(live:agU Nat)(i:Nat),bm (live.map fun k=>(k,f k)) i=if i∈live then f i else .dead
 |[],i=>by simp [bm]
 |k::l,i=>by
  simp only[agv,kL,mS f l i,agA];by_cases h:i=k
  ·subst h;simp
  ·simp [h]
theorem Jq{G:Gh}{w:agZ}{h:agU an}(hi:bO G w h){m:Nat}(hm:m≤h.length)(hb:(((h.take m).map (an.bz m)).all (an.aO m))=true):bO (G.cut m) w ((h.take m).map (an.bz m)):=by
 have eN:∀(n:Nat)(B:an),((h.take m).map (an.bz m))[n]?=some B→n<m∧∃B',h[n]?=some B'∧B=B'.bz m∧(B'.bz m).aO m=true:=fun n B hB=>by
  have tT:=agw.1 hb B (agj hB);rw[agc,List.getElem?_take]at hB;split at hB
  ·rename_i hn
   cases hx:h[n]? with
   |none=>rw[hx]at hB;cases hB
   |some B'=>rw[hx]at hB;cases hB;exact⟨hn,B',rfl,rfl,tT⟩
  ·cases hB
 have dL:∀n b,bR ((h.take m).map (an.bz m)) (G.cut m) n=some b→bR h G n=some b:=fun n b hb=>by
  obtain⟨B,hB,hb⟩:=j7 hb;obtain⟨_,B',h1,rfl,_⟩:=eN n B hB;rw[dC h1,←hb];cases B'<;>rfl
 refine⟨by simp [Gh.cut];omega,hi.z,hi.S,fun n B hB=> ?_,fun i j b h1 h2=>hi.inj i j b (dL i b h1) (dL j b h2),hi.gl⟩;obtain⟨hn,B',h1,rfl,tT⟩:=eN n B hB;have ee:=hi.dh n B' h1;cases B' with
 |gone=>trivial
 |front e k len=>exact ee
 |map kv=>exact ee
 |vec e k cs=>
  obtain⟨c1,c2,c3,c4⟩:=ee;refine⟨by rw[aga];exact c1,by rw[aga];exact c2,fun c hc=> ?_,?_⟩
  ·obtain⟨x,hx,rfl⟩:=List.mem_map.1 hc;rw[aga];exact c3 x hx
  ·rcases c4 with⟨d1,d2,A,d3⟩|⟨g,cap,cur,d1,d2,d3,d4,d5,d6,d7,d8,d9⟩
   ·exact .inl ⟨d1,by rw[d2];rfl,A,d3⟩
   ·refine .inr ⟨g,cap,cur,d1,by rw[aga];exact d2,d3,d4,by rw[aga];exact d5,d6,d7,d8,fun i j c x u hc hx hu=> ?_⟩;simp only[an.bz,an.aO,agw]at tT;rw[agc]at hc;cases hy:cs[i]? with
    |none=>rw[hy]at hc;cases hc
    |some y=>
     rw[hy]at hc;cases hc
     have hz:=hx;rw[agc]at hx;cases hw:y[j]? with
     |none=>rw[hw]at hx;cases hx
     |some z=>
      rw[hw]at hx;cases hx
      exact((d9 i j y z u hy hw hu).bz m).cut (tT _ (List.mem_map.2 ⟨y,agj hy,rfl⟩) _ (agj hz))
 |cells cs=>
  obtain⟨c1,c2,vs,T,c3,c4,c5⟩:=ee;refine⟨c1,c2,vs,T,c3,by rw[aga];exact c4,fun i u c hu hc=> ?_⟩;have hmem:=agj hc;rw[agc]at hc;cases hx:cs[i]? with
  |none=>rw[hx]at hc;cases hc
  |some x=>
   rw[hx]at hc;cases hc
   exact((c5 i u x hu hx).bz m).cut (agw.1 tT _ hmem)
 |lp ls p as bd cs=>
  obtain⟨c1,c2,fn,vs,T,c3,c4,c5⟩:=ee;refine⟨c1,c2,fn,vs,T,c3,by rw[aga];exact c4,fun i u c hu hc=> ?_⟩;have hmem:=agj hc;rw[agc]at hc;cases hx:cs[i]? with
  |none=>rw[hx]at hc;cases hc
  |some x=>
   rw[hx]at hc;cases hc
   exact((c5 i u x hu hx).bz m).cut (agw.1 tT _ hmem)
 |it sn cs=>
  obtain⟨c1,c2,fn,vs,T,c3,c4,c5⟩:=ee;refine⟨c1,c2,fn,vs,T,c3,by rw[aga];exact c4,fun i u c hu hc=> ?_⟩;have hmem:=agj hc;rw[agc]at hc;cases hx:cs[i]? with
  |none=>rw[hx]at hc;cases hc
  |some x=>
   rw[hx]at hc;cases hc
   exact((c5 i u x hu hx).bz m).cut (agw.1 tT _ hmem)
theorem nf(N:Nat)(G:Gh)(w:agZ)(m:Nat):bK N G w (G.cut m) w:=
 ⟨agh _,fun _ _ h=>h,fun _ _ _=>rfl,fun _ _=>rfl,fun _ _=> .inl ⟨rfl,rfl⟩,fM rfl,fun _ _=>rfl,rfl,rfl,rfl,fun _ _ h=> .inl h⟩
section
variable {P:agX} {r:agW Nat} {n N0:Nat} {G:Gh} {w:agZ} {a:Act} {s:St} {o:Oper} {Q:Exit→St→Prop}
theorem cT.mask(hs:cT G w a s){live:agU Nat}{m:Nat}(h:s.wX live m):cT (G.cut m) w a (s.mask live m):=by
 obtain⟨h1,h2,h3⟩:=h;refine⟨hs.size,fun i=> ?_,Jq hs.inv h1 h3,hs.df⟩;show aE _ _ _ (bm (live.map fun k=>(k,(bm s.t k).bz m)) i);rw[mS (fun k=>(bm s.t k).bz m)];split
 ·rename_i hi
  exact((hs.tmp i).bz m).cut (agw.1 h2 i hi)
 ·exact .dead _
theorem J5{c:Code}{ι:Type}(live:agU Nat)(m:Nat)(st:ι→St)(I:ι→Prop)(μ:ι→Nat)(i0:ι)(hm:N0≤m)(b7:s.wX live m)(h0:s.mask live m=st i0)(hI:I i0)
 (round:∀i,I i→bB P r N0 c (hO (fun s'=>s'.wX live m∧∃i',s'.mask live m=st i'∧I i'∧μ i'<μ i) Q) (st i)):bB P r N0 (.loop c) Q s:=by
 constructor
 intro G w a n hs _;refine Mt (fun(i:ι) a' w'=>∃G',I i∧bK N0 G w G' w'∧N0≤G'.N∧cT G' w' a' (st i)) μ i0 ⟨G.cut m,hI,nf _ _ _ _,hm,h0▸hs.mask b7⟩ ?_;rintro i a' w' ⟨G',hi,hE,hN,cy⟩;refine wpIn_mono ((round i hi).run G' w' a' n cy hN) fun e a1 w1 hn=> ?_;obtain⟨G1,s1,jr,fE,eM,hq⟩:=hn;cases e with
 |normal=>
  obtain⟨ZT,i',h1,h2,h3⟩:=hq;exact⟨i',⟨G1.cut m,h2,(hE.trans jr).trans (nf _ _ _ _),hm,h1▸eM.mask ZT⟩,h3⟩
 |_=>exact⟨G1,s1,hE.trans jr,fE,eM,hq⟩
def kY(P:agX)(s:St):agU ResultVar→(agU AV→Prop)→Prop
 |[],C=>C []
 | .tmp t::l,C=>kY P s l fun xs=>C (bm s.t t::xs)
 | .cell p t::l,C=>mg P t s.h (bm s.t p) fun x=>kY P s l fun xs=>C (x::xs)
def ja:agU AV→AV
 |[x]=>x
 |l=> .bU l
def n7(P:agX)(fn:Func)(m:Nat)(K:AV→agU an→Prop)(s:St):Prop:=
 kY P s fn.results.toList fun l=>m≤s.h.length∧((ja l).bz m).aO m=true∧(((s.h.take m).map (an.bz m)).all (an.aO m))=true∧K ((ja l).bz m) ((s.h.take m).map (an.bz m))
def Eh(P:agX)(fn:Func)(m:Nat)(K:AV→agU an→Prop):Exit→St→Prop
 | .normal,s=>n7 P fn m K s
 | .ret,s=>n7 P fn m K s
 |_,_=>False
theorem Yh{C:agU AV→Prop}(hs:cT G w a s)(g:ResultVar→Sem agY)(WT:∀t,g (.tmp t)=pure (a.tmps.getD t undef))(tG:∀p t,g (.cell p t)=(do loadVar t (←asAddr (a.tmps.getD p undef)))):
 ∀(l:agU ResultVar),kY P s l C→∃(vs:agU agY)(xs:agU AV),(l.mapM g).run P w= .ok vs w∧vs.length=xs.length∧(∀(i:Nat)(u:agY)(c:AV),vs[i]?=some u→xs[i]?=some c→aE G w u c)∧C xs:=by
 intro l
 induction l generalizing C with
 |nil=>exact fun h=>⟨[],[],by simp,rfl,fun i u c hu=>by simp at hu,h⟩
 |cons x l ih=>
  intro h;cases x with
  |tmp t=>
   obtain⟨vs,xs,h1,h2,h3,h4⟩:=ih h;refine⟨a.tmps.getD t undef::vs,bm s.t t::xs,by simp only[List.mapM_cons,WT,Sem.run_bind,Sem.run_pure,Result.andThen_ok,h1],by simp [h2],fun i u c hu hc=> ?_,h4⟩
   match i with
   |0=>simp only[List.getElem?_cons_zero,Option.some.injEq]at hu hc;subst hu;subst hc;exact hs.tmp t
   |i+1=>exact h3 i u c (by simpa using hu) (by simpa using hc)
  |cell p t=>
   obtain⟨u0,x0,r1,r2,r3⟩:=T5 (P:=P) hs.inv (hs.tmp p) h;obtain⟨vs,xs,h1,h2,h3,h4⟩:=ih r3;have hv:=hs.tmp p;have e:∃ad,a.tmps.getD p undef= .pointer (some ad):=by
    have h':mg P t s.h (bm s.t p) fun x=>kY P s l fun xs=>C (x::xs):=h;generalize a.tmps.getD p undef=v at hv r1;generalize bm s.t p=y at hv h';cases hv with
    |ptr=>exact⟨_,rfl⟩
    |aW=>exact⟨_,rfl⟩
    |_=>exact(show False from h').elim
   obtain⟨ad,e⟩:=e;rw[e]at r1;have Vl:(loadVar t ad).run P w= .ok u0 w:=by simpa [Instr.loadAt,Instr.sureAddr]using r1
   have ha:(asAddr (a.tmps.getD p undef)).run P w= .ok ad w:=by rw[e];rfl
   refine⟨u0::vs,x0::xs,by simp only[List.mapM_cons,tG,Sem.run_bind,Sem.run_pure,Result.andThen_ok,h1,ha,Vl],by simp [h2],fun i u c hu hc=> ?_,h4⟩
   match i with
   |0=>simp only[List.getElem?_cons_zero,Option.some.injEq]at hu hc;subst hu;subst hc;exact r2
   |i+1=>exact h3 i u c (by simpa using hu) (by simpa using hc)
theorem aeG:∀(vs:agU agY)(xs:agU AV),vs.length=xs.length→(∀(i:Nat)(u:agY)(c:AV),vs[i]?=some u→xs[i]?=some c→aE G w u c)→aE G w (if h:vs.toArray.size=1 then vs.toArray[0]else .tuple vs.toArray) (ja xs)
 |[v],[x],_,h=>h 0 v x rfl rfl
 |[],[],_,_=> .bU _ _ rfl fun i u c hu=>by simp at hu
 |v::u::vs,x::y::xs,hl,h=>by
  have:¬(v::u::vs).toArray.size=1:=by simp
  rw[dif_neg this];exact .bU _ _ (by simpa using hl) fun i p q hp hq=>h i p q (by simpa using hp) hq
 |[],_::_,hl,_=>by simp at hl
 |_::_,[],hl,_=>by simp at hl
 |[_],_::_::_,hl,_=>by simp at hl
 |_::_::_,[_],hl,_=>by simp at hl
theorem aak{fn:Func}{m:Nat}{K:AV→agU an→Prop}(hs:cT G w a s)(h:n7 P fn m K s):∃v G' r h',(results fn a.tmps).run P w= .ok v w∧bK N0 G w G' w∧m≤G'.N∧bO G' w h'∧aE G' w v r∧K r h':=by
 obtain⟨g,hg⟩:∃g:ResultVar→Sem agY,results fn a.tmps=(do let vs ←fn.results.mapM g;pure (if h:vs.size=1 then vs[0]else .tuple vs))∧(∀t,g (.tmp t)=pure (a.tmps.getD t undef))∧(∀p t,g (.cell p t)=(do loadVar t (←asAddr (a.tmps.getD p undef)))):=
  ⟨_,rfl,fun _=>rfl,fun _ _=>rfl⟩
 obtain⟨vs,xs,h1,h2,h3,h4,h5,h6,h7⟩:=Yh hs g hg.2.1 hg.2.2 fn.results.toList h;have hr:(results fn a.tmps).run P w= .ok (if h:vs.toArray.size=1 then vs.toArray[0]else .tuple vs.toArray) w:=by
  rw[hg.1,Sem.run_bind,Array.mapM_eq_mapM_toList];have e:∀X:Sem (agU agY),(Functor.map List.toArray X:Sem _)=X>>=fun l=>pure l.toArray:=fun _=>rfl;rw[e,Sem.run_bind,h1];rfl
 have hv:=aeG vs xs h2 h3;exact⟨_,G.cut m,_,_,hr,nf _ _ _ _,agh _,Jq hs.inv h4 h6,(hv.bz m).cut h5,h7⟩
theorem vO{f:FuncId}{fn:Func}{c:Code}{args:agU AV}{h:agU an}{K:AV→agU an→Prop}(m:Nat)(hf:P.funcs[f]?=some fn)(hb:fn.body=some c)(hn:(fn.name== "runtime.NumGoroutine")=false)(hm:h.length≤m)
 (hw:bB P none h.length c (Eh P fn m K) {n:=args.length+(fn.ntmps-args.length),t:=kg 0 args,h:=h}):bD P f args h K:=by
 refine⟨by unfold Cx;rw[hf];simp [hb];simpa using hn,fun G w vs hi hl hr=> ?_⟩;refine callsIn_wide (n:=8).1 (callsIn_of_wp_marks (F:=Fence.wide) hf hb trivial ?_);have hs:cT {G with M:=w.heap.size} w {tmps:=vs++Array.replicate (fn.ntmps-vs.size) undef,defers:=[]} {n:=args.length+(fn.ntmps-args.length),t:=kg 0 args,h:=h}:=by
  refine⟨by simp [hl],fun i=> ?_,hi.zm G.Z _ (fun _ h=>h) (agh _),oF.nil _ _⟩;show aE _ _ _ (bm (kg 0 args) i);rw[I0];simp only[Nat.zero_le,if_true,Nat.sub_zero];cases hx:args[i]? with
  |none=>exact .dead _
  |some x=>
   have aN:i<vs.size:=by rw[hl];exact(af5.1 hx).1
   have:(vs++Array.replicate (fn.ntmps-vs.size) undef).getD i undef=vs[i]:=by
    simp [Array.getElem?_append_left aN,ags aN]
   simp only[this,Option.getD_some];exact(hr i _ x (ags aN) hx).zm G.Z _
 refine wpIn_mono (hw.run _ w _ 8 hs (by rw[hi.len];exact agh _)) fun e a' w' hn=> ?_;obtain⟨G1,s1,hE,fE,eM,hq⟩:=hn;have key:n7 P fn m K s1→LeavesInM Fence.wide 8 P fn a'.tmps (fun e w'=>∃v G' r h',e= .returned v∧bK G.N G w G' w'∧G.N≤G'.N∧bO G' w' h'∧aE G' w' v r∧K r h') a'.defers .returning w':=fun hq=>by
  obtain⟨w2,G2,k1,k2,k3,k4⟩:=abH hE fE hi.z hi.gl.2 eM;obtain⟨v,G',r,h',r1,r2,r3,r4,r5,r6⟩:=aak (N0:=h.length) k4 hq;exact k1 _ _ _ _ _ ⟨v,r1,v,G',r,h',rfl,by rw[←hi.len];exact k2.trans r2,by rw[←hi.len];exact ago hm r3,r4,r5,r6⟩
 cases e with
 |normal=>exact key hq
 |ret=>exact key hq
 |_=>exact hq.elim
end
end Go.Proofs.YtphmhnabilhbgaaGreatDoor
namespace Go.Proofs.YtphmhnabilhbgaaGreatDoor
open Go.RowKit
section
variable {P:agX} {r:agW Nat} {N0:Nat} {s:St} {Q:Exit→St→Prop}
end
theorem bD.frame{P:agX}{f:FuncId}{args:agU AV}{K:AV→Prop}(hc:bD P f args [] fun r h=>h=[]∧K r)(ha:args.all (AV.aO 0)=true)(hK:∀r,K r→r.aO 0=true)(h:agU an):
 bD P f args h fun r h'=>h'=h∧K r:=by
 refine⟨hc.1,fun G w vs hi hl hr=> ?_⟩;have qb:bO {G with N:=0,Z:=fun b=>b<w.heap.size} w []:=⟨rfl,fun b hb=>hb,hi.S,fun n B hB=>by simp at hB,fun m n b h1=>by simp [bR]at h1,hi.gl⟩;refine(hc.2 {G with N:=0,Z:=fun b=>b<w.heap.size} w vs qb hl fun i u c hu hx=> ?_).mono fun e w' hp=> ?_
 ·have:=(hr i u c hu hx).cut (agw.1 ha c (agj hx));clear hc;generalize hG:({G with N:=0,Z:=fun b=>b<w.heap.size}:Gh)=G0;have e:∀{v y},aE (G.cut 0) w v y→aE G0 w v y:=by
   intro v y hv;subst hG
   induction hv with
   |agg vs cs hl _ ih=>exact .agg vs cs hl ih
   |bU vs cs hl _ ih=>exact .bU vs cs hl ih
   |fn f vs cs hl _ ih=>exact .fn f vs cs hl ih
   |own n xs h hp hle hf=>exact absurd h (agy _)
   |ptr n off h=>exact absurd h (agy _)
   |row n off len cap k h hl hm=>exact absurd h (agy _)
   |mp n h=>exact absurd h (agy _)
   |c7 n h=>exact absurd h (agy _)
   |vec n o len L k h=>exact absurd h (agy _)
   |de n i j L k h=>exact absurd h (agy _)
   |hid h h1=>exact .hid h h1
   |d h=>exact .d h
   |aW xs i off b o u x hx hS hu=>exact .aW xs i off b o u x hx hS hu
   |full xs hp hf=>exact .full xs hp hf
   |dead u=>exact .dead u
  exact e this
 ·obtain⟨v,G',r,h',rfl,hE,hN,dw,hv,rfl,hk⟩:=hp;have afI:G'.N=0:=dw.len.symm;have fu:∀b o,G'.S b o→G.S b o∨w.heap.size≤b:=fun b o hs=>(hE.new b o hs).imp id Nat.le_of_not_lt;have jB:bK G.N G w {G with S:=G'.S} w':=
   ⟨hE.size,hE.S,hE.cell,fun _ _=>rfl,fun _ _=> .inl ⟨rfl,rfl⟩,fM rfl,fun b hb=>hE.old b (hi.z b hb),hE.os,hE.tape,hE.output,fun b o hs=>(fu b o hs).imp id fun jg hz=>by have:=hi.z b hz;omega⟩
  refine⟨v,{G with S:=G'.S},r,h,rfl,jB,agh _,⟨hi.len,fun b hb=>agu (hi.z b hb) hE.size,dw.S,fun n B hB=> ?_,fun m n b h1 h2=>hi.inj m n b h1 h2,hi.gl.keep jB⟩,?_,rfl,hk⟩
  ·refine dY.keep (hi.lt hB) jB (agh _) ⟨rfl,rfl,rfl⟩ (fun b hb=> ?_) (hi.dh n B hB);have aN:=hi.iC (n:=n) (b:=b) ((dC hB).trans hb);refine⟨hE.old _ aN,fun o jK hs=> ?_⟩;rcases fu _ o hs with hs|hs
   ·exact jK hs
   ·omega
  ·have hr:=hK r hk;clear hk jB
   induction hv with
   |agg vs cs hl _ ih=>
    rw[AV.aO,lE,agw]at hr;exact .agg vs cs hl fun i u c hu hc=>ih i u c hu hc (hr c (agj hc))
   |bU vs cs hl _ ih=>
    rw[AV.aO,lE,agw]at hr;exact .bU vs cs hl fun i u c hu hc=>ih i u c hu hc (hr c (agj hc))
   |fn f vs cs hl _ ih=>
    rw[AV.aO,lE,agw]at hr;exact .fn f vs cs hl fun i u c hu hc=>ih i u c hu hc (hr c (agj hc))
   |own n xs h hp hle hf=>simp [AV.aO,b8]at hr
   |ptr n off h=>simp [AV.aO,b8]at hr
   |row n off len cap k h hl hm=>simp [AV.aO,b8]at hr
   |mp n h=>simp [AV.aO,b8]at hr
   |c7 n h=>simp [AV.aO,b8]at hr
   |vec n o len L k h=>simp [AV.aO,b8]at hr
   |de n i j L k h=>simp [AV.aO,b8]at hr
   |hid h h1=>exact .hid h h1
   |d h=>exact .d h
   |aW xs i off b o u x hx hS hu=>exact .aW xs i off b o u x hx hS hu
   |full xs hp hf=>exact .full xs hp hf
   |dead u=>exact .dead u
def bA(P:agX)(f:FuncId)(args:agU AV)(K:AV→Prop):Prop:=bD P f args [] fun r h=>h=[]∧K r
theorem bA.use{P:agX}{f:FuncId}{args:agU AV}{r:AV}{h:agU an}{C:AV→agU an→Prop}(hc:bA P f args (·=r))(ha:args.all (AV.aO 0)=true)(hr:r.aO 0=true)(hC:C r h):bD P f args h C:=
 (hc.frame ha (fun _ e=>e▸hr) h).mono fun _ _ ⟨e1,e2⟩=>by subst e1;subst e2;exact hC
def U9:agU FuncId:=[51,85,120,121,122]
def mZ:Operand→Bool
 | .func g=>U9.any (·==g)
 |_=>false
def cn(o:Oper):Nat:=
 match o.op with
 | .move _| .assign _| .pick .. | .nilCheck _| .fieldAddr .. | .field .. | .indexAddr .. | .index .. | .build .. | .buildSlice .. | .slice .. | .extract .. | .makeFunc .. | .binOp .. | .unOp .. | .convert .. =>0
 | .load .. | .lookup .. =>1
 | .alloc _| .box .. =>2
 | .store .. | .makeMap .. | .mapUpdate .. =>3
 | .call c=>match c.callee with
   | .builtin .len| .builtin .max| .builtin .min=>0
   | .builtin .append=>5
   | .value f=>bif mZ f then 6 else 4
   |_=>9
 |_=>9
def N3(P:agX)(g:FuncId)(args:agU AV)(h:agU an)(C:AV→Prop):Prop:=∃r,C r∧∀e,bD P g args (h++e) fun r' h'=>r'=r∧h'=h++e
def wV(P:agX)(o:Oper)(K:St→Prop)(s:St):Prop:=
 match o.op with
 | .call c=>match c.callee with
   | .value f=>match ev s f with
     | .fn g dy=>N3 P g (c.args.toList.map (ev s)++dy) s.h fun r=>K (s.put o.dst r)
     | .hid q=>∃g cs,q= .fn g cs∧N3 P g (c.args.toList.map (ev s)++cs.map gC.av) s.h fun r=>K (s.put o.dst r)
     |_=>False
   |_=>nH P o K s
 |_=>nH P o K s
def iW(o:Oper):Bool:=
 match o.op with
 | .indexAddr .. | .fieldAddr .. | .nilCheck .. | .load .. | .store .. =>true
 | .call c=>match c.callee with
   | .builtin .len=>true
   |_=>false
 |_=>false
def mw(m:Bool)(o:Oper):Bool:=m&&match o.op with
 | .call c=>match c.callee with
   | .value (.tmp _)=>true
   |_=>false
 |_=>false
def wT(m:Bool)(P:agX)(o:Oper)(K:St→Prop)(s:St):Prop:=
 wV P o K s∨(mw m o=true∧∃x h1,K ((s.wh h1).put o.dst x)∧∀C:AV→agU an→Prop,C x h1→cD P o (ev s) s.h C)∨(iW o=true∧F9 P o K s)∨(cn o=6∧∃x e0,K ((s.wh (s.h++e0)).put o.dst x)∧∀C:AV→agU an→Prop,C x (s.h++e0)→cD P o (ev s) s.h C)
def ir(P:agX)(o:Oper)(ρ:Operand→AV)(h:agU an)(C:AV→agU an→Prop):Prop:=
 cD P o ρ h C∨(iW o=true∧∃a x h' p,gW P o.op ρ h a=some (x,h',p)∧p∧C x h')
def sc(m:Bool)(P:agX)(ops:Array Oper):agU Oper→(St→Prop)→St→Prop
 |[],K,s=>K s
 |o::rest,K,s=>iw ops o s (wT m P o (sc m P ops rest K) s) (sc m P ops rest K (s.put o.dst (.d (.v undef))))
abbrev Uy(P:agX)(o:Oper)(K:St→Prop)(s:St):Prop:=wT false P o K s
abbrev Bf(P:agX)(ops:Array Oper)(l:agU Oper)(K:St→Prop)(s:St):Prop:=sc false P ops l K s
section
variable {P:agX} {o:Oper} {ρ ρ':Operand→AV} {h:agU an} {C:AV→agU an→Prop}
theorem I2(x:agW Operand)(hx:∀y∈x.toArray,ρ y=ρ' y)(d:Nat)(F:Nat→Prop):iT ρ x d F=iT ρ' x d F:=by
 cases x with
 |none=>rfl
 |some y=>simp only[iT,hx y (by simp)]
theorem ZR(hρ:∀x∈o.op.operands,ρ x=ρ' x):cD P o ρ h C=cD P o ρ' h C:=by
 obtain⟨dst,op,type,pos,after,guard⟩:=o;have AA:∀ps:Array (Nat×Operand),(∀x∈ps.map (·.2),ρ x=ρ' x)→(ps.toList.map fun p=>(p.1,ρ p.2))=(ps.toList.map fun p=>(p.1,ρ' p.2)):=fun ps hp=>
  agB fun p hm=>by rw[hp p.2 (Array.mem_map.2 ⟨p,Array.mem_toList_iff.1 hm,rfl⟩)]
 have e8:∀l:Array Operand,(∀x∈l,ρ x=ρ' x)→l.toList.map ρ=l.toList.map ρ':=fun l hl=>agB fun x hm=>hl x (Array.mem_toList_iff.1 hm);cases op with
 |build t ps=>simp only[cD,AA ps fun x hx=>hρ x (by simpa [Op.operands]using hx)]
 |buildSlice t n ps=>simp only[cD,AA ps fun x hx=>hρ x (by simpa [Op.operands]using hx)]
 |makeFunc fn first captured=>
  cases fn with
  |func f=>simp only[cD,e8 captured fun x hx=>hρ x (by simp [Op.operands,hx])]
  |_=>rfl
 |slice t x lo hi mx=>
  have e1:ρ x=ρ' x:=hρ x (by simp [Op.operands]);have e2:=fun d F=>I2 (ρ:=ρ) (ρ':=ρ') lo (fun y hy=>hρ y (by simp at hy;simp [Op.operands,hy])) d F;have e3:=fun d F=>I2 (ρ:=ρ) (ρ':=ρ') hi (fun y hy=>hρ y (by simp at hy;simp [Op.operands,hy])) d F;have e4:=fun d F=>I2 (ρ:=ρ) (ρ':=ρ') mx (fun y hy=>hρ y (by simp at hy;simp [Op.operands,hy])) d F;cases lo<;>cases hi<;>cases mx<;>simp only[cD,sr,e1,e2,e3,e4]
 |call c=>
  have ha:c.args.toList.map ρ=c.args.toList.map ρ':=e8 c.args fun x hx=>hρ x (by simp [Op.operands,Call.operands,hx]);have hm:∀x,x∈c.args.toList→ρ x=ρ' x:=fun x hx=>hρ x (by simp [Op.operands,Call.operands];right;exact Array.mem_toList_iff.1 hx);cases hc:c.callee with
  |value f=>
   have hf:ρ f=ρ' f:=hρ f (by simp [Op.operands,Call.operands,hc]);simp only[cD,hc,hf,ha]
  |invoke=>simp only[cD,hc]
  |builtin b=>
   cases b with
   |len=>
    simp only[cD,hc];split
    ·rename_i x _ heq _
     rw[hm x (by rw[heq];simp)]
    ·rfl
   |append=>
    simp only[cD,hc];split
    ·rename_i x y _ _ heq _
     rw[hm x (by rw[heq];simp),hm y (by rw[heq];simp)]
    ·rfl
   |max=>simp only[cD,hc,ha]
   |min=>simp only[cD,hc,ha]
   |_=>simp only[cD,hc]
 |makeMap t r=>cases r<;>rfl
 |lookup t a b ok=>simp only[cD,nq,hρ a (by simp [Op.operands]),hρ b (by simp [Op.operands])]
 |mapUpdate t a b c=>simp only[cD,nq,hρ a (by simp [Op.operands]),hρ b (by simp [Op.operands]),hρ c (by simp [Op.operands])]
 |pick c a b=>simp only[cD,hρ c (by simp [Op.operands]),hρ a (by simp [Op.operands]),hρ b (by simp [Op.operands])]
 |store t a b=>simp only[cD,hρ a (by simp [Op.operands]),hρ b (by simp [Op.operands])]
 |binOp op t a b u=>simp only[cD,hρ a (by simp [Op.operands]),hρ b (by simp [Op.operands])]
 |indexAddr t a b=>simp only[cD,hρ a (by simp [Op.operands]),hρ b (by simp [Op.operands])]
 |index t a b=>simp only[cD,hρ a (by simp [Op.operands]),hρ b (by simp [Op.operands])]
 |move a|assign a|box t a|load t a|nilCheck a|fieldAddr t a f|field t a f|extract a i|unOp op t a|convert t u a=>simp only[cD,hρ a (by simp [Op.operands])]
 |_=>rfl
theorem ZA(hv:iW o=true)(hρ:∀x∈o.op.operands,ρ x=ρ' x)(a:VA):gW P o.op ρ h a=gW P o.op ρ' h a:=by
 obtain⟨dst,op,type,pos,after,guard⟩:=o;cases op with
 |store t a b=>simp only[gW,hρ a (by simp [Op.operands]),hρ b (by simp [Op.operands])]
 |indexAddr t a b=>simp only[gW,hρ a (by simp [Op.operands]),hρ b (by simp [Op.operands])]
 |load t a|nilCheck a|fieldAddr t a f=>simp only[gW,hρ a (by simp [Op.operands])]
 |call c=>
  have hm:∀x,x∈c.args.toList→ρ x=ρ' x:=fun x hx=>hρ x (by simp [Op.operands,Call.operands];right;exact Array.mem_toList_iff.1 hx);cases hc:c.callee with
  |builtin b=>
   cases b with
   |len=>
    simp only[gW,hc];split
    ·rename_i x _ heq _
     rw[hm x (by rw[heq];simp)]
    ·rfl
   |_=>simp [iW,hc]at hv
  |_=>simp [iW,hc]at hv
 |_=>simp [iW]at hv
theorem JD(hρ:∀x∈o.op.operands,ρ x=ρ' x):ir P o ρ h C=ir P o ρ' h C:=by
 unfold ir;rw[ZR hρ];by_cases hv:iW o=true
 ·simp only[ZA hv hρ]
 ·simp only[hv,Bool.false_eq_true,false_and]
end
def ZY:an→Bool
 | .cells _| .map _| .vec .. =>true
 |_=>false
def lD:agW an→agW (Nat×Nat)
 |some (.vec _ k cs)=>some (k,cs.length)
 |_=>none
def hF(h h':agU an):Prop:=∀(m:Nat)(q:Nat×Nat),lD h[m]?=some q→lD h'[m]?=some q
def gJ(h h':agU an):Prop:=∀m:Nat,lD h[m]?=lD h'[m]?
theorem gJ.i{h h':agU an}(e:gJ h h'):hF h h':=fun m q hq=>by rw[←e m];exact hq
theorem gJ.j{h h':agU an}(e:gJ h h'):hF h' h:=fun m q hq=>by rw[e m];exact hq
theorem hF.refl(h:agU an):hF h h:=fun _ _ e=>e
theorem hF.trans{a b c:agU an}(x:hF a b)(y:hF b c):hF a c:=fun m q e=>y m q (x m q e)
theorem hF.app(h e:agU an):hF h (h++e):=fun m q hq=>by
 by_cases hl:m<h.length
 ·rw[agf hl];exact hq
 ·rw[agC (by omega)]at hq;cases hq
theorem gJ.app{h:agU an}{B:an}(hB:lD (some B)=none):gJ h (h++[B]):=fun m=>by
 by_cases hl:m<h.length
 ·rw[agf hl]
 ·rw[agm (by omega),agC (by omega:h.length≤m)];by_cases h0:m-h.length=0
  ·rw[h0];exact hB.symm
  ·rw[agC (by simp;omega)]
theorem gJ.set{h:agU an}{n:Nat}{B B':an}(hn:h[n]?=some B)(hB:lD (some B)=lD (some B')):gJ h (h.set n B'):=fun m=>by
 by_cases e:n=m
 ·subst e;rw[agz (af5.1 hn).1,hn];exact hB
 ·rw[agE e]
def gT(h h':agU an):Prop:=∀(n:Nat)(B:an),h[n]?=some B→ZY B=true→h'[n]?=some B
theorem gT.app(h e:agU an):gT h (h++e):=fun n cs hn _=>by
 rw[agf (af5.1 hn).1];exact hn
theorem gT.refl(h:agU an):gT h h:=fun _ _ hn _=>hn
theorem WB{P:agX}{ρ:Operand→AV}{h h1:agU an}{T:TypeId}{m i:Operand}{ok:Bool}{x:AV}{p:Sd}(hx:nq P (.lookup T m i ok) ρ h=some (x,h1,p)):h1=h∧∀h',gT h h'→nq P (.lookup T m i ok) ρ h'=some (x,h',p):=by
 simp only[nq]at hx ⊢;split at hx
 ·next k e hT=>
  split at hx
  ·next z hz=>
   split at hx
   ·next b s' hm hi=>
    split at hx
    ·next kv hn=>
     cases hc:gg P k&&z.oneCell' with
     |false=>rw[hc]at hx;cases hx
     |true=>
      rw[hc]at hx;cases hx
      refine⟨rfl,fun h' hh=> ?_⟩;rw[hh b _ hn rfl];simp only[cond_true]
    ·cases hx
   ·cases hx
  ·cases hx
 ·cases hx
theorem SJ{h:agU an}{n e k:Nat}{cs:agU (agU AV)}(hn:h[n]?=some (.vec e k cs)):lD h[n]?=some (k,cs.length):=by rw[hn];rfl
theorem UL{h:agU an}{n k l:Nat}(hq:lD h[n]?=some (k,l)):∃e cs,h[n]?=some (.vec e k cs)∧cs.length=l:=by
 unfold lD at hq;split at hq
 ·next e k' cs e1=>cases hq;exact⟨e,cs,e1,rfl⟩
 ·cases hq
theorem acn{P:agX}{o:Oper}{ρ:Operand→AV}{h h1:agU an}{a:VA}{x:AV}{p:Prop}(hv:iW o=true)(hk:cn o=0)(hx:gW P o.op ρ h a=some (x,h1,p))(hp:p):h1=h∧∀h',hF h h'→∃p',gW P o.op ρ h' a=some (x,h',p')∧p':=by
 obtain⟨dst,op,type,pos,after,guard⟩:=o;cases op with
 |indexAddr T y i=>
  simp only[gW]at hx ⊢;split at hx
  ·next n o len L k z e k' i' e1 e2 e3=>
   split at hx
   ·next e4 k2 cs hn=>
    obtain⟨hb,he⟩:=kK hx;cases he
    rw[af7,beq_iff_eq,beq_iff_eq]at hb;obtain⟨rfl,rfl⟩:=hb;refine⟨rfl,fun h' hh=> ?_⟩;obtain⟨e5,cs5,q1,q2⟩:=UL (hh n _ (SJ hn));simp only[q1,agP,Bool.and_self,cond_true];exact⟨_,rfl,by rw[q2];exact hp.1,hp.2⟩
   ·cases hx
  ·cases hx
 |fieldAddr T y f=>
  simp only[gW]at hx ⊢;split at hx
  ·next e1 e2=>cases hx;exact⟨rfl,fun h' _=>⟨_,rfl,trivial⟩⟩
  ·cases hx
 |nilCheck y=>
  simp only[gW]at hx ⊢;split at hx
  ·next e1=>cases hx;exact⟨rfl,fun h' _=>⟨_,rfl,trivial⟩⟩
  ·cases hx
 |call c=>
  cases hc:c.callee with
  |builtin b=>
   cases b with
   |len=>
    simp only[gW,hc]at hx ⊢;split at hx
    ·split at hx
     ·next n o len L k e1=>
      split at hx
      ·next e2 k2 cs hn=>
       obtain⟨hb,he⟩:=kK hx;cases he
       rw[af7,beq_iff_eq]at hb;obtain⟨hb1,rfl⟩:=hb;refine⟨rfl,fun h' hh=> ?_⟩;obtain⟨e5,cs5,q1,q2⟩:=UL (hh n _ (SJ hn));simp only[q1,hb1,agP,Bool.and_self,cond_true];exact⟨_,rfl,by rw[q2];exact hp⟩
      ·cases hx
     ·cases hx
    ·cases hx
   |_=>simp [iW,hc]at hv
  |_=>simp [iW,hc]at hv
 |load t y=>simp [cn]at hk
 |store t y z=>simp [cn]at hk
 |_=>simp [iW]at hv
theorem WN{P:agX}{o:Oper}{ρ:Operand→AV}{h h1:agU an}{a:VA}{x:AV}{p:Prop}(hv:iW o=true)(hk:cn o=1)(hx:gW P o.op ρ h a=some (x,h1,p))(hp:p):h1=h∧∀h',gT h h'→∃p',gW P o.op ρ h' a=some (x,h',p')∧p':=by
 obtain⟨dst,op,type,pos,after,guard⟩:=o;cases op with
 |load t y=>
  simp only[gW]at hx ⊢;split at hx
  ·next n i j L k c e1=>
   split at hx
   ·next e2 k' cs z hn hz=>
    obtain⟨hb,he⟩:=kK hx;cases he
    refine⟨rfl,fun h' hh=> ?_⟩;simp only[hh n _ hn rfl,hz,hb,cond_true];exact⟨_,rfl,hp⟩
   ·cases hx
  ·cases hx
 |indexAddr T y i=>simp [cn]at hk
 |fieldAddr T y f=>simp [cn]at hk
 |nilCheck y=>simp [cn]at hk
 |call c=>
  cases hc:c.callee with
  |builtin b=>cases b<;>simp [cn,hc]at hk
  |value f=>cases kA:mZ f<;>simp [cn,hc,kA]at hk
  |invoke=>simp [cn,hc]at hk
 |store t y z=>simp [cn]at hk
 |_=>simp [iW]at hv
theorem acf{P:agX}{o:Oper}{ρ:Operand→AV}{h h1:agU an}{a:VA}{x:AV}{p:Prop}(hv:iW o=true)(hk:cn o=3)(hx:gW P o.op ρ h a=some (x,h1,p))(hp:p):gJ h h1:=by
 obtain⟨dst,op,type,pos,after,guard⟩:=o;cases op with
 |store t y z=>
  simp only[gW]at hx;split at hx
  ·next n i j L k c bV e1=>
   split at hx
   ·next e k' cs q hn hz=>
    obtain⟨hb,he⟩:=kK hx;cases he
    simp only[af7,beq_iff_eq]at hb;refine gJ.set hn ?_;simp only[lD,List.length_set,hp.2.2,hb.1.1.1.1]
   ·cases hx
  ·cases hx
 |load t y=>simp [cn]at hk
 |indexAddr T y i=>simp [cn]at hk
 |fieldAddr T y f=>simp [cn]at hk
 |nilCheck y=>simp [cn]at hk
 |call c=>
  cases hc:c.callee with
  |builtin b=>cases b<;>simp [cn,hc]at hk
  |value f=>cases kA:mZ f<;>simp [cn,hc,kA]at hk
  |invoke=>simp [cn,hc]at hk
 |_=>simp [iW]at hv
def lB(m:Bool)(o:Oper):Nat:=bif mw m o then 7 else cn o
def et(m:Bool)(P:agX)(o:Oper)(ρ:Operand→AV)(h:agU an)(x:AV)(h1:agU an):Prop:=
 match lB m o with
 |0=>h1=h∧∀h',hF h h'→∀C:AV→agU an→Prop,C x h'→ir P o ρ h' C
 |1=>h1=h∧∀h',gT h h'→∀C:AV→agU an→Prop,C x h'→ir P o ρ h' C
 |2=>∃B,lD (some B)=none∧x= .ptr h.length 0∧h1=h++[B]∧∀h'(C:AV→agU an→Prop),C (.ptr h'.length 0) (h'++[B])→ir P o ρ h' C
 |3=>gJ h h1∧∀C:AV→agU an→Prop,C x h1→ir P o ρ h C
 |4=>h1=h∧∀e(C:AV→agU an→Prop),C x (h++e)→ir P o ρ (h++e) C
 |5=>(gT h h1∧gT h1 h∧gJ h h1)∧∀C:AV→agU an→Prop,C x h1→ir P o ρ h C
 |6=>∃e0,h1=h++e0∧∀C:AV→agU an→Prop,C x h1→ir P o ρ h C
 |7=>∀C:AV→agU an→Prop,C x h1→ir P o ρ h C
 |_=>False
section
variable {P:agX} {o:Oper} {ρ ρ':Operand→AV} {h:agU an} {C:AV→agU an→Prop}
theorem Wo{p:AV}{K:agU AV→Nat→Prop}(hp:px h p K):∃cs off,K cs off∧∀h',gT h h'→∀K':agU AV→Nat→Prop,K' cs off→px h' p K':=by
 unfold px at hp ⊢;split at hp
 ·rename_i n off
  split at hp
  ·rename_i cs fm
   refine⟨cs,off,hp,fun h' hh K' hk=> ?_⟩;rw[hh n _ fm rfl];exact hk
  ·exact hp.elim
 ·rename_i xs i off
  split at hp
  ·rename_i cs fm
   refine⟨_,off,hp,fun h' _ K' hk=> ?_⟩;exact hk
  ·exact hp.elim
 ·exact hp.elim
theorem WD{t:Nat}{p:AV}{K:AV→Prop}(hp:mg P t h p K):∃x,K x∧∀h',gT h h'→∀K':AV→Prop,K' x→mg P t h' p K':=by
 unfold mg at hp ⊢;obtain⟨cs,off,h1,h2⟩:=Wo hp;split at h1
 ·rw[bM]at h1;refine⟨_,h1.2,fun h' hh K' iX=>h2 h' hh _ ?_⟩;exact bM.2 ⟨h1.1,iX⟩
 ·split at h1
  ·rename_i c hc
   refine⟨c,h1,fun h' hh K' iX=>h2 h' hh _ ?_⟩;simp only[hc];exact iX
  ·exact h1.elim
 ·exact h1.elim
theorem sa{x:agW Operand}{d:Nat}{F:Nat→Prop}(hx:iT ρ x d F):∃m,F m∧∀F':Nat→Prop,F' m→iT ρ x d F':=by
 cases x with
 |none=>exact⟨d,hx,fun _ h=>h⟩
 |some y=>
  simp only[iT]at hx;split at hx
  ·rename_i z hz
   exact⟨_,hx.2,fun F' J=>by simp only[iT,hz];exact⟨hx.1,J⟩⟩
  ·exact hx.elim
theorem ae9(hk:cn o=0)(hc:cD P o ρ h C):∃x,C x h∧∀h'(C':AV→agU an→Prop),C' x h'→cD P o ρ h' C':=by
 have sG:∀(F:(AV→Prop)→Prop),(∀K,F K→∃x,K x∧∀K',K' x→F K')→F (fun x=>C x h)→(∀h' C',cD P o ρ h' C'=F (fun x=>C' x h'))→∃x,C x h∧∀h'(C':AV→agU an→Prop),C' x h'→cD P o ρ h' C':=fun F J h0 he=>by
  obtain⟨x,h1,h2⟩:=J _ h0;exact⟨x,h1,fun h' C' du=>by rw[he];exact h2 _ du⟩
 obtain⟨dst,op,type,pos,after,guard⟩:=o;cases op with
 |move a=>exact⟨ρ a,hc,fun _ _ h=>h⟩
 |assign a=>exact⟨ρ a,hc,fun _ _ h=>h⟩
 |pick c a b=>
  simp only[cD]at hc;split at hc
  ·rename_i t ht
   cases t with
   |true=>exact⟨ρ a,hc.1 rfl,fun h' C' du=>by simp only[cD,ht];exact⟨fun _=>du,fun e=>by cases e⟩⟩
   |false=>exact⟨ρ b,hc.2 rfl,fun h' C' du=>by simp only[cD,ht];exact⟨fun e=>(by cases e),fun _=>du⟩⟩
  ·exact hc.elim
 |nilCheck a=>
  simp only[cD]at hc;split at hc
  ·rename_i m off e;exact⟨_,hc,fun h' C' du=>by simp only[cD,e];exact du⟩
  ·rename_i xs i off e;exact⟨_,hc,fun h' C' du=>by simp only[cD,e];exact du⟩
  ·rename_i f cs e;exact⟨_,hc,fun h' C' du=>by simp only[cD,e];exact du⟩
  ·exact hc.elim
 |fieldAddr t a f=>
  simp only[cD]at hc;split at hc
  ·rename_i fo k g hf
   split at hc
   ·rename_i m off e;exact⟨_,hc,fun h' C' du=>by simp only[cD,hf,e];exact du⟩
   ·rename_i xs i off e;exact⟨_,hc,fun h' C' du=>by simp only[cD,hf,e];exact du⟩
   ·exact hc.elim
  ·exact hc.elim
 |field t a f=>
  refine sG (tt P t (ρ a) f) (fun K hK=> ?_) hc (fun _ _=>rfl);unfold tt at hK ⊢;split at hK
  ·rw[bM]at hK;exact⟨_,hK.2,fun K' dR=>bM.2 ⟨hK.1,dR⟩⟩
  ·split at hK
   ·rename_i c jk;exact⟨c,hK,fun K' dR=>dR⟩
   ·exact hK.elim
  ·exact hK.elim
 |indexAddr t a b=>
  refine sG (oI P t (ρ a) (ρ b)) (fun K hK=> ?_) hc (fun _ _=>rfl);unfold oI at hK ⊢;split at hK
  ·rename_i e k hT
   split at hK
   ·rename_i n off len cap k'
    split at hK
    ·rename_i z hz
     rw[bM]at hK;obtain⟨h1,h2,h3,h4⟩:=hK;exact⟨_,h4,fun K' dR=>bM.2 ⟨h1,h2,h3,dR⟩⟩
    ·exact hK.elim
   ·split at hK
    ·rename_i xs z kp hz
     obtain⟨h0,hK⟩:=hK;split at hK
     ·rename_i c jk
      exact⟨_,hK.2,fun K' dR=>⟨h0,hK.1,dR⟩⟩
     ·exact hK.elim
    ·exact hK.elim
  ·split at hK
   ·rename_i n e k b' off z hT hz
    obtain⟨h1,h2,h3⟩:=hK;exact⟨_,h3,fun K' dR=>⟨h1,h2,dR⟩⟩
   ·rename_i n e k xs i' off z hT hz
    rw[bM]at hK;obtain⟨h0,h1,h2,h3⟩:=hK;split at h3
    ·rename_i c jk
     split at h3
     ·rename_i d hd
      exact⟨_,h3,fun K' dR=>bM.2 ⟨h0,h1,h2,dR⟩⟩
     ·exact h3.elim
    ·exact h3.elim
   ·exact hK.elim
 |index t a b=>
  simp only[cD]at hc;split at hc
  ·rename_i bb z e1 e2
   rw[bM]at hc;obtain⟨h1,h2,h3⟩:=hc;split at h3
   ·rename_i c jk
    exact⟨_,h3,fun h' C' du=>by simp only[cD,e1,e2];exact bM.2 ⟨h1,h2,by simp only[jk];exact du⟩⟩
   ·exact h3.elim
  ·exact hc.elim
 |build t ps=>
  refine sG (uG P t (ps.toList.map fun p:Nat×Operand=>(p.1,ρ p.2))) (fun K hK=> ?_) hc (fun _ _=>rfl);unfold uG at hK ⊢;split at hK
  ·split at hK
   ·rename_i cs fm
    rw[bM]at hK;exact⟨_,hK.2,fun K' dR=>bM.2 ⟨hK.1,dR⟩⟩
   ·exact hK.elim
  ·exact hK.elim
 |buildSlice t n ps=>
  refine sG (uI P t n (ps.toList.map fun p:Nat×Operand=>(p.1,ρ p.2))) (fun K hK=> ?_) hc (fun _ _=>rfl);unfold uI at hK ⊢;split at hK
  ·split at hK
   ·split at hK
    ·rename_i cs fm
     split at hK
     ·rename_i ds rO
      rw[bM]at hK;exact⟨_,hK.2,fun K' dR=>bM.2 ⟨hK.1,dR⟩⟩
     ·exact hK.elim
    ·exact hK.elim
   ·exact hK.elim
  ·exact hK.elim
 |slice t a lo hi mx=>
  refine sG (sr P t ρ (ρ a) lo hi mx) (fun K hK=> ?_) hc (fun _ _=>rfl);unfold sr at hK ⊢;split at hK
  ·split at hK
   ·rw[bM]at hK;obtain⟨h0,hK⟩:=hK;obtain⟨m1,hK,j1⟩:=sa hK;obtain⟨h1,hK⟩:=hK;obtain⟨m2,hK,j2⟩:=sa hK;obtain⟨h2,hK⟩:=hK;exact⟨_,hK,fun K' dR=>bM.2 ⟨h0,j1 _ ⟨h1,j2 _ ⟨h2,dR⟩⟩⟩⟩
   ·split at hK
    ·rw[bM]at hK;obtain⟨h0,hK⟩:=hK;obtain⟨m1,hK,j1⟩:=sa hK;rw[bM]at hK;obtain⟨h1,hK⟩:=hK;obtain⟨m2,hK,j2⟩:=sa hK;rw[bM]at hK;obtain⟨h2,hK⟩:=hK;exact⟨_,hK,fun K' dR=>by rw[bM];exact⟨h0,j1 _ (by rw[bM];exact⟨h1,j2 _ (by rw[bM];exact⟨h2,dR⟩)⟩)⟩⟩
    ·exact hK.elim
   ·split at hK
    ·obtain⟨h0,hK⟩:=hK;obtain⟨m1,hK,j1⟩:=sa hK;obtain⟨h1,hK⟩:=hK;obtain⟨m2,hK,j2⟩:=sa hK;obtain⟨h2,hK⟩:=hK;exact⟨_,hK,fun K' dR=>⟨h0,j1 _ ⟨h1,j2 _ ⟨h2,dR⟩⟩⟩⟩
    ·exact hK.elim
  ·split at hK
   ·split at hK
    ·obtain⟨h0,hK⟩:=hK;obtain⟨m1,hK,j1⟩:=sa hK;obtain⟨h1,hK⟩:=hK;obtain⟨m2,hK,j2⟩:=sa hK;obtain⟨h2,hK⟩:=hK;exact⟨_,hK,fun K' dR=>⟨h0,j1 _ ⟨h1,j2 _ ⟨h2,dR⟩⟩⟩⟩
    ·exact hK.elim
   ·exact hK.elim
 |extract a i=>
  simp only[cD]at hc;split at hc
  ·rename_i cs e
   split at hc
   ·rename_i c jk;exact⟨c,hc,fun h' C' du=>by simp only[cD,e,jk];exact du⟩
   ·exact hc.elim
  ·exact hc.elim
 |makeFunc fn first dy=>
  cases fn with
  |func f=>
   simp only[cD]at hc;split at hc
   ·rename_i e;exact⟨_,hc,fun h' C' du=>by simp only[cD,e];exact du⟩
   ·exact hc.elim
  |_=>exact hc.elim
 |binOp op t a b u=>
  refine sG (uA P t op (ρ a) (ρ b)) (fun K hK=> ?_) hc (fun _ _=>rfl);unfold uA at hK ⊢;split at hK
  ·split at hK
   ·rw[bM]at hK;exact⟨_,hK.2.2,fun K' dR=>bM.2 ⟨hK.1,hK.2.1,dR⟩⟩
   ·split at hK
    ·exact⟨_,hK.2,fun K' dR=>⟨hK.1,dR⟩⟩
    ·split at hK
     ·rw[bM]at hK;exact⟨_,hK.2,fun K' dR=>bM.2 ⟨hK.1,dR⟩⟩
     ·exact hK.elim
  ·split at hK
   ·exact⟨_,hK,fun K' dR=>dR⟩
   ·split at hK
    ·exact⟨_,hK.2,fun K' dR=>⟨hK.1,dR⟩⟩
    ·exact hK.elim
  ·split at hK
   ·rw[bM]at hK;exact⟨_,hK.2,fun K' dR=>bM.2 ⟨hK.1,dR⟩⟩
   ·exact hK.elim
  ·split at hK
   ·split at hK
    ·exact⟨_,hK,fun K' dR=>dR⟩
    ·exact hK.elim
   ·exact hK.elim
  ·exact hK.elim
 |unOp op t a=>
  refine sG (uO op (ρ a)) (fun K hK=> ?_) hc (fun _ _=>rfl);unfold uO at hK ⊢;split at hK
  ·split at hK
   ·exact⟨_,hK,fun K' dR=>dR⟩
   ·exact hK.elim
  ·exact hK.elim
 |convert t u a=>
  refine sG (uo P t u (ρ a)) (fun K hK=> ?_) hc (fun _ _=>rfl);unfold uo at hK ⊢;split at hK
  ·split at hK
   ·exact⟨_,hK,fun K' dR=>dR⟩
   ·exact hK.elim
  ·rw[bM]at hK;exact⟨_,hK.2,fun K' dR=>bM.2 ⟨hK.1,dR⟩⟩
  ·split at hK
   ·rw[bM]at hK;obtain⟨h1,ns,h2,h3⟩:=hK;exact⟨_,h3,fun K' dR=>bM.2 ⟨h1,ns,h2,dR⟩⟩
   ·exact hK.elim
 |call c=>
  simp only[cn]at hk;cases eG:c.callee with
  |value f=>cases kA:mZ f<;>simp [eG,kA]at hk
  |invoke=>simp [eG]at hk
  |builtin b=>
   cases b with
   |len=>
    simp only[cD,eG]at hc;split at hc
    ·rename_i x T e1 e2
     have key:∀F:Nat→Prop,qm P T (ρ x) F→∃m,F m∧∀F':Nat→Prop,F' m→qm P T (ρ x) F':=fun F J=>by
      unfold qm at J ⊢;split at J
      ·rw[bM]at J;exact⟨_,J.2,fun F' jI=>bM.2 ⟨J.1,jI⟩⟩
      ·rw[bM]at J;exact⟨_,J.2,fun F' jI=>bM.2 ⟨J.1,jI⟩⟩
      ·split at J
       ·rw[bM]at J;exact⟨_,J.2,fun F' jI=>bM.2 ⟨J.1,jI⟩⟩
       ·exact J.elim
     obtain⟨m,h1,h2⟩:=key _ hc;exact⟨_,h1,fun h' C' du=>by simp only[cD,eG,e1,e2];exact h2 _ du⟩
    ·exact hc.elim
   |max=>
    simp only[cD,eG]at hc;split at hc
    ·rename_i e1
     exact⟨_,hc,fun h' C' du=>by simp only[cD,eG,e1];exact du⟩
    ·exact hc.elim
   |min=>
    simp only[cD,eG]at hc;split at hc
    ·rename_i e1
     exact⟨_,hc,fun h' C' du=>by simp only[cD,eG,e1];exact du⟩
    ·exact hc.elim
   |_=>simp [eG]at hk
 |_=>simp [cn]at hk
theorem abZ(hk:cn o=2)(hc:cD P o ρ h C):∃B,lD (some B)=none∧C (.ptr h.length 0) (h++[B])∧∀h'(C':AV→agU an→Prop),C' (.ptr h'.length 0) (h'++[B])→cD P o ρ h' C':=by
 obtain⟨dst,op,type,pos,after,guard⟩:=o;cases op with
 |alloc e=>
  simp only[cD]at hc;split at hc
  ·rename_i z hz;exact⟨_,rfl,hc,fun h' C' du=>by simp only[cD,hz];exact du⟩
  ·exact hc.elim
 |box e x=>
  simp only[cD]at hc;rw[bM]at hc;exact⟨_,rfl,hc.2,fun h' C' du=>by simp only[cD];rw[bM];exact⟨hc.1,du⟩⟩
 |call c=>
  simp only[cn]at hk;cases eG:c.callee with
  |value f=>cases kA:mZ f<;>simp [eG,kA]at hk
  |invoke=>simp [eG]at hk
  |builtin b=>cases b<;>simp [eG]at hk
 |_=>simp [cn]at hk
theorem ac9(hk:cn o=3)(hc:cD P o ρ h C):∃x h1,C x h1∧gJ h h1∧∀C':AV→agU an→Prop,C' x h1→cD P o ρ h C':=by
 obtain⟨dst,op,type,pos,after,guard⟩:=o;cases op with
 |store t a b=>
  simp only[cD]at hc;have key:∀F:agU an→Prop,ue P t h (ρ a) (ρ b) F→∃h1,F h1∧gJ h h1∧∀F':agU an→Prop,F' h1→ue P t h (ρ a) (ρ b) F':=fun F J=>by
   unfold ue at J ⊢;split at J
   ·split at J
    ·next hn=>
     split at J
     ·rw[bM]at J;exact⟨_,J.2,gJ.set hn rfl,fun F' jI=>bM.2 ⟨J.1,jI⟩⟩
     ·exact J.elim
    ·exact J.elim
   ·exact J.elim
  obtain⟨h1,k1,kv,k2⟩:=key _ hc;exact⟨_,h1,k1,kv,fun C' du=>by simp only[cD];exact k2 _ du⟩
 |makeMap t r=>
  simp only[cD]at hc;split at hc
  ·rename_i x h' p hx
   refine⟨x,h',hc.2,?_,fun C' du=>by simp only[cD,hx];exact⟨hc.1,du⟩⟩;unfold nq at hx;cases r with
   |none=>
    simp only at hx;split at hx
    ·cases hx;exact gJ.app rfl
    ·cases hx
   |some r=>cases hx
  ·exact hc.elim
 |mapUpdate t a b c=>
  simp only[cD]at hc;split at hc
  ·rename_i x h' p hx
   refine⟨x,h',hc.2,?_,fun C' du=>by simp only[cD,hx];exact⟨hc.1,du⟩⟩;unfold nq at hx;simp only at hx;split at hx
   ·split at hx
    ·split at hx
     ·next hn=>
      obtain⟨hb,he⟩:=kK hx;cases he
      exact gJ.set hn rfl
     ·cases hx
    ·cases hx
   ·cases hx
  ·exact hc.elim
 |call c=>
  simp only[cn]at hk;cases eG:c.callee with
  |value f=>cases kA:mZ f<;>simp [eG,kA]at hk
  |invoke=>simp [eG]at hk
  |builtin b=>cases b<;>simp [eG]at hk
 |_=>simp [cn]at hk
theorem QH{n:Nat}{e:TypeId}{k l e' k' l':Nat}(hn:h[n]?=some (.front e' k' l')):gT h (h.set n (.front e k l))∧gT (h.set n (.front e k l)) h:=by
 refine⟨fun m cs hm hc=> ?_,fun m cs hm hc=> ?_⟩
 ·have:n≠m:=fun e=>by subst e;rw[hn]at hm;cases hm;cases hc
  rw[agE this];exact hm
 ·by_cases e:n=m
  ·subst e;rw[agz (af5.1 hn).1]at hm;cases hm;cases hc
  ·rw[agE e]at hm;exact hm
theorem FF{e:TypeId}{k l:Nat}:gT h (h++[.front e k l])∧gT (h++[.front e k l]) h:=by
 refine⟨gT.app _ _,fun m cs hm hc=> ?_⟩;by_cases hl:m<h.length
 ·rw[agf hl]at hm;exact hm
 ·rw[agm (by omega)]at hm;by_cases h0:m-h.length=0
  ·rw[h0]at hm;cases hm;cases hc
  ·rw[agC (by simp;omega)]at hm;cases hm
theorem Yi(hk:cn o=5)(hc:cD P o ρ h C):∃x h1,C x h1∧(gT h h1∧gT h1 h∧gJ h h1)∧∀C':AV→agU an→Prop,C' x h1→cD P o ρ h C':=by
 obtain⟨dst,op,type,pos,after,guard⟩:=o;cases op with
 |call c=>
  simp only[cn]at hk;cases eG:c.callee with
  |value f=>cases kA:mZ f<;>simp [eG,kA]at hk
  |invoke=>simp [eG]at hk
  |builtin b=>
   cases b with
   |append=>
    simp only[cD,eG]at hc;split at hc
    ·rename_i x y T U e1 e2
     rw[bM]at hc;have Zl:∀(k:Nat)(y:AV)(F:agU (agU D)→Prop),rI h k y F→∃ys,F ys∧∀F':agU (agU D)→Prop,F' ys→rI h k y F':=fun k y F J=>by
       unfold rI at J ⊢;split at J
       ·split at J
        ·split at J
         ·rw[bM]at J;exact⟨_,J.2,fun F' jI=>bM.2 ⟨J.1,jI⟩⟩
         ·exact J.elim
        ·exact J.elim
       ·split at J
        ·exact⟨_,J.2,fun F' jI=>⟨J.1,jI⟩⟩
        ·exact J.elim
     have key:∀F:AV→agU an→Prop,sx P T h (ρ x) (ρ y) F→∃v h1,F v h1∧(gT h h1∧gT h1 h∧gJ h h1)∧∀F':AV→agU an→Prop,F' v h1→sx P T h (ρ x) (ρ y) F':=fun F J=>by
      unfold sx at J ⊢;split at J
      ·split at J
       ·rw[bM]at J;obtain⟨h0,J⟩:=J;obtain⟨ys,J,hs⟩:=Zl _ _ _ J;split at J
        ·split at J
         ·rename_i hn
          rw[bM]at J;obtain⟨g1,g2,g3,g4,g5,g6⟩:=J;exact⟨_,_,g6,⟨(QH hn).1,(QH hn).2,gJ.set hn rfl⟩,fun F' jI=>bM.2 ⟨h0,hs _ (bM.2 ⟨g1,g2,g3,g4,g5,jI⟩)⟩⟩
         ·exact J.elim
        ·obtain⟨g4,g5,g6⟩:=J;exact⟨_,_,g6,⟨FF.1,FF.2,gJ.app rfl⟩,fun F' jI=>bM.2 ⟨h0,hs _ ⟨g4,g5,jI⟩⟩⟩
        ·obtain⟨g3,g4,g5,g6⟩:=J;exact⟨_,_,g6,⟨FF.1,FF.2,gJ.app rfl⟩,fun F' jI=>bM.2 ⟨h0,hs _ ⟨g3,g4,g5,jI⟩⟩⟩
        ·exact J.elim
       ·exact J.elim
      ·exact J.elim
     obtain⟨v,h1,k1,c1,k2⟩:=key _ hc.2;exact⟨v,h1,k1,c1,fun C' du=>by simp only[cD,eG,e1,e2];rw[bM];exact⟨hc.1,k2 _ du⟩⟩
    ·exact hc.elim
   |_=>simp [eG]at hk
 |_=>simp [cn]at hk
theorem Sl{m:Bool}(gH:mw m o=false){s:St}{K:St→Prop}(hd:wV P o K s):∃x h1,et m P o (ev s) s.h x h1∧K ((s.wh h1).put o.dst x):=by
 have km:lB m o=cn o:=by unfold lB;rw[gH];rfl
 have plain:nH P o K s→cn o≠4→cn o≠6→∃x h1,et m P o (ev s) s.h x h1∧K ((s.wh h1).put o.dst x):=fun ha PR yG=>by
  unfold nH at ha;by_cases h0:cn o=0
  ·obtain⟨x,h1,h2⟩:=ae9 h0 ha;exact⟨x,s.h,by unfold et;rw[km,h0];exact⟨rfl,fun h' _ C' du=> .inl (h2 h' C' du)⟩,h1⟩
  ·by_cases h1:cn o=1
   ·obtain⟨dst,op,type,pos,after,guard⟩:=o;cases op with
    |load t a=>
     simp only[cD]at ha;obtain⟨x,k1,k2⟩:=WD ha;exact⟨x,s.h,by unfold et;rw[km,h1];exact⟨rfl,fun h' hh C' du=> .inl (by simp only[cD];exact k2 h' hh _ du)⟩,k1⟩
    |lookup t a b ok=>
     simp only[cD]at ha;split at ha
     ·rename_i x h' p hx
      obtain⟨rfl,k2⟩:=WB hx;exact⟨x,s.h,by unfold et;rw[km,h1];exact⟨rfl,fun h' hh C' du=> .inl (by simp only[cD,k2 h' hh];exact⟨ha.1,du⟩)⟩,ha.2⟩
     ·exact ha.elim
    |call c=>
     simp only[cn]at h1;cases eG:c.callee with
     |value f=>cases kA:mZ f<;>simp [eG,kA]at h1
     |invoke=>simp [eG]at h1
     |builtin b=>cases b<;>simp [eG]at h1
    |_=>simp [cn]at h1
   ·by_cases h2:cn o=2
    ·obtain⟨B,kB,k1,k2⟩:=abZ h2 ha;exact⟨_,_,by unfold et;rw[km,h2];exact⟨B,kB,rfl,rfl,fun h' C' du=> .inl (k2 h' C' du)⟩,k1⟩
    ·by_cases h3:cn o=3
     ·obtain⟨x,ov,k1,kv,k2⟩:=ac9 h3 ha;exact⟨x,ov,by unfold et;rw[km,h3];exact⟨kv,fun C' du=> .inl (k2 C' du)⟩,k1⟩
     ·by_cases h5:cn o=5
      ·obtain⟨x,ov,k1,c1,k2⟩:=Yi h5 ha;exact⟨x,ov,by unfold et;rw[km,h5];exact⟨c1,fun C' du=> .inl (k2 C' du)⟩,k1⟩
      exfalso;obtain⟨dst,op,type,pos,after,guard⟩:=o;cases op with
      |call c=>
       simp only[cn]at h0 h3 PR yG h5;simp only[cD]at ha;cases eG:c.callee with
       |value f=>cases kA:mZ f<;>simp [eG,kA]at PR yG
       |invoke=>simp only[eG]at ha
       |builtin b=>cases b<;>simp only[eG]at ha h0 h3 h5<;>first|exact ha|exact absurd rfl h0|exact absurd rfl h3|exact absurd rfl h5|exact h3 trivial|exact h0 trivial|exact h5 trivial
      |_=>first|exact absurd rfl h0|exact absurd rfl h1|exact absurd rfl h2|exact absurd rfl h3|exact ha
 unfold wV at hd;split at hd
 ·rename_i c gh
  split at hd
  ·rename_i f eG
   have fin:∀x:AV,(∀e,∀C':AV→agU an→Prop,C' x (s.h++e)→cD P o (ev s) (s.h++e) C')→et m P o (ev s) s.h x s.h:=fun x hx=>by
    have hk:cn o=4∨cn o=6:=by
     unfold cn;simp only[gh,eG];cases mZ f<;>simp
    unfold et;rw[km];rcases hk with hk|hk
    ·rw[hk];exact⟨rfl,fun e C' du=> .inl (hx e C' du)⟩
    ·rw[hk];refine⟨[],(agr _).symm,fun C' du=> .inl ?_⟩;have:=hx [] C' (by rw[agr];exact du)
     rwa [agr]at this
   split at hd
   ·rename_i g dy hg
    obtain⟨x,hK,je⟩:=hd;refine⟨x,s.h,fin x fun e C' du=> ?_,hK⟩;unfold cD;simp only[gh,eG,hg];exact(je e).mono fun r' h' ⟨e1,e2⟩=>by subst e1;subst e2;exact du
   ·rename_i q hg
    obtain⟨g,cs,rfl,x,hK,je⟩:=hd;refine⟨x,s.h,fin x fun e C' du=> ?_,hK⟩;unfold cD;simp only[gh,eG,hg];exact⟨g,cs,rfl,(je e).mono fun r' h' ⟨e1,e2⟩=>by subst e1;subst e2;exact du⟩
   ·exact hd.elim
  ·rename_i eG
   exact plain hd (by
    unfold cn;simp only[gh];cases hc:c.callee with
    |value f=>exact absurd hc (eG f)
    |invoke=>simp
    |builtin b=>cases b<;>simp) (by
    unfold cn;simp only[gh];cases hc:c.callee with
    |value f=>exact absurd hc (eG f)
    |invoke=>simp
    |builtin b=>cases b<;>simp)
 ·rename_i gh
  exact plain hd (by
   unfold cn;split<;>first|(rename_i c hc;exact(gh c hc).elim)|simp) (by
   unfold cn;split<;>first|(rename_i c hc;exact(gh c hc).elim)|simp)
theorem Uv{m:Bool}{h1:agU an}{x:AV}(h0:et m P o ρ h x h1):∀C:AV→agU an→Prop,C x h1→ir P o ρ h C:=fun C hC=>by
 unfold et at h0;split at h0
 ·obtain⟨e,h0⟩:=h0;subst e;exact h0 _ (hF.refl _) _ hC
 ·obtain⟨e,h0⟩:=h0;subst e;exact h0 _ (gT.refl _) _ hC
 ·obtain⟨B,_,rfl,rfl,h0⟩:=h0;exact h0 _ _ hC
 ·exact h0.2 _ hC
 ·obtain⟨e,h0⟩:=h0;subst e;have:=h0 [] C (by rw[agr];exact hC)
  rwa [agr]at this
 ·exact h0.2 _ hC
 ·obtain⟨e0,_,h0⟩:=h0;exact h0 _ hC
 ·exact h0 _ hC
 ·exact h0.elim
theorem Hm{m:Bool}{s:St}{K:St→Prop}(hd:wT m P o K s):∃x h1,et m P o (ev s) s.h x h1∧K ((s.wh h1).put o.dst x):=by
 cases gH:mw m o with
 |true=>
  have k7:lB m o=7:=by unfold lB;rw[gH];rfl
  rcases hd with hd|⟨_,x,h1,hK,hc⟩|⟨hv,_⟩|⟨_,x,e0,hK,hc⟩
  ·obtain⟨x,h1,h2,hK⟩:=Sl (m:=false) rfl hd;refine⟨x,h1,?_,hK⟩;have:=Uv h2;unfold et;rw[k7];exact this
  ·exact⟨x,h1,by unfold et;rw[k7];exact fun C hC=> .inl (hc C hC),hK⟩
  ·exfalso;unfold mw at gH;rw[af7]at gH;unfold iW at hv;have gH:=gH.2;split at gH
   ·next c e=>
    rw[e]at hv;split at gH
    ·next f e2=>simp only[e2]at hv;cases hv
    ·cases gH
   ·cases gH
  ·exact⟨x,_,by unfold et;rw[k7];exact fun C hC=> .inl (hc C hC),hK⟩
 |false=>
 have km:lB m o=cn o:=by unfold lB;rw[gH];rfl
 rcases hd with hd|⟨hb,_⟩|⟨hv,a,x,h',p,hx,hp,hK⟩|⟨hk,x,e0,hK,hc⟩
 ·exact Sl gH hd
 ·rw[gH]at hb;cases hb
 ·have hk:cn o=0∨cn o=1∨cn o=3:=by
   unfold iW at hv;unfold cn;split at hv
   all_goals first|(next e=>simp only[e];simp)|skip
   ·next c e=>
    split at hv
    ·next e2=>simp only[e,e2];simp
    ·cases hv
   ·cases hv
  rcases hk with hk|hk|hk
  ·obtain⟨rfl,h2⟩:=acn hv hk hx hp;refine⟨x,_,?_,hK⟩;unfold et;rw[km,hk];exact⟨rfl,fun h' hh C hC=> .inr ⟨hv,a,x,h',by obtain⟨p',q1,q2⟩:=h2 h' hh;exact⟨p',q1,q2,hC⟩⟩⟩
  ·obtain⟨rfl,h2⟩:=WN hv hk hx hp;refine⟨x,_,?_,hK⟩;unfold et;rw[km,hk];exact⟨rfl,fun h' hh C hC=> .inr ⟨hv,a,x,h',by obtain⟨p',q1,q2⟩:=h2 h' hh;exact⟨p',q1,q2,hC⟩⟩⟩
  ·refine⟨x,h',?_,hK⟩;unfold et;rw[km,hk];exact⟨acf hv hk hx hp,fun C hC=> .inr ⟨hv,a,x,h',p,hx,hp,hC⟩⟩
 ·refine⟨x,_,?_,hK⟩;unfold et;rw[km,hk];exact⟨e0,rfl,fun C hC=> .inl (hc C hC)⟩
end
structure ia(s s':St):Prop where
 n:s.n=s'.n
 h:s.h=s'.h
 t:∀i,bm s.t i=bm s'.t i
theorem ia.refl(s:St):ia s s:=⟨rfl,rfl,fun _=>rfl⟩
theorem ia.symm{s s':St}(h:ia s s'):ia s' s:=⟨h.n.symm,h.h.symm,fun i=>(h.t i).symm⟩
theorem ia.trans{a b c:St}(h:ia a b)(k:ia b c):ia a c:=⟨h.n.trans k.n,h.h.trans k.h,fun i=>(h.t i).trans (k.t i)⟩
theorem pI(s:St)(d:agW Nat)(x:AV)(i:Nat):bm (s.put d x).t i=if d=some i∧i<s.n then x else bm s.t i:=by
 cases d with
 |none=>simp [St.put]
 |some k=>
  by_cases hk:k<s.n
  ·rw[oC hk,kL];by_cases hi:i=k
   ·subst hi;simp [hk]
   ·rw[if_neg hi,if_neg (by simp;intro e;exact absurd e.symm hi)]
  ·rw[Ch hk];rw[if_neg (by rintro⟨e,aN⟩;cases e;exact hk aN)]
theorem nU(s:St)(d:agW Nat)(x:AV):(s.put d x).n=s.n:=by
 cases d with
 |none=>rfl
 |some k=>
  by_cases hk:k<s.n
  ·rw[oC hk]
  ·rw[Ch hk]
theorem BK(s:St)(d:agW Nat)(x:AV):(s.put d x).h=s.h:=by
 cases d with
 |none=>rfl
 |some k=>
  by_cases hk:k<s.n
  ·rw[oC hk]
  ·rw[Ch hk]
theorem ia.put{s s':St}(h:ia s s')(h1:agU an)(d:agW Nat)(x:AV):ia ((s.wh h1).put d x) ((s'.wh h1).put d x):=
 ⟨by rw[nU,nU];exact h.n,by rw[BK,BK];rfl,fun i=>by
  rw[pI,pI];show(if d=some i∧i<s.n then x else bm s.t i)=(if d=some i∧i<s'.n then x else bm s'.t i);rw[h.n,h.t]⟩
theorem aea(s:St)(h1 ov h2:agU an){d d':agW Nat}(x x':AV)(cO:∀k,d=some k→d'≠some k):ia ((((s.wh h1).put d x).wh h2).put d' x') ((((s.wh ov).put d' x').wh h2).put d x):=by
 refine⟨by simp only[nU];show((s.wh h1).put d x).n=((s.wh ov).put d' x').n;simp only[nU];rfl,by simp only[BK];rfl,fun i=> ?_⟩;rw[pI,pI];show(if d'=some i∧i<((s.wh h1).put d x).n then x' else bm ((s.wh h1).put d x).t i)=(if d=some i∧i<((s.wh ov).put d' x').n then x else bm ((s.wh ov).put d' x').t i);rw[nU,nU,pI,pI];show(if d'=some i∧i<s.n then x' else(if d=some i∧i<s.n then x else bm s.t i))=(if d=some i∧i<s.n then x else(if d'=some i∧i<s.n then x' else bm s.t i));by_cases a:d=some i
 ·have:=cO i a;simp [a,this]
 ·simp [a]
section
variable {P:agX} {ops:Array Oper}
def lQ(m:Bool)(P:agX)(ops:Array Oper)(o:Oper)(s:St)(x:AV)(h1:agU an):Prop:=
 (iw ops o s True False∧et m P o (ev s) s.h x h1)∨(iw ops o s False True∧x= .d (.v undef)∧h1=s.h)
theorem Mj{o:Oper}{s:St}{yes no:Prop}(h:iw ops o s yes no):(iw ops o s True False∧yes)∨(iw ops o s False True∧no):=by
 unfold iw at h ⊢;split at h
 ·exact .inl ⟨trivial,h⟩
 ·rename_i j want hg
  split at h
  ·rename_i d hd
   split at h
   ·rename_i b hb
    by_cases uH:b=want
    ·exact .inl ⟨⟨fun _=>trivial,fun e=>by subst uH;cases b<;>cases e⟩,h.1 uH⟩
    ·have Yj:b= !want:=by cases b<;>cases want<;>simp_all
     exact .inr ⟨⟨fun e=>(uH e).elim,fun _=>trivial⟩,h.2 Yj⟩
   ·exact .inr ⟨trivial,h⟩
   ·exact h.elim
  ·exact h.elim
theorem yw{o:Oper}{s s':St}{yes no:Prop}(ht:∀d,d∈o.looksAt ops→bm s'.t d=bm s.t d)(h:iw ops o s yes no):iw ops o s' yes no:=by
 unfold iw at h ⊢;split at h
 ·exact h
 ·rename_i j want hg
  split at h
  ·rename_i d hd
   have:bm s'.t d=bm s.t d:=ht d (by unfold Oper.looksAt;rw[hg];simp [hd]);rw[this];exact h
  ·exact h.elim
theorem H9{m:Bool}{o:Oper}{s s':St}{x:AV}{h1:agU an}(ht:∀d,d∈o.looksAt ops→bm s'.t d=bm s.t d)(hh:s'.h=s.h)(h:lQ m P ops o s x h1):lQ m P ops o s' x h1:=by
 have dt:∀y∈o.op.operands,ev s y=ev s' y:=fun y hy=>by
  cases y with
  |tmp t=>exact(ht t (by unfold Oper.looksAt;refine agI.2 (.inl (List.mem_filterMap.2 ⟨.tmp t,Array.mem_toList_iff.2 hy,rfl⟩)))).symm
  |_=>rfl
 rcases h with⟨g,hc⟩|⟨g,e1,e2⟩
 ·refine .inl ⟨yw ht g,?_⟩;rw[hh];have rQ:∀h C,ir P o (ev s) h C=ir P o (ev s') h C:=fun h C=>JD dt;unfold et at hc ⊢;split at hc
  ·exact⟨hc.1,fun h' hh C hC=>rQ h' C▸hc.2 h' hh C hC⟩
  ·exact⟨hc.1,fun h' hh C hC=>rQ _ C▸hc.2 h' hh C hC⟩
  ·obtain⟨B,kB,a,b,c⟩:=hc;exact⟨B,kB,a,b,fun h' C hC=>rQ h' C▸c h' C hC⟩
  ·exact⟨hc.1,fun C hC=>rQ _ C▸hc.2 C hC⟩
  ·exact⟨hc.1,fun e C hC=>rQ _ C▸hc.2 e C hC⟩
  ·exact⟨hc.1,fun C hC=>rQ _ C▸hc.2 C hC⟩
  ·obtain⟨e0,a,b⟩:=hc;exact⟨e0,a,fun C hC=>rQ _ C▸b C hC⟩
  ·exact fun C hC=>rQ _ C▸hc C hC
  ·exact hc.elim
 ·exact .inr ⟨yw ht g,e1,e2.trans hh.symm⟩
theorem Rb{o:Oper}(h:cn o=7):False:=by
 unfold cn at h
 repeat' (first|(split at h)|cases h)
 all_goals (cases hg:mZ _<;>rw[hg]at h<;>cases h)
theorem VY{m:Bool}{o:Oper}{ρ:Operand→AV}{h h1:agU an}{x:AV}(h7:mw m o=false)(h0:et m P o ρ h x h1):hF h h1:=by
 unfold et at h0;unfold lB at h0;rw[h7]at h0;simp only[cond_false]at h0;split at h0
 ·rw[h0.1];exact hF.refl _
 ·rw[h0.1];exact hF.refl _
 ·obtain⟨B,kB,_,e,_⟩:=h0;rw[e];exact(gJ.app kB).i
 ·exact h0.1.i
 ·rw[h0.1];exact hF.refl _
 ·exact h0.1.2.2.i
 ·obtain⟨e0,e,_⟩:=h0;rw[e];exact hF.app _ _
 ·next e=>exact(Rb e).elim
 ·exact h0.elim
theorem acm{m:Bool}{o:Oper}{ρ:Operand→AV}{h h1:agU an}{x:AV}(h7:mw m o=false)(hk:cn o≠6)(h0:et m P o ρ h x h1):hF h1 h:=by
 unfold et at h0;unfold lB at h0;rw[h7]at h0;simp only[cond_false]at h0;split at h0
 ·rw[h0.1];exact hF.refl _
 ·rw[h0.1];exact hF.refl _
 ·obtain⟨B,kB,_,e,_⟩:=h0;rw[e];exact(gJ.app kB).j
 ·exact h0.1.j
 ·rw[h0.1];exact hF.refl _
 ·exact h0.1.2.2.j
 ·next e=>exact(hk e).elim
 ·next e=>exact(Rb e).elim
 ·exact h0.elim
def wU(m:Bool)(a b:Oper):Bool:= !mw m a&& !mw m b&&(cn a==0||(cn b==0&& !(cn a==6))||((cn a==1||cn a==4)&&(cn b==1||cn b==4||cn b==2||cn b==6))||(cn a==1&&cn b==5)||(cn a==5&&cn b==1))
theorem afA{m:Bool}{oi oj:Oper}{s:St}{xi xj:AV}{hi hj:agU an}(xG:oi.apart ops oj=true)(kr:wU m oi oj=true)(h1:lQ m P ops oi s xi hi)(h2:lQ m P ops oj ((s.wh hi).put oi.dst xi) xj hj):
 ∃iy,lQ m P ops oj s xj iy∧lQ m P ops oi ((s.wh iy).put oj.dst xj) xi hj:=by
 obtain⟨a1,a2,a3⟩:=Oper.apart_spec xG;unfold wU at kr;rw[af7,af7,Bool.not_eq_true',Bool.not_eq_true']at kr;obtain⟨⟨li,lj⟩,kr⟩:=kr;have mH:lB m oi=cn oi:=by unfold lB;rw[li];rfl
 have qu:lB m oj=cn oj:=by unfold lB;rw[lj];rfl
 have tj:∀d,d∈oj.looksAt ops→bm s.t d=bm ((s.wh hi).put oi.dst xi).t d:=fun d hd=>by
  rw[pI,if_neg (fun e=>a1 d e.1 hd)];rfl
 have ti:∀(h':agU an) d,d∈oi.looksAt ops→bm ((s.wh h').put oj.dst xj).t d=bm s.t d:=fun h' d hd=>by
  rw[pI,if_neg (fun e=>a3 d e.1 hd)];rfl
 have eM:((s.wh hi).put oi.dst xi).h=hi:=by rw[BK];rfl
 have pP:∀h',((s.wh h').put oj.dst xj).h=h':=fun h'=>by rw[BK];rfl
 have same:hi=s.h→lQ m P ops oj s xj hj:=fun e=>H9 tj (by rw[eM,e]) h2;have YN:∀h',∀y∈oi.op.operands,ev ((s.wh h').put oj.dst xj) y=ev s y:=fun h' y hy=>by
  cases y with
  |tmp t=>exact ti h' t (by unfold Oper.looksAt;refine agI.2 (.inl (List.mem_filterMap.2 ⟨.tmp t,Array.mem_toList_iff.2 hy,rfl⟩)))
  |_=>rfl
 have evj:∀y∈oj.op.operands,ev ((s.wh hi).put oi.dst xi) y=ev s y:=fun y hy=>by
  cases y with
  |tmp t=>exact(tj t (by unfold Oper.looksAt;refine agI.2 (.inl (List.mem_filterMap.2 ⟨.tmp t,Array.mem_toList_iff.2 hy,rfl⟩)))).symm
  |_=>rfl
 have ci:∀h' h C,ir P oi (ev ((s.wh h').put oj.dst xj)) h C=ir P oi (ev s) h C:=fun h' h C=>JD (YN h');have cj:∀h C,ir P oj (ev ((s.wh hi).put oi.dst xi)) h C=ir P oj (ev s) h C:=fun h C=>JD evj;rcases h1 with⟨g1,o1⟩|⟨g1,e1,e2⟩
 ·rcases h2 with⟨g2,o2⟩|⟨g2,f1,f2⟩
  ·
   have Be:∀h',iw ops oi ((s.wh h').put oj.dst xj) True False:=fun h'=>yw (ti h') g1;have TB:iw ops oj s True False:=yw tj g2;by_cases k0:cn oi=0
   ·unfold et at o1;rw[mH,k0]at o1;simp only at o1;obtain⟨e,o1⟩:=o1;refine⟨hj,same e, .inl ⟨Be hj,?_⟩⟩;unfold et;rw[mH,k0];have hv:hF s.h hj:=by
     have:=VY lj o2;rw[eM,e]at this;exact this
    exact⟨(pP hj).symm,fun h' hh C hC=>by rw[pP]at hh;rw[ci];exact o1 h' (hv.trans hh) C hC⟩
   ·by_cases k1:cn oj=0
    ·unfold et at o2;rw[qu,k1]at o2;simp only at o2;obtain⟨e,o2⟩:=o2;rw[eM]at e o2;have k6:cn oi≠6:=fun k6=>by
      simp [k6,k1]at kr
     have hv:=acm li k6 o1;refine⟨s.h, .inl ⟨TB,?_⟩, .inl ⟨Be s.h,?_⟩⟩
     ·unfold et;rw[qu,k1];exact⟨rfl,fun h' hh C hC=>by rw[←cj];exact o2 h' (hv.trans hh) C hC⟩
     ·rw[e];unfold et at o1 ⊢;rw[pP];simp only[ci];exact o1
    ·by_cases RP:cn oi=1∧cn oj=5
     ·obtain⟨ka,kb⟩:=RP;unfold et at o1 o2;rw[mH,ka]at o1;rw[qu,kb]at o2;simp only at o1 o2;obtain⟨e,o1⟩:=o1;obtain⟨⟨c1,c2,_⟩,o2⟩:=o2;rw[eM,e]at c1 c2;refine⟨hj,same e, .inl ⟨Be hj,?_⟩⟩;unfold et;rw[mH,ka];simp only;refine⟨(pP hj).symm,fun h' hh C hC=> ?_⟩;rw[pP]at hh;rw[ci];exact o1 h' (fun n cs hn hq=>hh n cs (c1 n cs hn hq) hq) C hC
     by_cases PZ:cn oi=5∧cn oj=1
     ·obtain⟨ka,kb⟩:=PZ;unfold et at o1 o2;rw[mH,ka]at o1;rw[qu,kb]at o2;simp only at o1 o2;obtain⟨⟨c1,c2,c3⟩,o1⟩:=o1;obtain⟨e,o2⟩:=o2;rw[eM]at e o2;refine⟨s.h, .inl ⟨TB,?_⟩, .inl ⟨Be s.h,?_⟩⟩
      ·unfold et;rw[qu,kb];simp only;exact⟨trivial,fun h' hh C hC=>by rw[←cj];exact o2 h' (fun n cs hn hq=>hh n cs (c2 n cs hn hq) hq) C hC⟩
      ·rw[e];unfold et;rw[mH,ka];simp only;rw[pP];exact⟨⟨c1,c2,c3⟩,fun C hC=>by rw[ci];exact o1 C hC⟩
     have hc:(cn oi=1∨cn oi=4)∧(cn oj=1∨cn oj=4∨cn oj=2∨cn oj=6):=by
      simp only[Bool.or_eq_true,af7,beq_iff_eq,k0,k1,false_or,false_and]at kr;rcases kr with(kr|kr)|kr
      ·refine⟨kr.1,?_⟩;rcases kr.2 with((h|h)|h)|h
       ·exact .inl h
       ·exact .inr (.inl h)
       ·exact .inr (.inr (.inl h))
       ·exact .inr (.inr (.inr h))
      ·exact absurd kr RP
      ·exact absurd kr PZ
     have q1:hi=s.h∧∀e(C:AV→agU an→Prop),C xi (s.h++e)→ir P oi (ev s) (s.h++e) C:=by
      unfold et at o1;rcases hc.1 with k|k
      ·rw[mH,k]at o1;exact⟨o1.1,fun e C hC=>o1.2 _ (gT.app _ _) C hC⟩
      ·rw[mH,k]at o1;exact o1
     have q2:∃e0,hj=s.h++e0:=by
      have pg:=o2;unfold et at pg;rcases hc.2 with k|k|k|k
      ·rw[qu,k]at pg;exact⟨[],by rw[pg.1,eM,q1.1,agr]⟩
      ·rw[qu,k]at pg;exact⟨[],by rw[pg.1,eM,q1.1,agr]⟩
      ·rw[qu,k]at pg;obtain⟨B,_,_,b,_⟩:=pg;exact⟨[B],by rw[b,eM,q1.1]⟩
      ·rw[qu,k]at pg;obtain⟨e0,b,_⟩:=pg;exact⟨e0,by rw[b,eM,q1.1]⟩
     obtain⟨e0,BF⟩:=q2;refine⟨hj,same q1.1, .inl ⟨Be hj,?_⟩⟩;have:∀e(C:AV→agU an→Prop),C xi (hj++e)→ir P oi (ev ((s.wh hj).put oj.dst xj)) (hj++e) C:=fun e C hC=>by
      rw[ci,BF,agn];rw[BF,agn]at hC;exact q1.2 _ C hC
     unfold et;rw[pP];rcases hc.1 with k|k
     ·rw[mH,k];simp only;refine⟨trivial,fun h' hh C hC=> ?_⟩;rw[ci];unfold et at o1;rw[mH,k]at o1;exact o1.2 h' (fun n cs hn hq=>hh n cs (by rw[BF];exact gT.app _ _ n cs hn hq) hq) C hC
     ·rw[mH,k];exact⟨rfl,this⟩
  ·
   subst f1;rw[eM]at f2;refine⟨s.h, .inr ⟨yw tj g2,rfl,rfl⟩,?_⟩;rw[f2];exact H9 (ti s.h) (by rw[pP]) (.inl ⟨g1,o1⟩)
 ·
  subst e1;refine⟨hj,same e2, .inr ⟨yw (ti hj) g1,rfl,(pP hj).symm⟩⟩
def qY(K:St→Prop):Prop:=∀s s',ia s s'→K s→K s'
def lZ(m:Bool)(P:agX)(ops:Array Oper)(K:St→Prop):Nat→Array Bool→St→Prop
 |0,listed,s=>Region.ready .any ops listed=[]∧K s
 |fuel+1,listed,s=>
  (Region.ready .any ops listed=[]→K s)∧
  ∀i∈Region.ready .any ops listed,∀o,ops[i]?=some o→∃x h1,lQ m P ops o s x h1∧lZ m P ops K fuel (listed.setIfInBounds i true) ((s.wh h1).put o.dst x)
theorem Ns{m:Bool}{K:St→Prop}(hK:qY K):∀(fuel:Nat)(listed:Array Bool)(s s':St),ia s s'→lZ m P ops K fuel listed s→lZ m P ops K fuel listed s'
 |0,_,s,s',hs,h=>⟨h.1,hK s s' hs h.2⟩
 |fuel+1,_,s,s',hs,h=>⟨fun h0=>hK s s' hs (h.1 h0),fun i hi o ho=>by
  obtain⟨x,h1,h2,h3⟩:=h.2 i hi o ho;exact⟨x,h1,H9 (fun d _=>(hs.t d).symm) hs.h.symm h2,Ns hK fuel _ _ _ (hs.put h1 o.dst x) h3⟩⟩
def ph(M:Array Nat)(ops:Array Oper):Bool:=
 (List.range ops.size).all fun j=>(List.range ops.size).all fun i=> !(M.getD j 0).testBit i||match ops[j]? with
  |some o=>o.after.any fun e=>Region.binds .any e&&decide (e.on<j)&&(e.on==i||(M.getD e.on 0).testBit i)
  |none=>false
def Dn(ops:Array Oper)(listed:Array Bool):Prop:=∀(j:Nat)(o:Oper),ops[j]?=some o→listed.getD j false=true→∀e∈o.after,Region.binds .any e=true→listed.getD e.on false=true
theorem YA{M:Array Nat}(hM:ph M ops=true){listed:Array Bool}(hD:Dn ops listed):∀(j i:Nat)(o:Oper),i<ops.size→ops[j]?=some o→(∀e∈o.after,Region.binds .any e=true→listed.getD e.on false=true)→(M.getD j 0).testBit i=true→listed.getD i false=true:=by
 intro j
 induction j using Nat.strongRecOn with
 |_ j ih=>
  intro i o hi ho hp hb;unfold ph at hM;simp only[agw,List.mem_range]at hM;have h1:=hM j (agl.1 ho).1 i hi;rw[hb,ho]at h1;simp only[Bool.not_true,Bool.false_or]at h1;rw[Array.any_eq_true']at h1;obtain⟨e,he,h2⟩:=h1;simp only[af7,decide_eq_true_eq,Bool.or_eq_true,beq_iff_eq]at h2;obtain⟨⟨K1,aN⟩,h3⟩:=h2;have hl:=hp e he K1;rcases h3 with h3|h3
  ·rw[←h3];exact hl
  ·have F6:e.on<ops.size:=Nat.lt_trans aN (agl.1 ho).1;exact ih e.on aN i ops[e.on] hi (ags F6) (hD e.on _ (ags F6) hl) h3
theorem Dn.set{listed:Array Bool}(hD:Dn ops listed){i:Nat}(hr:i∈Region.ready .any ops listed):Dn ops (listed.setIfInBounds i true):=by
 intro j o ho hj e he hb;refine getD_set_true ?_;by_cases kC:i=j
 ·subst kC;obtain⟨_,o',B8,eV⟩:=mem_ready.1 hr;rw[ho]at B8;cases B8;exact eV e he hb
 ·rw[getD_set_ne false kC]at hj;exact hD j o ho hj e he hb
theorem Ht{m:Bool}{K:St→Prop}(hK:qY K){M:Array Nat}(hM:ph M ops=true){i:Nat}{oi:Oper}{x:AV}{h1:agU an}(hi:ops[i]?=some oi):
 ∀(fuel:Nat)(listed:Array Bool)(s:St),Dn ops listed→
  (∀j oj,ops[j]?=some oj→j≠i→listed.getD j true=false→(M.getD j 0).testBit i=false→oi.apart ops oj=true∧wU m oi oj=true)→
  i∈Region.ready .any ops listed→lQ m P ops oi s x h1→lZ m P ops K fuel (listed.setIfInBounds i true) ((s.wh h1).put oi.dst x)→lZ m P ops K (fuel+1) listed s:=by
 intro fuel
 induction fuel generalizing x h1 with
 |zero=>
  intro listed s _ _ hr hy H;refine⟨fun h=>(by rw[h]at hr;cases hr),fun j hj o ho=> ?_⟩;by_cases n8:j=i
  ·subst n8;rw[hi]at ho;cases ho;exact⟨x,h1,hy,H⟩
  ·have:=ready_mono hj n8;rw[H.1]at this;cases this
 |succ fuel ih=>
  intro listed s hD Pe hr hy H;refine⟨fun h=>(by rw[h]at hr;cases hr),fun j hj oj yb=> ?_⟩;by_cases n8:j=i
  ·subst n8;rw[hi]at yb;cases yb;exact⟨x,h1,hy,H⟩
  ·obtain⟨xj,XK,LN,H2⟩:=H.2 j (ready_mono hj n8) oj yb;obtain⟨Se,oj',OP,eV⟩:=mem_ready.1 hj;rw[yb]at OP;cases OP;have A1:=(agl.1 hi).1;have oY:listed.getD i false=false:=by
    have h0:=(mem_ready.1 hr).1;rcases Nat.lt_or_ge i listed.size with h'|h'
    ·simpa [h']using h0
    ·simp [Array.getElem?_eq_none h']at h0
   have jw:(M.getD j 0).testBit i=false:=by
    cases hb:(M.getD j 0).testBit i with
    |false=>rfl
    |true=>rw[YA hM hD j i oj A1 yb eV hb]at oY;cases oY
   obtain⟨xG,kr⟩:=Pe j oj yb n8 Se jw;obtain⟨iy,s1,s2⟩:=afA xG kr hy LN;obtain⟨_,a2,_⟩:=Oper.apart_spec xG;refine⟨xj,iy,s1,ih (listed.setIfInBounds j true) _ (hD.set hj) (fun k ok hk JT PW tg=> ?_) (ready_mono hr (Ne.symm n8)) s2 ?_⟩
   ·refine Pe k ok hk JT ?_ tg;by_cases Fk:j=k
    ·subst Fk;exact Se
    ·rw[getD_set_ne true Fk]at PW;exact PW
   ·rw[Array.setIfInBounds_comm _ _ n8];exact Ns hK _ _ _ _ (aea s h1 iy XK x xj (fun k hk=>a2 k hk)) H2
def MB(M:Array Nat)(ops:Array Oper)(k:Nat):Bool:=
 match ops[k]? with
 |none=>false
 |some oi=>(List.range ops.size).all fun j=>decide (j≤k)||(M.getD j 0).testBit k||match ops[j]? with
  |some oj=>oi.apart ops oj&&wU false oi oj
  |none=>true
def AG(M:Array Nat)(ops:Array Oper):Nat→Nat→Array Bool→Bool
 |0,_,listed=>(Region.ready .any ops listed).isEmpty
 |fuel+1,k,listed=>(Region.ready .any ops listed).contains k&&MB M ops k&&AG M ops fuel (k+1) (listed.setIfInBounds k true)
def nI(ops:Array Oper):Bool:=ph (Region.before ops) ops&&AG (Region.before ops) ops ops.size 0 (Array.replicate ops.size false)
theorem T1{K K':St→Prop}(hK:qY K')(y0:∀s,K s→K' s){M:Array Nat}(hM:ph M ops=true):∀(l:agU Oper)(k:Nat)(listed:Array Bool)(s:St),(∀j,l[j]?=ops[k+j]?)→(∀j,j<k→listed.getD j true=true)→Dn ops listed→
 AG M ops l.length k listed=true→Bf P ops l K s→lZ false P ops K' l.length listed s
 |[],_,_,_,_,_,_,hB,h=>⟨by simpa [AG]using hB,y0 _ h⟩
 |o::l,k,listed,s,hl,mF,hD,hB,h=>by
  have h0:ops[k]?=some o:=by simpa using (hl 0).symm
  simp only[af8,AG,af7]at hB;obtain⟨⟨hr,hf⟩,ee⟩:=hB;have ny:k∈Region.ready .any ops listed:=by simpa using hr
  have nc:∀j,l[j]?=ops[k+1+j]?:=fun j=>by have:=hl (j+1);simpa [Nat.add_assoc,Nat.add_comm 1 j]using this
  have acF:∀j,j<k+1→(listed.setIfInBounds k true).getD j true=true:=fun j hj=>by
   by_cases e:k=j
   ·subst e;rcases Nat.lt_or_ge k listed.size with h'|h'
    ·simp [h']
    ·have:(listed.setIfInBounds k true)[k]?=none:=Array.getElem?_eq_none (by simpa using h');rw[Array.getD_eq_getD_getElem?,this];rfl
   ·rw[getD_set_ne true e];exact mF j (by omega)
  obtain⟨x,h1,hy,vX⟩:∃x h1,lQ false P ops o s x h1∧Bf P ops l K ((s.wh h1).put o.dst x):=by
   rcases Mj h with⟨g,hd⟩|⟨g,hd⟩
   ·obtain⟨x,h1,h2,h3⟩:=Hm hd;exact⟨x,h1, .inl ⟨g,h2⟩,h3⟩
   ·exact⟨_,s.h, .inr ⟨g,rfl,rfl⟩,hd⟩
  refine Ht hK hM h0 l.length listed s hD (fun j oj hj cO oY tg=> ?_) ny hy (T1 hK y0 hM l (k+1) _ _ nc acF (hD.set ny) ee vX);unfold MB at hf;rw[h0]at hf;simp only[agw,List.mem_range]at hf;have:=hf j (agl.1 hj).1;rw[tg,hj]at this;simp only[Bool.or_false,Bool.or_eq_true,af7,decide_eq_true_eq]at this;rcases this with this|this
  ·exfalso;have:=mF j (by omega);rw[this]at oY;cases oY
  ·exact this
def S4(ops:Array Oper):Nat→Array Bool→agU Nat
 |0,_=>[]
 |f+1,listed=>match (Region.ready .any ops listed).find? (fun k=>match ops[k]? with|some o=> !(cn o==6)&& !mw true o|none=>false)with
  |some k=>k::S4 ops f (listed.setIfInBounds k true)
  |none=>match Region.ready .any ops listed with
   |k::_=>k::S4 ops f (listed.setIfInBounds k true)
   |[]=>[]
def y7(m:Bool)(M:Array Nat)(ops:Array Oper):agU Nat→Array Bool→Bool
 |[],listed=>(Region.ready .any ops listed).isEmpty
 |k::l,listed=>(Region.ready .any ops listed).contains k&&(match ops[k]? with
  |none=>false
  |some oi=>(List.range ops.size).all fun j=>j==k||listed.getD j true||(M.getD j 0).testBit k||match ops[j]? with
   |some oj=>oi.apart ops oj&&wU m oi oj
   |none=>true)&&y7 m M ops l (listed.setIfInBounds k true)
def Df(m:Bool)(ops:Array Oper)(p:agU Nat):Bool:=ph (Region.before ops) ops&&y7 m (Region.before ops) ops p (Array.replicate ops.size false)
def p5(ops:Array Oper):agU Nat→agU Oper
 |[]=>[]
 |k::l=>match ops[k]? with
  |some o=>o::p5 ops l
  |none=>p5 ops l
theorem RM{m:Bool}{K K':St→Prop}(hK:qY K')(y0:∀s,K s→K' s){M:Array Nat}(hM:ph M ops=true):∀(l:agU Nat)(listed:Array Bool)(s:St),Dn ops listed→
 y7 m M ops l listed=true→sc m P ops (p5 ops l) K s→lZ m P ops K' l.length listed s
 |[],_,_,_,hB,h=>⟨by simpa [y7]using hB,y0 _ h⟩
 |k::l,listed,s,hD,hB,h=>by
  simp only[y7,af7]at hB;obtain⟨⟨hr,hf⟩,ee⟩:=hB;have ny:k∈Region.ready .any ops listed:=by simpa using hr
  obtain⟨_,o,h0,_⟩:=mem_ready.1 ny;rw[h0]at hf;simp only[agw,List.mem_range]at hf;simp only[p5,h0]at h;obtain⟨x,h1,hy,vX⟩:∃x h1,lQ m P ops o s x h1∧sc m P ops (p5 ops l) K ((s.wh h1).put o.dst x):=by
   rcases Mj h with⟨g,hd⟩|⟨g,hd⟩
   ·obtain⟨x,h1,h2,h3⟩:=Hm hd;exact⟨x,h1, .inl ⟨g,h2⟩,h3⟩
   ·exact⟨_,s.h, .inr ⟨g,rfl,rfl⟩,hd⟩
  refine Ht hK hM h0 l.length listed s hD (fun j oj hj cO oY tg=> ?_) ny hy (RM hK y0 hM l _ _ (hD.set ny) ee vX);have:=hf j (agl.1 hj).1;rw[tg,oY,hj]at this;simp only[Bool.or_false,Bool.or_eq_true,af7,beq_iff_eq]at this;rcases this with this|this
  ·exact absurd this cO
  ·exact this
end
section
variable {P:agX} {r:agW Nat} {n N0:Nat} {G:Gh} {w:agZ} {a:Act} {s:St} {o:Oper} {Q:Exit→St→Prop}
theorem cT.drew(hs:cT G w a s):bK G.N G w G {w with drawn:=w.drawn+1}∧cT G {w with drawn:=w.drawn+1} a s:=by
 have hE:bK G.N G w G {w with drawn:=w.drawn+1}:=⟨agh _,fun _ _ h=>h,fun _ _ _=>rfl,fun _ _=>rfl,fun _ _=> .inl ⟨rfl,rfl⟩,fM rfl,fun _ _=>rfl,rfl,rfl,rfl,fun _ _ h=> .inl h⟩;have hi:bO G {w with drawn:=w.drawn+1} s.h:=⟨hs.inv.len,hs.inv.z,hs.inv.S,fun n B hB=>dY.keep (hs.inv.lt hB) hE (agh _) ⟨rfl,rfl,rfl⟩ (fun _ _=>⟨rfl,fun _ h=>h⟩) (hs.inv.dh n B hB),hs.inv.inj,hs.inv.gl.keep hE⟩;exact⟨hE,hs.move hE (agh _) hi⟩
theorem aad{m:Bool}{x:AV}{h1:agU an}(h:et m P o (ev s) s.h x h1):ir P o (ev s) s.h (fun x' h'=>(s.wh h').put o.dst x'=(s.wh h1).put o.dst x):=Uv h _ rfl
theorem BR{m:Bool}{ops:Array Oper}{K:St→Prop}{Q':Exit→Act→agZ→Prop}(hQ:∀a' w',iE N0 G w K a' w'→Q' .normal a' w'):∀(fuel:Nat)(listed:Array Bool)(G1:Gh)(w1:agZ)(a:Act)(s:St),
 bK N0 G w G1 w1→N0≤G1.N→cT G1 w1 a s→lZ m P ops K fuel listed s→wpAnyIn (WF r) n P .any ops Q' fuel listed a w1
 |0,_,G1,w1,a,s,hE,hN,hs,h=>⟨h.1,hQ _ _ ⟨G1,s,hE,hN,hs,h.2⟩⟩
 |fuel+1,listed,G1,w1,a,s,hE,hN,hs,h=>by
  refine⟨fun h0=>hQ _ _ ⟨G1,s,hE,hN,hs,h.1 h0⟩,fun i hi=> ?_⟩;obtain⟨_,o,ho,_⟩:=mem_ready.1 hi;obtain⟨x,h1,hy,vX⟩:=h.2 i hi o ho;unfold wpOpIn;rw[ho];simp only;rcases hy with⟨g,hc⟩|⟨g,rfl,rfl⟩
  ·have hg:=HQ hs g;split at hg
   ·rename_i hw
    rw[if_pos hw];refine Oper.wpIn_mono (fun a' w' hn=> ?_) ((aad hc).elim (fun k=>QY (K:=fun s'=>s'=(s.wh h1).put o.dst x) (r:=r) (n:=n) (N0:=N0) (Q:=Q') hs hN k) fun⟨_,va,x',h',p,k1,k2,k3⟩=>PC (K:=fun s'=>s'=(s.wh h1).put o.dst x) (r:=r) (n:=n) (N0:=N0) (Q:=Q') hs hN ⟨va,x',h',p,k1,k2,k3⟩);obtain⟨G2,s2,e2,n2,LI,rfl⟩:=hn;exact BR hQ fuel _ G2 w' a' _ (hE.trans e2) n2 LI vX
   ·exact hg.elim
  ·have hg:=HQ hs g;split at hg
   ·exact hg.elim
   ·rename_i hw
    rw[if_neg hw];exact⟨fun _ _=>trivial,BR hQ fuel _ G1 w1 _ _ hE hN (hs.put (.d (.v undef)) o.dst) vX⟩
theorem DV{id:Nat}{l:agU Oper}(hm:P.follows .mixedOrders=true)(hl:nI l.toArray=true)(h:Bf P l.toArray l (Q .normal) s):bB P r N0 (.region id l.toArray true) Q s:=by
 constructor
 intro G w a n hs hN;unfold nI at hl;rw[af7]at hl;obtain⟨d1,d2⟩:=hs.drew;refine wpIn_region_any hm ?_;have hC:qY (fun s=>∃s',ia s' s∧Q .normal s'):=fun s s' e ⟨s0,e0,h0⟩=>⟨s0,e0.trans e,h0⟩;have:=T1 (K:=Q .normal) hC (fun s h=>⟨s,ia.refl s,h⟩) hl.1 l 0 (Array.replicate l.toArray.size false) s (by simp) (fun j hj=>absurd hj (agy _)) (fun j o ho hj=>by
  exfalso;rw[Array.getD_eq_getD_getElem?]at hj;rw[Array.getElem?_replicate]at hj;split at hj<;>simp at hj) (by simpa using hl.2) h
 refine BR (G:=G) (w:=w) (N0:=N0) (K:=fun s=>∃s',ia s' s∧Q .normal s') (fun a' w' hn=> ?_) l.toArray.size _ G _ a s (d1.less hN) hN d2 (by simpa using this);obtain⟨G',s',x1,x2,x3,s0,e0,x4⟩:=hn;refine⟨G',s0,x1,x2,⟨x3.size.trans e0.n.symm,fun i=>by rw[e0.t i];exact x3.tmp i,by rw[e0.h];exact x3.inv,x3.df⟩,x4⟩
theorem acB{m:Bool}{id:Nat}{ops:Array Oper}(p:agU Nat)(hm:P.follows .mixedOrders=true)(hz:p.length=ops.size)(hl:Df m ops p=true)(h:sc m P ops (p5 ops p) (Q .normal) s):bB P r N0 (.region id ops true) Q s:=by
 constructor
 intro G w a n hs hN;unfold Df at hl;rw[af7]at hl;obtain⟨d1,d2⟩:=hs.drew;refine wpIn_region_any hm ?_;have hC:qY (fun s=>∃s',ia s' s∧Q .normal s'):=fun s s' e ⟨s0,e0,h0⟩=>⟨s0,e0.trans e,h0⟩;have:=RM (K:=Q .normal) hC (fun s h=>⟨s,ia.refl s,h⟩) hl.1 p (Array.replicate ops.size false) s (fun j o ho hj=>by
  exfalso;rw[Array.getD_eq_getD_getElem?]at hj;rw[Array.getElem?_replicate]at hj;split at hj<;>simp at hj) hl.2 h
 rw[hz]at this;refine BR (G:=G) (w:=w) (N0:=N0) (K:=fun s=>∃s',ia s' s∧Q .normal s') (fun a' w' hn=> ?_) ops.size _ G _ a s (d1.less hN) hN d2 this;obtain⟨G',s',x1,x2,x3,s0,e0,x4⟩:=hn;refine⟨G',s0,x1,x2,⟨x3.size.trans e0.n.symm,fun i=>by rw[e0.t i];exact x3.tmp i,by rw[e0.h];exact x3.inv,x3.df⟩,x4⟩
end
def afJ(want:Bool):AV→Bool
 | .d (.v (.bool b))=>b==want
 |_=>false
def gNo(want:Bool):AV→Bool
 | .d (.v (.bool b))=>b== !want
 | .d (.v (.tuple _))=>true
 |_=>false
def VP(t:agU (Nat×AV)):agW Nat→AV
 |some d=>bm t d
 |none=> .dead
def sf(ops:Array Oper)(j:Nat)(t:agU (Nat×AV)):AV:=VP t ((ops[j]?).bind (·.dst))
section
variable {P:agX} {ops:Array Oper} {dst:agW Nat} {op:Op} {ty:TypeId} {pos:String} {after:Array Edge} {j:Nat} {w:Bool} {s:St} {rest:agU Oper} {K:St→Prop} {y n:Prop}
theorem Dj:iw ops ⟨dst,op,ty,pos,after,some (j,w)⟩ s y n=(match sf ops j s.t with
 | .d (.v (.bool b))=>(b=w→y)∧(b= !w→n)
 | .d (.v (.tuple _))=>n
 |_=>False):=by
 show(match (ops[j]?).bind (·.dst)with
  |some d=>match bm s.t d with
   | .d (.v (.bool b))=>(b=w→y)∧(b= !w→n)
   | .d (.v (.tuple _))=>n
   |_=>False
  |none=>False)=_
 unfold sf;cases (ops[j]?).bind (·.dst)<;>rfl
end
section
variable {P:agX} {r:agW Nat} {n N0:Nat} {G:Gh} {w:agZ} {a:Act} {s:St} {o:Oper} {Q:Exit→St→Prop}
theorem bX{K:St→Prop}(h:K s):hO K Q .normal s:=h
theorem iU{K:St→Prop}{i:Nat}(h:Q (.exit i) s):hO K Q (.exit i) s:=h
theorem dW{K:St→Prop}(h:Q .ret s):hO K Q .ret s:=h
theorem ie{id:Nat}(h:Q .normal s):nM id Q .normal s:=h
theorem ff{id:Nat}(h:Q .ret s):nM id Q .ret s:=h
theorem nb{id i:Nat}(e:(i==id)=true)(h:Q .normal s):nM id Q (.exit i) s:=by simpa only[nM,e,cond_true]using h
theorem abG{id i:Nat}(e:(i==id)=false)(h:Q (.exit i) s):nM id Q (.exit i) s:=by simpa only[nM,e,cond_false]using h
theorem lg{c:Operand}{x y:Code}(hc:ev s c= .d (.v (.bool true)))(h:bB P r N0 x Q s):bB P r N0 (.cond c x y) Q s:=Ke hc (fun _=>h) fun h=>Bool.noConfusion h
theorem kT{c:Operand}{x y:Code}(hc:ev s c= .d (.v (.bool false)))(h:bB P r N0 y Q s):bB P r N0 (.cond c x y) Q s:=Ke hc (fun h=>Bool.noConfusion h) fun _=>h
theorem fy{c:Operand}{x y:Code}{t:Bool}(hc:ev s c= .d (.v (.bool t)))(e:t=true)(h:bB P r N0 x Q s):bB P r N0 (.cond c x y) Q s:=lg (by rw[hc,e]) h
theorem fp{c:Operand}{x y:Code}{t:Bool}(hc:ev s c= .d (.v (.bool t)))(e:t=false)(h:bB P r N0 y Q s):bB P r N0 (.cond c x y) Q s:=kT (by rw[hc,e]) h
theorem OV{c:Code}(k:Nat)(e:TypeId)(sz:Nat)(xs:agU (agU D))(hx:bm s.t k= .full xs∨(bm s.t k= .d (.v (.slice none 0 0))∧xs=[]))
 (h:bB P r N0 c Q ⟨s.n,(k, .own s.h.length xs)::s.t,s.h++[.front e sz xs.length]⟩):bB P r N0 c Q s:=by
 constructor
 intro G w a n hs hN;have hp:dq G.S w (a.tmps.getD k undef) (.sl xs)∧∃A,a.tmps.getD k undef= .slice A xs.length xs.length:=by
  have hv:=hs.tmp k;revert hv;generalize a.tmps.getD k undef=u;intro hv;rcases hx with hx|⟨hx,rfl⟩
  ·rw[hx]at hv;cases hv with|full _ hp hf=>exact⟨hp,hf⟩
  ·rw[hx]at hv;rw[hv.val];exact⟨zQ,none,rfl⟩
 obtain⟨a1,a2,a3,a4⟩:=H7 hs.inv hp.1 hp.2 e sz;have cy:cT (G.gd (a.tmps.getD k undef) xs.length) w a ⟨s.n,(k, .own s.h.length xs)::s.t,s.h++[.front e sz xs.length]⟩:=by
  refine⟨hs.size,fun i=> ?_,a3,hs.df.keep a1⟩;show aE _ _ _ (bm ((k, .own s.h.length xs)::s.t) i);rw[kL];split
  ·next e=>exact e▸a4
  ·exact(hs.tmp i).keep a1 a2
 exact wpIn_mono (h.run _ w a n cy (ago hN a2)) fun _ _ _ hn=>hn.trans (a1.less hN)
end
theorem IC{G:Gh}{w:agZ}{h:agU an}{b:Nat}{cs bV:agU AV}(hi:bO G w h)(hb:h[b]?=some (.cells cs))(hl:bV.length=cs.length)
 (hc:∀(vs:Array agY)(T:TypeId),w.heap[G.bg b]?=some (.cells vs T (0,0))→∀(i:Nat)(u:agY)(c:AV),vs[i]?=some u→bV[i]?=some c→aE G w u c):bO G w (h.set b (an.cells bV)):=by
 have ho:∀n,bR (h.set b (an.cells bV)) G n=bR h G n:=fun n=>by
  have aN:=(af5.1 hb).1;unfold bR;by_cases e:b=n
  ·subst e;rw[agz aN,hb];rfl
  ·rw[agE e]
 refine⟨by rw[List.length_set];exact hi.len,hi.z,hi.S,fun n B hB=> ?_,fun m n x hm hn=>hi.inj m n x (by rw[←ho];exact hm) (by rw[←ho];exact hn),hi.gl⟩;have aN:=(af5.1 hb).1;by_cases e:b=n
 ·subst e;rw[agz aN]at hB;cases hB
  obtain⟨h1,h2,vs,T,h3,h4,_⟩:=hi.dh _ _ hb;exact⟨h1,h2,vs,T,h3,h4.trans hl.symm,hc vs T h3⟩
 ·rw[agE e]at hB;exact hi.dh n B hB
theorem CS{P:agX}{r:agW Nat}{N0:Nat}{s:St}{Q:Exit→St→Prop}{c:Code}(b i:Nat)(e:TypeId)(sz:Nat)(xs:agU (agU D)){cs:agU AV}(hb:s.h[b]?=some (.cells cs))(hx:cs[i]?=some (.full xs)∨(cs[i]?=some (.d (.v (.slice none 0 0)))∧xs=[]))
 (h:bB P r N0 c Q ⟨s.n,s.t,(s.h++[an.front e sz xs.length]).set b (an.cells (cs.set i (AV.own s.h.length xs)))⟩):bB P r N0 c Q s:=by
 constructor
 intro G w a n hs hN;obtain⟨h1,h2,vs,T,h3,h4,h5⟩:=hs.inv.dh _ _ hb;have hi:i<cs.length:=by rcases hx with hx|⟨hx,_⟩<;>exact(af5.1 hx).1
 have hv:vs[i]?=some vs[i]:=ags (by omega);have hp:dq G.S w vs[i] (.sl xs)∧∃A,vs[i]= .slice A xs.length xs.length:=by
  rcases hx with hx|⟨hx,rfl⟩
  ·have:=h5 i _ _ hv hx;generalize vs[i]=u at this;cases this with|full _ hp hf=>exact⟨hp,hf⟩
  ·have:=h5 i _ _ hv hx;rw[this.val];exact⟨zQ,none,rfl⟩
 obtain⟨a1,a2,a3,a4⟩:=H7 hs.inv hp.1 hp.2 e sz;have aN:=(af5.1 hb).1;have cy:cT (G.gd vs[i] xs.length) w a ⟨s.n,s.t,(s.h++[an.front e sz xs.length]).set b (an.cells (cs.set i (AV.own s.h.length xs)))⟩:=by
  refine⟨hs.size,fun j=>(hs.tmp j).keep a1 a2,IC a3 (by rw[agf aN];exact hb) (by rw[List.length_set]) fun ft T' rG j u c hu hc=> ?_,hs.df.keep a1⟩;have e1:(G.gd vs[i] xs.length).bg b=G.bg b:=by
   have:b≠G.N:=by have:=hs.inv.len;omega
   simp [Gh.gd]
  rw[e1,h3]at rG;cases rG
  by_cases e2:i=j
  ·subst e2;rw[agz hi]at hc;cases hc
   rw[hv]at hu;cases hu
   exact a4
  ·rw[agE e2]at hc;exact(h5 j u c hu hc).keep a1 a2
 exact wpIn_mono (h.run _ w a n cy (ago hN a2)) fun _ _ _ hn=>hn.trans (a1.less hN)
def AV.Le(x y:AV):Prop:=∀(G:Gh)(w:agZ)(u:agY),aE G w u x→aE G w u y
theorem AV.Le.refl(x:AV):AV.Le x x:=fun _ _ _ h=>h
theorem AV.Le.full(xs:agU (agU D)):AV.Le (.full xs) (.d (.sl xs)):=fun _ _ _ h=>by
 cases h with|full _ hp _=>exact .d hp
theorem AV.Le.nil:AV.Le (.d (.v (.slice none 0 0))) (.d (.sl [])):=fun _ _ _ h=>by
 rw[h.val];exact .d zQ
theorem AV.Le.agg{cs ds:agU AV}(hl:cs.length=ds.length)(h:∀(i:Nat)(c d:AV),cs[i]?=some c→ds[i]?=some d→AV.Le c d):AV.Le (.agg cs) (.agg ds):=fun G w u hu=>by
 cases hu with
 |agg vs _ nc hv=>
  refine .agg vs ds (nc.trans hl) fun i u d hui hd=> ?_;have aN:i<cs.length:=by rw[hl];exact(af5.1 hd).1
  exact h i _ d (af9 aN) hd G w u (hv i u _ hui (af9 aN))
set_option linter.unusedSimpArgs false
set_option linter.unusedVariables false
def rn:agU Nat→Nat→Nat→Nat
 |[],base,i=>base+i
 |j::_,_,0=>j
 |_::l,base,i+1=>rn l base i
theorem xf:∀(l:agU Nat)(base i:Nat)(j:Nat),l[i]?=some j→rn l base i=j
 |[],_,i,j,h=>by simp at h
 |a::l,base,0,j,h=>by simpa [rn]using h
 |a::l,base,i+1,j,h=>by rw[rn];exact xf l base i j (by simpa using h)
theorem Gw:∀(l:agU Nat)(base i:Nat),l.length≤i→rn l base i=base+(i-l.length)
 |[],base,i,_=>by simp [rn]
 |a::l,base,0,h=>by simp at h
 |a::l,base,i+1,h=>by rw[rn,Gw l base i (by simpa using h)];simp
mutual
def AV.aM(σ:Nat→Nat):AV→AV
 | .ptr n off=> .ptr (σ n) off
 | .own n xs=> .own (σ n) xs
 | .row n off len cap k=> .row (σ n) off len cap k
 | .mp n=> .mp (σ n)
 | .c7 n=> .c7 (σ n)
 | .vec n o len L k=> .vec (σ n) o len L k
 | .de n i j L k=> .de (σ n) i j L k
 | .agg cs=> .agg (AV.eR σ cs)
 | .bU cs=> .bU (AV.eR σ cs)
 | .fn f cs=> .fn f (AV.eR σ cs)
 | .d x=> .d x
 | .aW xs i off=> .aW xs i off
 | .full xs=> .full xs
 | .hid c=> .hid c
 | .dead=> .dead
def AV.eR(σ:Nat→Nat):agU AV→agU AV
 |[]=>[]
 |x::l=>x.aM σ::AV.eR σ l
end
theorem gy(σ:Nat→Nat):∀l,AV.eR σ l=l.map (AV.aM σ)
 |[]=>by simp [AV.eR]
 |x::l=>by simp [AV.eR,gy σ l]
def an.aM(σ:Nat→Nat):an→an
 | .cells cs=> .cells (AV.eR σ cs)
 | .lp ls p as bd cs=> .lp ls p as bd (AV.eR σ cs)
 | .it sn cs=> .it sn (AV.eR σ cs)
 | .vec e k cs=> .vec e k (cs.map (AV.eR σ))
 | .front e k len=> .front e k len
 | .map kv=> .map kv
 | .gone=> .gone
def fY:agU Nat→agU an→agU an→agU an
 |[],Bs,h=>h++Bs
 |_::_,[],h=>h
 |i::l,B::Bs,h=>fY l Bs (h.set i B)
structure nY(σ:Nat→Nat)(G G2:Gh):Prop where
 lt:∀n,n<G.N→σ n<G2.N
 bg:∀n,n<G.N→G2.bg (σ n)=G.bg n
 sg:∀n,n<G.N→G2.sg (σ n)=G.sg n
 fl:∀n,n<G.N→G2.fl (σ n)=G.fl n
 ow:∀n,n<G.N→G2.ow (σ n)=G.ow n
 S:∀b o,G2.S b o↔G.S b o
theorem dq.qR{S S':Nat→Nat→Prop}{w:agZ}(hS:∀b o,S b o→S' b o){u:agY}{x:D}(h:dq S w u x):dq S' w u x:=h.keep hS (fun _ _ _=>rfl)
theorem aE.aM{σ:Nat→Nat}{G G2:Gh}{w:agZ}(hR:nY σ G G2){u:agY}{x:AV}(h:aE G w u x):aE G2 w u (x.aM σ):=by
 have hS:∀b o,G.S b o→G2.S b o:=fun b o h=>(hR.S b o).2 h;have e8:∀(vs:Array agY)(cs:agU AV),(∀(i:Nat)(u:agY)(c:AV),vs[i]?=some u→cs[i]?=some c→aE G2 w u (c.aM σ))→∀(i:Nat)(u:agY)(c:AV),vs[i]?=some u→(AV.eR σ cs)[i]?=some c→aE G2 w u c:=by
  intro vs cs ih i u c hu hc;rw[gy,agc]at hc;cases hx:cs[i]? with
  |none=>rw[hx]at hc;cases hc
  |some x=>rw[hx]at hc;cases hc;exact ih i u x hu hx
 induction h with
 |agg vs cs hl _ ih=>rw[AV.aM];exact .agg vs _ (by rw[gy,aga];exact hl) (e8 vs cs ih)
 |bU vs cs hl _ ih=>rw[AV.aM];exact .bU vs _ (by rw[gy,aga];exact hl) (e8 vs cs ih)
 |fn f vs cs hl _ ih=>rw[AV.aM];exact .fn f vs _ (by rw[gy,aga];exact hl) (e8 vs cs ih)
 |d h=>rw[AV.aM];exact .d (h.qR hS)
 |full xs hp hf=>rw[AV.aM];exact .full xs (hp.qR hS) hf
 |ptr n off h=>rw[AV.aM,←hR.bg n h];exact .ptr _ off (hR.lt n h)
 |row n off len cap k h hl hm=>rw[AV.aM,←hR.bg n h];exact .row _ off len cap k (hR.lt n h) hl hm
 |mp n h=>rw[AV.aM,←hR.bg n h];exact .mp _ (hR.lt n h)
 |c7 n h=>rw[AV.aM,←hR.bg n h];exact .c7 _ (hR.lt n h)
 |own n xs h hp hle hf=>rw[AV.aM];exact .own _ xs (hR.lt n h) (hp.qR hS) (by rw[hR.fl n h];exact hle) (by rw[hR.fl n h,hR.sg n h];exact hf)
 |vec n o len L k h hs hL hf=>rw[AV.aM];exact .vec _ o len L k (hR.lt n h) hs (by rw[hR.fl n h];exact hL) (by rw[hR.fl n h,hR.sg n h];exact hf)
 |de n i j L k h hs hL hf=>rw[AV.aM];exact .de _ i j L k (hR.lt n h) hs (by rw[hR.fl n h];exact hL) (by rw[hR.fl n h,hR.sg n h];exact hf)
 |aW xs i off b o u x hx oc hu=>rw[AV.aM];exact .aW xs i off b o u x hx (fun j hj=>⟨hS _ _ (oc j hj).1,(oc j hj).2⟩) (fun j d hd=>(hu j d hd).qR hS)
 |hid h h1=>rw[AV.aM];exact .hid (h.keep hS (fun _ _ _=>rfl)) h1
 |dead u=>rw[AV.aM];exact .dead u
theorem aE.sI{σ:Nat→Nat}{G G2:Gh}{w:agZ}(hR:nY σ G G2){u:agY}{y:AV}(h:aE G2 w u y):∀x:AV,x.aM σ=y→x.aO G.N=true→aE G w u x:=by
 have hS:∀b o,G2.S b o→G.S b o:=fun b o h=>(hR.S b o).1 h;have lt:∀n,(!b8 G.N n)=true→n<G.N:=fun n h=>by rw[Bool.not_eq_true',←Bool.not_eq_true,dA]at h;omega
 have e8:∀(vs:Array agY)(cs xs:agU AV),(∀(i:Nat)(u:agY)(c:AV),vs[i]?=some u→cs[i]?=some c→∀x:AV,x.aM σ=c→x.aO G.N=true→aE G w u x)→AV.eR σ xs=cs→AV.lP G.N xs=true→∀(i:Nat)(u:agY)(c:AV),vs[i]?=some u→xs[i]?=some c→aE G w u c:=by
  intro vs cs xs ih e hb i u c hu hc;subst e;rw[lE,agw]at hb;exact ih i u (c.aM σ) hu (by rw[gy,agc,hc];rfl) c rfl (hb c (agj hc))
 induction h with
 |agg vs cs hl _ ih=>
  intro x e hb;cases x<;>simp only[AV.aM,AV.agg.injEq,reduceCtorEq]at e
  next xs=>
   rw[AV.aO]at hb;exact .agg vs xs (by rw[hl,←e,gy,aga]) (e8 vs cs xs ih e hb)
 |bU vs cs hl _ ih=>
  intro x e hb;cases x<;>simp only[AV.aM,AV.bU.injEq,reduceCtorEq]at e
  next xs=>
   rw[AV.aO]at hb;exact .bU vs xs (by rw[hl,←e,gy,aga]) (e8 vs cs xs ih e hb)
 |fn f vs cs hl _ ih=>
  intro x e hb;cases x<;>simp only[AV.aM,AV.fn.injEq,reduceCtorEq]at e
  next g xs=>
   obtain⟨rfl,e⟩:=e;rw[AV.aO]at hb;exact .fn _ vs xs (by rw[hl,←e,gy,aga]) (e8 vs cs xs ih e hb)
 |d h=>
  intro x e hb;cases x<;>simp only[AV.aM,AV.d.injEq,reduceCtorEq]at e
  next y=>subst e;exact .d (h.qR hS)
 |full xs hp hf=>
  intro x e hb;cases x<;>simp only[AV.aM,AV.full.injEq,reduceCtorEq]at e
  next y=>subst e;exact .full y (hp.qR hS) hf
 |ptr n off h=>
  intro x e hb;cases x<;>simp only[AV.aM,AV.ptr.injEq,reduceCtorEq]at e
  next m o=>
   obtain⟨e1,rfl⟩:=e;rw[AV.aO]at hb;have hm:=lt _ hb;rw[←e1,hR.bg _ hm];exact .ptr _ _ hm
 |row n off len cap k h hl kd=>
  intro x e hb;cases x<;>simp only[AV.aM,AV.row.injEq,reduceCtorEq]at e
  next m o l c q=>
   obtain⟨e1,rfl,rfl,rfl,rfl⟩:=e;rw[AV.aO]at hb;have hm:=lt _ hb;rw[←e1,hR.bg _ hm];exact .row _ _ _ _ _ hm hl kd
 |mp n h=>
  intro x e hb;cases x<;>simp only[AV.aM,AV.mp.injEq,reduceCtorEq]at e
  next m=>
   rw[AV.aO]at hb;have hm:=lt _ hb;rw[←e,hR.bg _ hm];exact .mp _ hm
 |c7 n h=>
  intro x e hb;cases x<;>simp only[AV.aM,AV.c7.injEq,reduceCtorEq]at e
  next m=>
   rw[AV.aO]at hb;have hm:=lt _ hb;rw[←e,hR.bg _ hm];exact .c7 _ hm
 |own n xs h hp hle hf=>
  intro x e hb;cases x<;>simp only[AV.aM,AV.own.injEq,reduceCtorEq]at e
  next m l=>
   obtain⟨e1,rfl⟩:=e;rw[AV.aO]at hb;have hm:=lt _ hb;rw[←e1]at hle hf;exact .own _ _ hm (hp.qR hS) (by rw[←hR.fl _ hm];exact hle) (by rw[←hR.fl _ hm,←hR.sg _ hm];exact hf)
 |vec n o len L k h hs hL hf=>
  intro x e hb;cases x<;>simp only[AV.aM,AV.vec.injEq,reduceCtorEq]at e
  next m a1 a2 a3 a4=>
   obtain⟨e1,rfl,rfl,rfl,rfl⟩:=e;rw[AV.aO]at hb;have hm:=lt _ hb;rw[←e1]at hL hf;exact .vec _ _ _ _ _ hm hs (by rw[←hR.fl _ hm];exact hL) (by rw[←hR.fl _ hm,←hR.sg _ hm];exact hf)
 |de n i j L k h hs hL hf=>
  intro x e hb;cases x<;>simp only[AV.aM,AV.de.injEq,reduceCtorEq]at e
  next m a1 a2 a3 a4=>
   obtain⟨e1,rfl,rfl,rfl,rfl⟩:=e;rw[AV.aO]at hb;have hm:=lt _ hb;rw[←e1]at hL hf;exact .de _ _ _ _ _ hm hs (by rw[←hR.fl _ hm];exact hL) (by rw[←hR.fl _ hm,←hR.sg _ hm];exact hf)
 |aW xs i off b o u y hx oc hu=>
  intro x e hb;cases x<;>simp only[AV.aM,AV.aW.injEq,reduceCtorEq]at e
  next a1 a2 a3=>
   obtain⟨rfl,rfl,rfl⟩:=e;exact .aW _ _ _ b o u y hx (fun j hj=>⟨hS _ _ (oc j hj).1,(oc j hj).2⟩) (fun j d hd=>(hu j d hd).qR hS)
 |hid h h1=>
  intro x e hb;cases x<;>simp only[AV.aM,AV.hid.injEq,reduceCtorEq]at e
  next c=>subst e;exact .hid (h.keep hS (fun _ _ _=>rfl)) h1
 |dead u=>
  intro x e hb;cases x<;>simp only[AV.aM,reduceCtorEq]at e
  exact .dead u
theorem Js{σ:Nat→Nat}{G G2:Gh}(hR:nY σ G G2){n:Nat}(hn:n<G.N)(B:an):(B.aM σ).dU G2 (σ n)=B.dU G n:=by
 cases B<;>simp only[an.aM,an.dU,hR.bg n hn,hR.ow n hn]
theorem dY.aM{σ:Nat→Nat}{G G2:Gh}{w:agZ}(hR:nY σ G G2){n:Nat}(hn:n<G.N){B:an}(hz:∀b,B.dU G n=some b→¬G2.Z b)(h:dY G w n B):dY G2 w (σ n) (B.aM σ):=by
 have hS:∀b o,¬G.S b o→¬G2.S b o:=fun b o h h2=>h ((hR.S b o).1 h2);cases B with
 |gone=>trivial
 |cells cs=>
  obtain⟨h1,h2,vs,T,h3,h4,h5⟩:=h;rw[an.aM];refine⟨by rw[hR.bg n hn];exact hz _ rfl,by rw[hR.bg n hn];exact fun o=>hS _ _ (h2 o),vs,T,by rw[hR.bg n hn];exact h3,by rw[gy,aga];exact h4,fun i u c hu hc=> ?_⟩;rw[gy,agc]at hc;cases hx:cs[i]? with
  |none=>rw[hx]at hc;cases hc
  |some x=>rw[hx]at hc;cases hc;exact(h5 i u x hu hx).aM hR
 |lp ls p as bd cs=>
  obtain⟨h1,h2,fn,vs,T,h3,h4,h5⟩:=h;rw[an.aM];refine⟨by rw[hR.bg n hn];exact hz _ rfl,by rw[hR.bg n hn];exact fun o=>hS _ _ (h2 o),fn,vs,T,by rw[hR.bg n hn];exact h3,by rw[gy,aga];exact h4,fun i u c hu hc=> ?_⟩;rw[gy,agc]at hc;cases hx:cs[i]? with
  |none=>rw[hx]at hc;cases hc
  |some x=>rw[hx]at hc;cases hc;exact(h5 i u x hu hx).aM hR
 |it sn cs=>
  obtain⟨h1,h2,fn,vs,T,h3,h4,h5⟩:=h;rw[an.aM];refine⟨by rw[hR.bg n hn];exact hz _ rfl,by rw[hR.bg n hn];exact fun o=>hS _ _ (h2 o),fn,vs,T,by rw[hR.bg n hn];exact h3,by rw[gy,aga];exact h4,fun i u c hu hc=> ?_⟩;rw[gy,agc]at hc;cases hx:cs[i]? with
  |none=>rw[hx]at hc;cases hc
  |some x=>rw[hx]at hc;cases hc;exact(h5 i u x hu hx).aM hR
 |map kv=>
  obtain⟨h1,h2,es,c,h3,h4⟩:=h;exact⟨by rw[hR.bg n hn];exact hz _ rfl,by rw[hR.bg n hn];exact fun o=>hS _ _ (h2 o),es,c,by rw[hR.bg n hn];exact h3,h4.keep (fun b o h=>(hR.S b o).2 h) (fun _ _ _=>rfl)⟩
 |front e k len=>
  obtain⟨h1,hm,h2⟩:=h;refine⟨(hR.fl n hn).trans h1,hm,?_⟩;rcases h2 with⟨h2,A,h3⟩|⟨g,cap,cur,h2,h3,h4,h5,h6,h7,h8,h9⟩
  ·exact .inl ⟨(hR.ow n hn).trans h2,A,(hR.sg n hn).trans h3⟩
  ·exact .inr ⟨g,cap,cur,(hR.ow n hn).trans h2,(hR.sg n hn).trans h3,hz g h2,h5,h6,h7,h8,fun o ho=>hS _ _ (h9 o ho)⟩
 |vec e k cs=>
  obtain⟨h1,hm,hk,h2⟩:=h;rw[an.aM];refine⟨by rw[aga];exact(hR.fl n hn).trans h1,by rw[aga];exact hm,fun c hc=> ?_,?_⟩
  ·obtain⟨x,hx,rfl⟩:=List.mem_map.1 hc;rw[gy,aga];exact hk x hx
  ·rcases h2 with⟨h2,e2,A,h3⟩|⟨g,cap,cur,h2,h3,h4,h5,h6,h7,h8,h9,aJ⟩
   ·exact .inl ⟨(hR.ow n hn).trans h2,by rw[e2];rfl,A,(hR.sg n hn).trans h3⟩
   ·refine .inr ⟨g,cap,cur,(hR.ow n hn).trans h2,by rw[aga];exact(hR.sg n hn).trans h3,hz g h2,h5,by rw[aga];exact h6,h7,h8,fun o=>hS _ _ (h9 o),fun i j c x u hc hx hu=> ?_⟩;rw[agc]at hc;cases hy:cs[i]? with
    |none=>rw[hy]at hc;cases hc
    |some y=>
     rw[hy]at hc;cases hc
     rw[gy,agc]at hx;cases hw:y[j]? with
     |none=>rw[hw]at hx;cases hx
     |some z=>rw[hw]at hx;cases hx;exact(aJ i j y z u hy hw hu).aM hR
theorem dY.sI{σ:Nat→Nat}{G G2:Gh}{w:agZ}(hR:nY σ G G2){n:Nat}(hn:n<G.N){B:an}(hb:B.aO G.N=true)(hz:∀b,B.dU G n=some b→¬G.Z b)(h:dY G2 w (σ n) (B.aM σ)):dY G w n B:=by
 have hS:∀b o,¬G2.S b o→¬G.S b o:=fun b o h h2=>h ((hR.S b o).2 h2);cases B with
 |gone=>trivial
 |cells cs=>
  rw[an.aM]at h;obtain⟨h1,h2,vs,T,h3,h4,h5⟩:=h;rw[hR.bg n hn]at h2 h3;rw[gy,aga]at h4;simp only[an.aO,agw]at hb;exact⟨hz _ rfl,fun o=>hS _ _ (h2 o),vs,T,h3,h4,fun i u c hu hc=>aE.sI hR (h5 i u (c.aM σ) hu (by rw[gy,agc,hc];rfl)) c rfl (hb c (agj hc))⟩
 |lp ls p as bd cs=>
  rw[an.aM]at h;obtain⟨h1,h2,fn,vs,T,h3,h4,h5⟩:=h;rw[hR.bg n hn]at h2 h3;rw[gy,aga]at h4;simp only[an.aO,agw]at hb;exact⟨hz _ rfl,fun o=>hS _ _ (h2 o),fn,vs,T,h3,h4,fun i u c hu hc=>aE.sI hR (h5 i u (c.aM σ) hu (by rw[gy,agc,hc];rfl)) c rfl (hb c (agj hc))⟩
 |it sn cs=>
  rw[an.aM]at h;obtain⟨h1,h2,fn,vs,T,h3,h4,h5⟩:=h;rw[hR.bg n hn]at h2 h3;rw[gy,aga]at h4;simp only[an.aO,agw]at hb;exact⟨hz _ rfl,fun o=>hS _ _ (h2 o),fn,vs,T,h3,h4,fun i u c hu hc=>aE.sI hR (h5 i u (c.aM σ) hu (by rw[gy,agc,hc];rfl)) c rfl (hb c (agj hc))⟩
 |map kv=>
  obtain⟨h1,h2,es,c,h3,h4⟩:=h;rw[hR.bg n hn]at h2 h3;exact⟨hz _ rfl,fun o=>hS _ _ (h2 o),es,c,h3,h4.keep (fun b o h=>(hR.S b o).1 h) (fun _ _ _=>rfl)⟩
 |front e k len=>
  obtain⟨h1,hm,h2⟩:=h;rw[hR.fl n hn]at h1;rw[hR.ow n hn,hR.sg n hn]at h2;refine⟨h1,hm,?_⟩;rcases h2 with⟨h2,A,h3⟩|⟨g,cap,cur,h2,h3,h4,h5,h6,h7,h8,h9⟩
  ·exact .inl ⟨h2,A,h3⟩
  ·exact .inr ⟨g,cap,cur,h2,h3,hz g h2,h5,h6,h7,h8,fun o ho=>hS _ _ (h9 o ho)⟩
 |vec e k cs=>
  rw[an.aM]at h;obtain⟨h1,hm,hk,h2⟩:=h;rw[hR.fl n hn,aga]at h1;rw[aga]at hm;rw[hR.ow n hn,hR.sg n hn,aga]at h2;simp only[an.aO,agw]at hb;refine⟨h1,hm,fun c hc=> ?_,?_⟩
  ·have:=hk _ (List.mem_map.2 ⟨c,hc,rfl⟩)
   rwa [gy,aga]at this
  ·rcases h2 with⟨h2,e2,A,h3⟩|⟨g,cap,cur,h2,h3,h4,h5,h6,h7,h8,h9,aJ⟩
   ·exact .inl ⟨h2,List.map_eq_nil_iff.1 e2,A,h3⟩
   ·refine .inr ⟨g,cap,cur,h2,h3,hz g h2,h5,h6,h7,h8,fun o=>hS _ _ (h9 o),fun i j c x u hc hx hu=> ?_⟩;exact aE.sI hR (aJ i j (AV.eR σ c) (x.aM σ) u (by rw[agc,hc];rfl) (by rw[gy,agc,hx];rfl) hu) x rfl (hb c (agj hc) x (agj hx))
theorem Nc:∀(l:agU Nat)(Bs h:agU an),l.length≤Bs.length→(fY l Bs h).length=h.length+(Bs.length-l.length)
 |[],Bs,h,_=>by simp [fY]
 |j::l,[],h,hl=>by simp at hl
 |j::l,B::Bs,h,hl=>by rw[fY,Nc l Bs _ (by simpa using hl),List.length_set];simp
theorem JJ:∀(l:agU Nat)(Bs h:agU an)(n:Nat),l.length≤Bs.length→n<h.length→n ∉ l→(fY l Bs h)[n]?=h[n]?
 |[],Bs,h,n,_,hn,_=>by rw[fY,agf hn]
 |j::l,[],h,n,hl,_,_=>by simp at hl
 |j::l,B::Bs,h,n,hl,hn,hm=>by
  simp only[agA,not_or]at hm;rw[fY,JJ l Bs _ n (by simpa using hl) (by rw[List.length_set];exact hn) hm.2,agE (Ne.symm hm.1)]
theorem Ue:∀(l:agU Nat)(Bs h:agU an)(i:Nat),l.length≤Bs.length→l.Nodup→(∀j∈l,j<h.length)→i<Bs.length→(fY l Bs h)[rn l h.length i]?=Bs[i]?
 |[],Bs,h,i,_,_,_,hi=>by rw[fY,rn,agm (agL _ _),Nat.add_sub_cancel_left]
 |j::l,[],h,i,hl,_,_,_=>by simp at hl
 |j::l,B::Bs,h,0,hl,hd,aN,_=>by
  rw[List.nodup_cons]at hd;rw[fY,rn,JJ l Bs _ j (by simpa using hl) (by rw[List.length_set];exact aN j (by simp)) hd.1,agz (aN j (by simp))];rfl
 |j::l,B::Bs,h,i+1,hl,hd,aN,hi=>by
  rw[List.nodup_cons]at hd;have:=Ue l Bs (h.set j B) i (by simpa using hl) hd.2 (fun x hx=>by rw[List.length_set];exact aN x (by simp [hx])) (by simpa using hi);rw[List.length_set]at this;rw[fY,rn,this];simp
def uE(l:agU Nat)(base n:Nat):agW Nat:=if n∈l then some (l.idxOf n)else if base≤n then some (l.length+(n-base))else none
theorem Ix{l:agU Nat}{base:Nat}(hd:l.Nodup)(aN:∀j∈l,j<base)(i:Nat):uE l base (rn l base i)=some i:=by
 unfold uE;by_cases hi:i<l.length
 ·have e:l[i]?=some l[i]:=af9 hi;rw[xf l base i _ e,if_pos (List.getElem_mem _),List.Nodup.idxOf_getElem hd i hi]
 ·rw[Gw l base i (by omega),if_neg (fun h=>by have:=aN _ h;omega),if_pos (agL _ _)]
  congr 1;omega
theorem Hd{l:agU Nat}{base n i:Nat}(h:uE l base n=some i):rn l base i=n:=by
 unfold uE at h;split at h
 ·rename_i hm
  cases h
  have aN:=List.idxOf_lt_length_of_mem hm;refine xf l base _ n ?_;rw[af9 aN,List.getElem_idxOf]
 ·split at h
  ·cases h
   rw[Gw _ _ _ (by omega)];omega
  ·cases h
theorem V6{l:agU Nat}{base n:Nat}(h:uE l base n=none):n<base∧n ∉ l:=by
 unfold uE at h;split at h
 ·cases h
 ·split at h
  ·cases h
  ·rename_i h1 h2;exact⟨by omega,h1⟩
def qq{α:Type}(o:agW Nat)(f:Nat→α)(d:α):α:=match o with|some i=>f i|none=>d
theorem T7{H:agU an}{l:agU Nat}{h:agU an}
 (hd:l.Nodup) (aN:∀j∈l,j<h.length) (hH:∀(i j:Nat),l[i]?=some j→h[j]?=(H[i]?).map (an.aM (rn l h.length))) (hk:l.length=H.length)
 (hb:H.all (an.aO H.length)=true) {G:Gh} {w:agZ} (hi:bO G w h):
 ∃G0:Gh,G0.N=H.length∧bO G0 w H∧nY (rn l h.length) G0 G∧∀(G1:Gh)(w':agZ)(H':agU an),bK H.length G0 w G1 w'→H.length≤G1.N→bO G1 w' H'→
  ∃G2:Gh,bK G.N G w G2 w'∧G.N≤G2.N∧bO G2 w' (fY l (H'.map (an.aM (rn l h.length))) h)∧nY (rn l h.length) G1 G2:=by
 obtain⟨σ,hσ⟩:∃σ,σ=rn l h.length:=⟨_,rfl⟩;rw[←hσ]at hH ⊢;have Da:h.length=G.N:=hi.len;obtain⟨own,dL⟩:∃own:Nat→Prop,own=fun b=>∃j∈l,bR h G j=some b:=⟨_,rfl⟩;obtain⟨G0,jy⟩:∃G0:Gh,G0={N:=H.length,Z:=fun b=>b<w.heap.size∧¬own b,S:=G.S,bg:=fun i=>G.bg (σ i),sg:=fun i=>G.sg (σ i),ow:=fun i=>G.ow (σ i),fl:=fun i=>G.fl (σ i),M:=G.M}:=⟨_,rfl⟩;have EI:∀i,i<H.length→∃j,l[i]?=some j∧σ i=j∧j∈l:=fun i dw=>by
  have hX:i<l.length:=by rw[hk];exact dw
  exact⟨l[i],af9 hX,by rw[hσ];exact xf l _ i _ (af9 hX),List.getElem_mem _⟩
 have o9:nY σ G0 G:=by
  subst jy;refine⟨fun n hn=> ?_,fun _ _=>rfl,fun _ _=>rfl,fun _ _=>rfl,fun _ _=>rfl,fun _ _=>Iff.rfl⟩;obtain⟨j,_,e,hj⟩:=EI n hn;rw[e,←Da];exact aN j hj
 have cA:G0.N=H.length:=by rw[jy]
 have RY:∀(i:Nat)(B:an),H[i]?=some B→h[σ i]?=some (B.aM σ):=fun i B hB=>by
  obtain⟨j,e1,e2,_⟩:=EI i (af5.1 hB).1;rw[e2,hH i j e1,hB];rfl
 have LR:∀(i:Nat)(B:an)(b:Nat),H[i]?=some B→B.dU G0 i=some b→bR h G (σ i)=some b:=fun i B b hB fG=>by
  rw[dC (RY i B hB),Js o9 (by rw[cA];exact(af5.1 hB).1) B];exact fG
 have uS:∀(i:Nat)(B:an)(b:Nat),H[i]?=some B→B.dU G0 i=some b→¬G0.Z b:=fun i B b hB fG hz=>by
  rw[jy]at hz;refine hz.2 ?_;rw[dL];obtain⟨j,_,e2,hj⟩:=EI i (af5.1 hB).1;exact⟨j,hj,by rw[←e2];exact LR i B b hB fG⟩
 have abJ:∀i i',σ i=σ i'→i=i':=fun i i' e=>by
  have h1:=Ix hd aN i;have h2:=Ix hd aN i';rw[hσ]at e;rw[e,h2]at h1;exact(agp h1).symm
 have qb:bO G0 w H:=by
  refine⟨cA.symm,fun b hz=> ?_,fun b o hs=> ?_,fun i B hB=> ?_,fun m n b h1 h2=> ?_,by rw[jy];exact hi.gl⟩
  ·rw[jy]at hz;exact hz.1
  ·rw[jy]at hs;exact hi.S b o hs
  ·have XZ:i<G0.N:=by rw[cA];exact(af5.1 hB).1
   rw[agw]at hb;exact dY.sI o9 XZ (by rw[cA];exact hb B (agj hB)) (fun b fG=>uS i B b hB fG) (hi.dh (σ i) _ (RY i B hB))
  ·obtain⟨B1,n4,hb1⟩:=j7 h1;obtain⟨B2,Ji,jt⟩:=j7 h2;exact abJ m n (hi.inj _ _ b (LR m B1 b n4 hb1) (LR n B2 b Ji jt))
 refine⟨G0,cA,qb,o9,fun G1 w' H' hE fE iz=> ?_⟩;have Aj:H'.length=G1.N:=iz.len;obtain⟨ps,yV⟩:∃ps,ps=uE l h.length:=⟨_,rfl⟩;obtain⟨G2,gz⟩:∃G2:Gh,G2={N:=G.N+(G1.N-H.length),Z:=G.Z,S:=G1.S,bg:=fun n=>qq (ps n) G1.bg (G.bg n),sg:=fun n=>qq (ps n) G1.sg (G.sg n),ow:=fun n=>qq (ps n) G1.ow (G.ow n),fl:=fun n=>qq (ps n) G1.fl (G.fl n),M:=G.M}:=⟨_,rfl⟩;have Dk:∀i,ps (σ i)=some i:=fun i=>by rw[yV,hσ];exact Ix hd aN i
 have D4:∀i,H.length≤i→σ i=G.N+(i-H.length):=fun i jg=>by rw[hσ,Gw l _ i (by omega),Da,hk]
 have acj:∀i,i<H.length→σ i<G.N:=fun i F6=>by
  obtain⟨j,_,e,hj⟩:=EI i F6;rw[e,←Da];exact aN j hj
 have Lk:nY σ G1 G2:=by
  subst gz;refine⟨fun n hn=> ?_,fun n _=>by simp only[Dk];rfl,fun n _=>by simp only[Dk];rfl,fun n _=>by simp only[Dk];rfl,fun n _=>by simp only[Dk];rfl,fun _ _=>Iff.rfl⟩;show σ n<G.N+(G1.N-H.length);by_cases eD:n<H.length
  ·have:=acj n eD;omega
  ·rw[D4 n (by omega)];omega
 have O3:∀b,G0.Z b→G1.Z b:=hE.Z.1.1;have Hq:∀b,G.Z b→G0.Z b:=fun b hz=>by
  rw[jy];refine⟨hi.z b hz,fun ho=> ?_⟩;rw[dL]at ho;obtain⟨j,_,ho⟩:=ho;obtain⟨B,hB,fG⟩:=j7 ho;exact(hi.dh j B hB).kD fG hz
 have jB:bK G.N G w G2 w':=by
  refine⟨hE.size,fun b o hs=> ?_,fun b o hs=> ?_,fun n hn=> ?_,fun n hn=> ?_,fM (by rw[gz]) (by rw[gz]),fun b hz=>hE.old b (Hq b hz),hE.os,hE.tape,hE.output,fun b o hs=> ?_⟩
  ·rw[gz];exact hE.S b o (by rw[jy];exact hs)
  ·exact hE.cell b o (by rw[jy];exact hs)
  ·rw[gz];show qq (ps n) G1.bg (G.bg n)=G.bg n;cases hp:ps n with
   |none=>rfl
   |some i=>
    have e:σ i=n:=by rw[hσ];rw[yV]at hp;exact Hd hp
    have dw:i<H.length:=Nat.lt_of_not_le fun jg=>by rw[D4 i jg]at e;omega
    show G1.bg i=G.bg n;rw[hE.bg i dw,jy,←e]
  ·rw[gz];show(qq (ps n) G1.fl (G.fl n)=G.fl n∧qq (ps n) G1.sg (G.sg n)=G.sg n)∨G.fl n<qq (ps n) G1.fl (G.fl n);cases hp:ps n with
   |none=>exact .inl ⟨rfl,rfl⟩
   |some i=>
    have e:σ i=n:=by rw[hσ];rw[yV]at hp;exact Hd hp
    have dw:i<H.length:=Nat.lt_of_not_le fun jg=>by rw[D4 i jg]at e;omega
    have:=hE.fr i dw;rw[jy]at this;simp only[e]at this;exact this
  ·rw[gz]at hs;rcases hE.new b o hs with h1|h1
   ·rw[jy]at h1;exact .inl h1
   ·exact .inr fun hz=>h1 (Hq b hz)
 have hlen:(fY l (H'.map (an.aM σ)) h).length=G2.N:=by
  rw[Nc _ _ _ (by rw[aga,hk,Aj];omega),aga,Aj,hk,Da,gz]
 have acS:∀i,i<G1.N→(fY l (H'.map (an.aM σ)) h)[σ i]?=(H'[i]?).map (an.aM σ):=fun i dw=>by
  rw[←agc,hσ];exact Ue l _ h i (by rw[aga,hk,Aj];omega) hd aN (by rw[aga,Aj];exact dw)
 have Gb:∀(n:Nat)(B:an),(fY l (H'.map (an.aM σ)) h)[n]?=some B→(∃i B',i<G1.N∧n=σ i∧H'[i]?=some B'∧B=B'.aM σ)∨(ps n=none∧n ∉ l∧h[n]?=some B):=fun n B hB=>by
  have SL:n<G2.N:=by rw[←hlen];exact(af5.1 hB).1
  cases hp:ps n with
  |none=>
   rw[yV]at hp;obtain⟨h1,h2⟩:=V6 hp;exact .inr ⟨rfl,h2,by rw[←JJ l (H'.map (an.aM σ)) h n (by rw[aga,hk,Aj];omega) h1 h2];exact hB⟩
  |some i=>
   have e:σ i=n:=by rw[hσ];rw[yV]at hp;exact Hd hp
   have dw:i<G1.N:=Nat.lt_of_not_le fun jg=>by
    rw[D4 i (by omega)]at e;rw[gz]at SL;have:n<G.N+(G1.N-H.length):=SL;omega
   rw[←e,acS i dw]at hB;cases hx:H'[i]? with
   |none=>rw[hx]at hB;cases hB
   |some B'=>rw[hx]at hB;cases hB;exact .inl ⟨i,B',dw,e.symm,hx,rfl⟩
 have hold:∀(n b:Nat),n ∉ l→bR h G n=some b→G0.Z b:=fun n b hn fG=>by
  rw[jy];refine⟨hi.iC fG,fun ho=> ?_⟩;rw[dL]at ho;obtain⟨j,hj,ho⟩:=ho;exact hn ((hi.inj n j b fG ho)▸hj)
 have Af:∀(n b:Nat),bR (fY l (H'.map (an.aM σ)) h) G2 n=some b→(∃i,n=σ i∧bR H' G1 i=some b∧¬G0.Z b)∨(n ∉ l∧bR h G n=some b∧G0.Z b):=fun n b fG=>by
  obtain⟨B,hB,hb1⟩:=j7 fG;rcases Gb n B hB with⟨i,B',dw,rfl,ee,rfl⟩|⟨hp,hn,ee⟩
  ·rw[Js Lk dw]at hb1;exact .inl ⟨i,rfl,(dC ee).trans hb1,fun hz=>(iz.dh i B' ee).kD hb1 (O3 _ hz)⟩
  ·have e:B.dU G2 n=B.dU G n:=by
    subst gz;cases B<;>simp only[an.dU,hp,qq]
   have:=(dC ee).trans (e▸hb1);exact .inr ⟨hn,this,hold n b hn this⟩
 refine⟨G2,jB,by rw[gz];exact agL _ _,⟨hlen,fun b hz=> ?_,fun b o hs=> ?_,fun n B hB=> ?_,fun m n b h1 h2=> ?_,hi.gl.keep jB⟩,Lk⟩
 ·rw[gz]at hz;exact agu (hi.z b hz) hE.size
 ·rw[gz]at hs;exact iz.S b o hs
 ·rcases Gb n B hB with⟨i,B',dw,rfl,ee,rfl⟩|⟨hp,hn,ee⟩
  ·refine dY.aM Lk dw (fun b fG hz=> ?_) (iz.dh i B' ee);have:=(iz.dh i B' ee).kD fG;rw[gz]at hz;exact this (O3 b (Hq b hz))
  ·have mm:n<G.N:=by rw[←hi.len];exact(af5.1 ee).1
   refine dY.keep mm jB (by rw[gz];exact agL _ _) (by rw[gz];simp only[hp];exact⟨rfl,rfl,rfl⟩) (fun b fG=> ?_) (hi.dh n B ee);have hz:=hold n b hn ((dC ee).trans fG);refine⟨hE.old b hz,fun o jK hs=> ?_⟩;rw[gz]at hs;rcases hE.new b o hs with h1|h1
   ·rw[jy]at h1;exact jK h1
   ·exact h1 hz
 ·rcases Af m b h1 with⟨i,rfl,a1,a2⟩|⟨a0,a1,a2⟩<;>rcases Af n b h2 with⟨j,rfl,b1,b2⟩|⟨b0,b1,b2⟩
  ·rw[iz.inj i j b a1 b1]
  ·exact absurd b2 a2
  ·exact absurd a2 b2
  ·exact hi.inj m n b a1 b1
theorem bD.PN{P:agX}{f:FuncId}{args:agU AV}{H:agU an}{K:AV→agU an→Prop}(hc:bD P f args H K){l:agU Nat}{h:agU an}
 (hd:l.Nodup) (aN:∀j∈l,j<h.length) (hH:∀(i j:Nat),l[i]?=some j→h[j]?=(H[i]?).map (an.aM (rn l h.length))) (hk:l.length=H.length)
 (ha:args.all (AV.aO H.length)=true) (hb:H.all (an.aO H.length)=true):
 bD P f (args.map (AV.aM (rn l h.length))) h fun r' h'=>∃r H',K r H'∧r'=r.aM (rn l h.length)∧h'=fY l (H'.map (an.aM (rn l h.length))) h:=by
 refine⟨hc.1,fun G w vs hi sY hvr=> ?_⟩;obtain⟨G0,cA,qb,o9,Li⟩:=T7 hd aN hH hk hb hi;refine(hc.2 G0 w vs qb (by rw[sY,aga]) fun i u c hu hx=> ?_).mono fun e w' hp=> ?_
 ·rw[agw]at ha;exact aE.sI o9 (hvr i u (c.aM (rn l h.length)) hu (by rw[agc,hx];rfl)) c rfl (by rw[cA];exact ha c (agj hx))
 ·obtain⟨v,G1,r,H',rfl,hE,fE,iz,hv,hK⟩:=hp;rw[cA]at fE hE;obtain⟨G2,e1,e2,e3,e4⟩:=Li G1 w' H' hE fE iz;exact⟨v,G2,r.aM _,_,rfl,e1,e2,e3,hv.aM e4,r,H',hK,rfl,rfl⟩
mutual
theorem u5{σ τ:Nat→Nat}{k:Nat}(h:∀i,i<k→σ i=τ i):∀x:AV,x.aO k=true→x.aM σ=x.aM τ
 | .ptr n off,hb=>by rw[AV.aO]at hb;rw[AV.aM,AV.aM,h n (by rw[Bool.not_eq_true',←Bool.not_eq_true,dA]at hb;omega)]
 | .own n xs,hb=>by rw[AV.aO]at hb;rw[AV.aM,AV.aM,h n (by rw[Bool.not_eq_true',←Bool.not_eq_true,dA]at hb;omega)]
 | .row n off len cap q,hb=>by rw[AV.aO]at hb;rw[AV.aM,AV.aM,h n (by rw[Bool.not_eq_true',←Bool.not_eq_true,dA]at hb;omega)]
 | .mp n,hb=>by rw[AV.aO]at hb;rw[AV.aM,AV.aM,h n (by rw[Bool.not_eq_true',←Bool.not_eq_true,dA]at hb;omega)]
 | .c7 n,hb=>by rw[AV.aO]at hb;rw[AV.aM,AV.aM,h n (by rw[Bool.not_eq_true',←Bool.not_eq_true,dA]at hb;omega)]
 | .vec n o len L q,hb=>by rw[AV.aO]at hb;rw[AV.aM,AV.aM,h n (by rw[Bool.not_eq_true',←Bool.not_eq_true,dA]at hb;omega)]
 | .de n i j L q,hb=>by rw[AV.aO]at hb;rw[AV.aM,AV.aM,h n (by rw[Bool.not_eq_true',←Bool.not_eq_true,dA]at hb;omega)]
 | .agg cs,hb=>by rw[AV.aO]at hb;rw[AV.aM,AV.aM,qN h cs hb]
 | .bU cs,hb=>by rw[AV.aO]at hb;rw[AV.aM,AV.aM,qN h cs hb]
 | .fn f cs,hb=>by rw[AV.aO]at hb;rw[AV.aM,AV.aM,qN h cs hb]
 | .d x,_=>by rw[AV.aM,AV.aM]
 | .aW xs i off,_=>by rw[AV.aM,AV.aM]
 | .full xs,_=>by rw[AV.aM,AV.aM]
 | .hid c,_=>by rw[AV.aM,AV.aM]
 | .dead,_=>by rw[AV.aM,AV.aM]
theorem qN{σ τ:Nat→Nat}{k:Nat}(h:∀i,i<k→σ i=τ i):∀l:agU AV,AV.lP k l=true→AV.eR σ l=AV.eR τ l
 |[],_=>by rw[AV.eR,AV.eR]
 |x::l,hb=>by
  rw[AV.lP,af7]at hb;rw[AV.eR,AV.eR,u5 h x hb.1,qN h l hb.2]
end
theorem Kh{σ τ:Nat→Nat}{k:Nat}(h:∀i,i<k→σ i=τ i)(B:an)(hb:B.aO k=true):B.aM σ=B.aM τ:=by
 cases B with
 |cells cs=>rw[an.aM,an.aM,qN h cs (by rw[lE];exact hb)]
 |lp ls p as bd cs=>rw[an.aM,an.aM,qN h cs (by rw[lE];exact hb)]
 |it sn cs=>rw[an.aM,an.aM,qN h cs (by rw[lE];exact hb)]
 |vec e q cs=>
  rw[an.aM,an.aM]
  congr 1
  refine agB fun c hc=>qN h c ?_;simp only[an.aO,agw]at hb;rw[lE,agw];exact hb c hc
 |_=>rfl
theorem RS:∀(l:agU Nat)(b c i:Nat),i<l.length→rn l b i=rn l c i
 |[],b,c,i,h=>by simp at h
 |a::l,b,c,0,_=>by rw[rn,rn]
 |a::l,b,c,i+1,h=>by rw[rn,rn];exact RS l b c i (by simpa using h)
def sb:agU Nat→Bool
 |[]=>true
 |a::l=> !l.any (·==a)&&sb l
theorem Ni:∀{l:agU Nat},sb l=true→l.Nodup
 |[],_=>List.nodup_nil
 |a::l,h=>by
  rw[sb,af7,Bool.not_eq_true',←Bool.not_eq_true]at h;rw[List.nodup_cons];exact⟨fun hm=>h.1 (List.any_eq_true.2 ⟨a,hm,by simp⟩),Ni h.2⟩
theorem M9:∀(l:agU Nat)(h Bs:agU an),l.map (fun j=>h[j]?)=Bs.map some→fY l Bs h=h
 |[],h,Bs,e=>by
  cases Bs with
  |nil=>rw[fY,agr]
  |cons=>simp at e
 |j::l,h,Bs,e=>by
  cases Bs with
  |nil=>simp at e
  |cons B Bs=>
   rw[agv,agv]at e;injection e with e1 e2;have hs:h.set j B=h:=by
     refine List.ext_getElem? fun m=> ?_;by_cases em:j=m
     ·subst em;rw[agz (af5.1 e1).1,e1]
     ·rw[agE em]
   rw[fY,hs];exact M9 l h Bs e2
section
variable {P:agX} {f:FuncId} {fc:agU AV} {H:agU an} {l:agU Nat} {h:agU an}
theorem RU{l:agU Nat}{h H:agU an}{σ:Nat→Nat}(hb:l.map (fun j=>h[j]?)=H.map fun B=>some (B.aM σ)):l.length=H.length∧(∀j∈l,j<h.length)∧∀(i j:Nat),l[i]?=some j→h[j]?=(H[i]?).map (an.aM σ):=by
 have h1:l.length=H.length:=by simpa using congrArg List.length hb
 have key:∀(i j:Nat),l[i]?=some j→∃B,H[i]?=some B∧h[j]?=some (B.aM σ):=fun i j e=>by
  have aN:i<H.length:=by rw[←h1];exact(af5.1 e).1
  have:=congrArg (·[i]?) hb;simp only[agc,e,af9 aN,Option.map_some,Option.some.injEq]at this;exact⟨_,af9 aN,this⟩
 refine⟨h1,fun j hj=> ?_,fun i j e=> ?_⟩
 ·obtain⟨i,hi⟩:=List.mem_iff_getElem?.1 hj;obtain⟨B,_,h2⟩:=key i j hi;exact(af5.1 h2).1
 ·obtain⟨B,h2,h3⟩:=key i j e;rw[h2,h3];rfl
theorem bD.iN{r:AV}{H':agU an}(hc:bD P f fc H fun r1 h1=>r1=r∧h1=H')(hd:sb l=true)(hb:l.map (fun j=>h[j]?)=H.map fun B=>some (B.aM (rn l h.length)))(hl:(fc.all (AV.aO H.length)&&H.all (an.aO H.length))=true):
 bD P f (fc.map (AV.aM (rn l h.length))) h fun r1 h1=>r1=r.aM (rn l h.length)∧h1=fY l (H'.map (an.aM (rn l h.length))) h:=by
 rw[af7]at hl;obtain⟨h1,h2,h3⟩:=RU hb;exact(hc.PN (Ni hd) h2 h3 h1 hl.1 hl.2).mono fun r1 h1 ⟨r2,H2,⟨e1,e2⟩,e3,e4⟩=>by subst e1;subst e2;exact⟨e3,e4⟩
theorem bD.rq{r:AV}(hc:bD P f fc H fun r1 h1=>r1=r∧h1=H)(hd:sb l=true)(hb:l.map (fun j=>h[j]?)=H.map fun B=>some (B.aM (rn l 0)))(hl:(fc.all (AV.aO H.length)&&H.all (an.aO H.length)&&r.aO H.length)=true)(e:agU an):
 bD P f (fc.map (AV.aM (rn l 0))) (h++e) fun r1 h1=>r1=r.aM (rn l 0)∧h1=h++e:=by
 rw[af7,af7]at hl;obtain⟨⟨l1,l2⟩,l3⟩:=hl;obtain⟨h1,h2,_⟩:=RU hb;have Ml:∀i,i<H.length→rn l (h++e).length i=rn l 0 i:=fun i hi=>RS l _ _ i (by rw[h1];exact hi);have hb1:H.map (fun B=>some (B.aM (rn l (h++e).length)))=H.map fun B=>some (B.aM (rn l 0)):=by
   refine agB fun B hB=> ?_;rw[agw]at l2;rw[Kh Ml B (l2 B hB)]
 have jt:l.map (fun j=>(h++e)[j]?)=H.map fun B=>some (B.aM (rn l (h++e).length)):=by
  rw[hb1,←hb];refine agB fun j hj=> ?_;rw[agf (h2 j hj)]
 have:=hc.iN hd jt (by rw[l1,l2];rfl);have ha:fc.map (AV.aM (rn l (h++e).length))=fc.map (AV.aM (rn l 0)):=by
  refine agB fun x hx=> ?_;rw[agw]at l1;exact u5 Ml x (l1 x hx)
 rw[ha,u5 Ml r l3]at this;refine this.mono fun r1 h1 ⟨e1,e2⟩=>⟨e1,?_⟩;rw[e2];refine M9 l _ _ ?_;rw[jt,List.map_map];rfl
end
end Go.Proofs.YtphmhnabilhbgaaGreatDoor
namespace Go.Proofs.YtphmhnabilhbgaaGreatDoor
open Go.RowKit
def an.vd:an→Prop
 | .vec _ _ cs=>(∀f,cs.map (AV.eR f)=cs)∧∀m,cs.all (·.all (AV.aO m))=true
 |_=>True
theorem Z7(f:Nat→Nat)(c:agU D):AV.eR f (c.map AV.d)=c.map AV.d:=by
 induction c with
 |nil=>simp [AV.eR]
 |cons x c ih=>simp only[agv,AV.eR,AV.aM,ih]
theorem J4(xs:agU (agU D)):(∀f,(aI xs).map (AV.eR f)=aI xs)∧∀m,(aI xs).all (·.all (AV.aO m))=true:=by
 refine⟨fun f=> ?_,fun m=>by simp [aI,AV.aO]⟩;unfold aI;rw[List.map_map];exact agB fun c _=>Z7 f c
theorem Um(k:Nat):(∀f,AV.eR f (List.replicate k .dead)=List.replicate k .dead)∧∀m,(List.replicate k AV.dead).all (AV.aO m)=true:=by
 refine⟨fun f=> ?_,fun m=>by simp [AV.aO]⟩
 induction k with
 |zero=>simp [AV.eR]
 |succ k ih=>simp only[List.replicate_succ,AV.eR,AV.aM,ih]
def VD:agU an→Prop
 |[]=>True
 |B::l=>B.vd∧VD l
theorem ij:VD []:=trivial
theorem lv{e k:Nat}{xs:agU (agU D)}{l:agU an}(h:VD l):VD (.vec e k (aI xs)::l):=⟨J4 xs,h⟩
theorem XN{e k q:Nat}{xs:agU (agU D)}{l:agU an}(h:VD l):VD (.vec e k (aI xs++[List.replicate q .dead])::l):=
 ⟨⟨fun f=>by rw[List.map_append,(J4 xs).1 f,agv,(Um q).1 f];rfl,fun m=>by rw[List.all_append,(J4 xs).2 m,agQ,(Um q).2 m];rfl⟩,h⟩
theorem VD.mem:∀{l:agU an},VD l→∀B∈l,B.vd
 |[],_,B,hB=>by cases hB
 |_::_,h,B,hB=>by
  rcases agA.1 hB with rfl|hB
  ·exact h.1
  ·exact VD.mem h.2 B hB
def an.o0(f:Nat→Nat):an→an
 | .vec e k cs=> .vec e k cs
 |B=>B.aM f
theorem MG{f:Nat→Nat}{B:an}(h:B.vd):B.o0 f=B.aM f:=by
 cases B with
 |vec e k cs=>simp only[an.o0,an.aM];rw[h.1 f]
 |_=>rfl
theorem Yf{f:Nat→Nat}{l:agU an}(h:VD l):l.map (an.o0 f)=l.map (an.aM f):=agB fun B hB=>MG (h.mem B hB)
def an.u6(m:Nat):an→Bool
 | .vec .. =>true
 |B=>B.aO m
theorem VZ{m:Nat}{B:an}(h:B.vd)(hl:B.u6 m=true):B.aO m=true:=by
 cases B with
 |vec e k cs=>exact h.2 m
 |_=>exact hl
theorem abk{m:Nat}{l:agU an}(h:VD l)(hl:l.all (an.u6 m)=true):l.all (an.aO m)=true:=by
 rw[agw]at hl ⊢;exact fun B hB=>VZ (h.mem B hB) (hl B hB)
theorem adr{f:Nat→Nat}{l:agU an}(h:VD l):(l.map fun B=>some (B.o0 f))=l.map fun B=>some (B.aM f):=agB fun B hB=>congrArg some (MG (h.mem B hB))
inductive In
 |none
 |bit (x:AV)
 |eq (x:AV)
 |el (xs:List (List D)) (i:Int)
 |lt (z:Int) (n:Nat)
 |len (xs:List (List D))
 |sub (xs:List (List D)) (lo:Int) (hi:Option Int) (k:Nat)
 |app (xs ys:List (List D)) (len k dc:Nat)
 |nz (b:Int)
 |nn (b:Int)
 |str (b:ByteArray) (lo hi:Int)
 |cat (n:Nat)
 |pr (p:Prop)
 |sd (p:Sd)
 |E6 (xs:List (List D))
 |EV (c:List D) (z:Int) (n:Nat)
 |ch (b:ByteArray) (i:Int)
 |call (f:FuncId) (args:List AV)
 |je (f:FuncId) (args:List AV) (h:List an)
 |BI (c:gC) (args:List AV)
 |iN (f:FuncId) (args:List AV) (h:List an)
def Lt(P:agX)(c:gC)(args:agU AV)(r:AV):Prop:=∃g cs,c= .fn g cs∧bA P g (args++cs.map gC.av) (·=r)
inductive b5
 |none
 |bit (b:Bool)
 |yH
 |eq (y:AV)
 |el (c:List D)
 |ok
 |nat (n:Nat)
 |list (ys:List (List D))
 |NR (ys:List (List D)) (n:Nat)
 |byte (c:UInt8)
 |bytes (s:ByteArray)
 |one (d:D)
 |va (a:VA)
 |ret (r:AV)
 |Kn (r:AV) (h:List an)
 |Hj (l:List Nat) (fc:List AV) (H:List an) (r:AV) (H':List an)
 |rq (l:List Nat) (fc:List AV) (H:List an) (r:AV)
 |zq (l:List Nat) (fc:List AV) (H:List an) (r:AV) (H':List an)
inductive OK(P:Program):In→b5→Prop
 |none {o:b5}:OK P .none o
 |bit {e b:Bool} (h:e=b):OK P (.bit (.d (.v (.bool e)))) (.bit b)
 |yH:OK P (.bit (.d (.v undef))) .yH
 |eq {x y:AV} (h:x=y):OK P (.eq x) (.eq y)
 |el {xs:List (List D)} {i:Int} {c:List D} (h0:0≤i) (h:xs[i.toNat]?=some c):OK P (.el xs i) (.el c)
 |lt {z:Int} {n:Nat} (h0:0≤z) (h:z<n):OK P (.lt z n) .ok
 |len {xs:List (List D)} {n:Nat} (h:xs.length=n):OK P (.len xs) (.nat n)
 |sub {xs ys:List (List D)} {lo hi:Int} {k:Nat} (h0:0≤lo) (h1:lo.toNat≤hi.toNat) (h2:0≤hi) (h3:hi.toNat≤xs.length) (hk:∀c∈xs,c.length=k) (h:(xs.take hi.toNat).drop lo.toNat=ys):OK P (.sub xs lo (some hi) k) (.list ys)
 |BJ {xs ys:List (List D)} {lo:Int} {k:Nat} (h0:0≤lo) (h1:lo.toNat≤xs.length) (hk:∀c∈xs,c.length=k) (h:xs.drop lo.toNat=ys):OK P (.sub xs lo .none k) (.list ys)
 |app {xs ys zs:List (List D)} {len k dc n:Nat} (hl:len=xs.length) (hx:∀c∈xs,c.length=k) (hy:∀c∈ys,c.length=k) (hm:xs.length+ys.length≤maxLen) (hb:(xs.length+ys.length)*dc≤140737488355328) (hz:xs++ys=zs) (hn:xs.length+ys.length=n):OK P (.app xs ys len k dc) (.NR zs n)
 |nz {b:Int} (h:b≠0):OK P (.nz b) .ok
 |nn {b:Int} (h:0≤b):OK P (.nn b) .ok
 |str {b:ByteArray} {lo hi:Int} (h0:0≤lo) (h1:lo.toNat≤hi.toNat) (h2:0≤hi) (h3:hi.toNat≤b.size):OK P (.str b lo hi) .ok
 |ch {b:ByteArray} {i:Int} {c:UInt8} (h0:0≤i) (h:b[i.toNat]?=some c):OK P (.ch b i) (.byte c)
 |cat {n:Nat} (h:n≤maxLen):OK P (.cat n) .ok
 |pr {p:Prop} (a:VA) (h:p):OK P (.pr p) (.va a)
 |sd {p:Sd} {o:b5} (h:p.ok):OK P (.sd p) o
 |E6 {xs:List (List D)} {s:ByteArray} (h:∃ns:List Int,xs=ns.map (fun n=>[.v (.int .u8 n)])∧s=⟨(ns.map fun n=>UInt8.ofNat n.toNat).toArray⟩):OK P (.E6 xs) (.bytes s)
 |EV {c:List D} {z:Int} {n:Nat} {d:D} (h0:0≤z) (h1:z<n) (h:c[z.toNat]?=some d):OK P (.EV c z n) (.one d)
 |call {f:FuncId} {args:List AV} {r:AV} (h:bA P f args (·=r)):OK P (.call f args) (.ret r)
 |BI {c:gC} {args:List AV} {r:AV} (h:Lt P c args r):OK P (.BI c args) (.ret r)
 |iN {f:FuncId} {cb fc:List AV} {h H H':List an} {l:List Nat} {r:AV} (ha:cb=fc.map (AV.aM (rn l h.length))) (hd:sb l=true) (hb:l.map (fun j=>h[j]?)=H.map fun B=>some (B.aM (rn l h.length))) (hl:(fc.all (AV.aO H.length)&&H.all (an.aO H.length))=true)
  (hc:bD P f fc H fun r1 h1=>r1=r∧h1=H'):OK P (.iN f cb h) (.Hj l fc H r H')
 |lT {f:FuncId} {cb fc:List AV} {h H H':List an} {l:List Nat} {r:AV} (sF:VD H) (hv:VD H') (ha:cb=fc.map (AV.aM (rn l h.length))) (hd:sb l=true) (hb:l.map (fun j=>h[j]?)=H.map fun B=>some (B.o0 (rn l h.length))) (hl:(fc.all (AV.aO H.length)&&H.all (an.u6 H.length))=true)
  (hc:bD P f fc H fun r1 h1=>r1=r∧h1=H'):OK P (.iN f cb h) (.zq l fc H r H')
 |rq {f:FuncId} {cb fc:List AV} {h H:List an} {l:List Nat} {r:AV} (ha:cb=fc.map (AV.aM (rn l 0))) (hd:sb l=true) (hb:l.map (fun j=>h[j]?)=H.map fun B=>some (B.aM (rn l 0))) (hl:(fc.all (AV.aO H.length)&&H.all (an.aO H.length)&&r.aO H.length)=true)
    (hc:bD P f fc H fun r1 h1=>r1=r∧h1=H):OK P (.iN f cb h) (.rq l fc H r)
 |je {f:FuncId} {args:List AV} {h h':List an} {r:AV} (hc:bD P f args h fun r1 h1=>r1=r∧h1=h'):OK P (.je f args h) (.Kn r h')
def xr(P:agX)(t:TypeId)(cs:agU AV)(off:Nat):agW AV:=
 match kE P t,fh P t with
 |some true,some k=>bif b8 (off+k) cs.length then some (.agg ((cs.drop off).take k))else none
 |some false,some _=>cs[off]?
 |_,_=>none
def tE(h:agU an)(p:AV):agW (agU AV×Nat):=
 match p with
 | .ptr n off=>match h[n]? with
   |some (.cells cs)=>some (cs,off)
   |_=>none
 | .aW xs i off=>match xs[i]? with
   |some c=>some (c.map .d,off)
   |none=>none
 |_=>none
def JF(x:AV)(i:agW Int)(k:Nat)(a:b5):agW (AV×In):=
 match x.fw,i,a with
 |some xs,some z, .el c=>bif c.length==k then some (.aW [c] 0 0, .el xs z)else none
 |_,_,_=>none
def KQ(P:agX)(T:TypeId)(x i:AV)(a:b5):agW (AV×In):=
 match ej P T with
 |some (_,k)=>
  match x with
  | .row n off len _ k'=>match i.int? with
    |some z=>bif k'==k then some (.ptr n (off+z.toNat*k), .lt z len)else none
    |none=>none
  |x=>JF x i.int? k a
 |none=>match sy P T,x,i.int? with
  |some (n,_,k), .ptr b off,some z=>some (.ptr b (off+z.toNat*k), .lt z n)
  |some (n,_,k), .aW [c] 0 0,some z=>match a with
   | .one d=>bif k==1 then some (.aW [[d]] 0 0, .EV c z n)else none
   |_=>none
  |_,_,_=>none
def KM(P:agX)(T:TypeId)(x:AV)(a:b5):agW (AV×In):=
 match x with
 | .d (.v (.string s))=>bif gg P T then some (.d (.v (.int .i64 s.size)), .none)else none
 | .row _ _ len _ _=>bif (ej P T).isSome then some (.d (.v (.int .i64 len)), .none)else none
 |x=>match x.fw,a with
  |some xs, .nat n=>bif (ej P T).isSome then some (.d (.v (.int .i64 n)), .len xs)else none
  |_,_=>none
def oN(l:agW Int)(d:Nat):Nat:=match l with|some z=>z.toNat|none=>d
def zL(ρ:Operand→AV):agW Operand→agW (agW Int)
 |none=>some none
 |some y=>match (ρ y).int? with
  |some z=>some (some z)
  |none=>none
def Lu(P:agX)(T:TypeId)(ρ:Operand→AV)(x:AV)(lo hi mx:agW Operand)(a:b5):agW (AV×In):=
 match mx with
 |none=>match zL ρ lo,zL ρ hi with
  |some l,some h=>match x with
   | .d (.v (.string b))=>bif gg P T then some (.d (.v (.string (b.extract (oN l 0) (oN h b.size)))), .str b (l.getD 0) (h.getD b.size))else none
   | .ptr n off=>match sy P T,l,h with
     |some (m,_,k),none,none=>bif b8 m 4096&& !b8 m 0 then some (.row n off m m k, .none)else none
     |_,_,_=>none
   |x=>match x.fw,ej P T,a with
    |some xs,some (_,k), .list ys=>some (.d (.sl ys), .sub xs (l.getD 0) h k)
    |_,_,_=>none
  |_,_=>none
 |some m=>match lo,hi,ρ m with
  |none,some y, .d (.v (.int _ 0))=>match x.fw,ej P T,ρ y,a with
   |some xs,some (_,k), .d (.v (.int _ 0)), .list _=>some (.full [], .sub xs 0 (some 0) k)
   |_,_,_,_=>none
  |_,_,_=>none
def Dv(h:agU an)(k:Nat)(x:AV):agW (agU (agU D)):=
 match x with
 | .row n off len _ k'=>match h[n]? with
   |some (.cells cs)=>match lN ((cs.drop off).take (len*k))with
    |some ds=>bif k'==k&&b8 (off+len*k) cs.length&&((cs.drop off).take (len*k)).all AV.iZ then some (lR k len ds)else none
    |none=>none
   |_=>none
 |x=>x.fw
def JQ(P:agX)(T:TypeId)(h:agU an)(x y:AV)(a:b5):agW (AV×agU an×In):=
 match ej P T,a with
 |some (e,k), .NR zs n'=>match zeroT P e,oA P e with
  |some z,some dc=>bif b8 1 k&&z.cells.toList.length==k then
   match Dv h k y with
   |some ys=>match x with
    | .own n xs=>match h[n]? with
      |some (.front e' k' len)=>bif e'==e&&k'==k then some (.own n zs,h.set n (.front e k n'), .app xs ys len k dc)else none
      |_=>none
    | .d (.v (.slice none 0 0))=>some (.own h.length zs,h++[.front e k n'], .app [] ys 0 k dc)
    | .full xs=>some (.own h.length zs,h++[.front e k n'], .app xs ys xs.length k dc)
    |_=>none
   |none=>none
   else none
  |_,_=>none
 |_,_=>none
def Iw(P:agX)(T:TypeId)(ps:agU (Nat×AV)):agW AV:=
 match Kb P T,zeroT P T with
 |some places,some z=>match mQ places (z.cells.toList.map fun u=> .d (.v u)) ps with
  |some cs=>bif (ps.all fun p=>p.2.iL)&&z.cells.toList.all Value.oneCell' then some (.agg cs)else none
  |none=>none
 |_,_=>none
def L1(P:agX)(T:TypeId)(len:Nat)(ps:agU (Nat×AV)):agW AV:=
 match ej P T with
 |some (e,k)=>match zeroT P e with
  |some z=>match mQ (sk k 0 len) (pG len (z.cells.toList.map fun u=> .d (.v u))) ps with
   |some cs=>match lN cs with
    |some ds=>bif b8 1 k&&b8 (len*k) 16777216&&z.cells.toList.length==k&&z.cells.toList.all Value.oneCell'&&(ps.all fun p=>p.2.iL)then some (.full (lR k len ds))else none
    |none=>none
   |none=>none
  |none=>none
 |none=>none
def GM(P:agX)(T:TypeId)(op:BinOp)(x y:AV):agW (AV×In):=
 match x,y with
 | .d (.v (.int k a)), .d (.v (.int k' b))=>
   match KL op k a b with
   |some v=>bif uv k k' then some (.d (.v v), .nz b)else none
   |none=>match I7 op k a b with
    |some v=>some (.d (.v v), .nn b)
    |none=>match Hv op k a b with
     |some v=>bif uv k k' then some (.d (.v v), .none)else none
     |none=>none
 | .d (.v (.string a)), .d (.v (.string b))=>match Ku op a b with
   |some v=>some (.d (.v v), .none)
   |none=>match op with
    | .add=>some (.d (.v (.string (a++b))), .cat (a.size+b.size))
    |_=>none
 | .d (.v (.bool a)), .d (.v (.bool b))=>match Lh op a b with
   |some v=>bif xY P T then some (.d (.v v), .none)else none
   |none=>none
 | .agg xs, .agg ys=>match Dz P T xs ys with
   |some b=>match uX op b with
    |some v=>some (.d (.v v), .none)
    |none=>none
   |none=>none
 |_,_=>none
def FL(P:agX)(src dst:TypeId)(x:AV)(a:b5):agW (AV×In):=
 match x with
 | .d (.v (.int _ n))=>match nC P src,nC P dst with
   |some _,some k=>some (.d (.v (.int k (k.wrap n))), .none)
   |_,_=>none
 | .d (.v (.string b))=>bif gg P src&&gg P dst then some (.d (.v (.string b)), .none)else none
 |x=>match x.fw,ej P src,a with
  |some xs,some (e,_), .bytes s=>bif B3 P e&&gg P dst then some (.d (.v (.string s)), .E6 xs)else none
  |_,_,_=>none
def FU(P:agX)(T:TypeId)(x:AV)(f:Nat):agW AV:=
 match pE P T f,x with
 |some (off,k,true), .agg cs=>bif b8 (off+k) cs.length then some (.agg ((cs.drop off).take k))else none
 |some (off,_,false), .agg cs=>cs[off]?
 |_,_=>none
def Ff(h:agU an):agW AV→agW (AV×agU an×In)
 |some x=>some (x,h, .none)
 |none=>none
def vQ(h:agU an):agW (AV×In)→agW (AV×agU an×In)
 |some (x,i)=>some (x,h,i)
 |none=>none
mutual
def AV.nrm:AV→AV
 | .full xs=> .d (.sl xs)
 | .d (.v (.slice none 0 0))=> .d (.sl [])
 | .agg cs=> .agg (AV.uu cs)
 | .bU cs=> .bU (AV.uu cs)
 |x=>x
def AV.uu:agU AV→agU AV
 |[]=>[]
 |x::l=>x.nrm::AV.uu l
end
mutual
def AV.cap:AV→agW gC
 | .d x=>some (.d x)
 | .own _ xs=>some (.d (.sl xs))
 | .full xs=>some (.d (.sl xs))
 | .aW xs i off=>match xs[i]? with
   |some c=>some (.aW c off)
   |none=>none
 | .fn f cs=>match AV.wv cs with
   |some l=>some (.fn f l)
   |none=>none
 | .hid c=>some c
 |_=>none
def AV.wv:agU AV→agW (agU gC)
 |[]=>some []
 |x::l=>match x.cap,AV.wv l with
  |some c,some l=>some (c::l)
  |_,_=>none
end
def AV.yC:AV→AV
 | .fn f cs=>match AV.wv cs with
   |some l=> .hid (.fn f l)
   |none=> .fn f cs
 |x=>x
def AV.arg(x:AV):AV:=((x.bz 0).nrm).yC
def AV.uD(x:AV):AV:=(x.bz 0).nrm
def sdI:Sd→In
 | .no=> .none
 |p=> .sd p
def xR:agW (AV×agU an×Sd)→agW (AV×agU an×In)
 |some (x,h,p)=>some (x,h,sdI p)
 |none=>none
def tv(P:agX)(op:Op)(ρ:Operand→AV)(h:agU an)(a:b5):agW (AV×agU an×In):=
 match op with
 | .move x| .assign x=>some (ρ x,h, .none)
 | .pick c x y=>match a with
   | .bit b=>some (bif b then ρ x else ρ y,h, .bit (ρ c))
   |_=>none
 | .alloc e=>match zeroT P e with
   |some z=>some (.ptr h.length 0,h++[an.cells (z.cells.toList.map fun u=> .d (.v u))], .none)
   |none=>none
 | .box _ x=>bif (ρ x).iL then some (.ptr h.length 0,h++[an.cells (ρ x).cells], .none)else none
 | .load t p=>match tE h (ρ p)with
   |some (cs,off)=>match xr P t cs off with
    |some x=>some (x,h, .none)
    |none=>none
   |none=>none
 | .store t p x=>match ρ p with
   | .ptr n off=>match h[n]? with
     |some (.cells cs)=>match fh P t with
      |some k=>bif k==(ρ x).cells.length&&(ρ x).iL&&b8 (off+(ρ x).cells.length) cs.length then some (.d (.v undef),h.set n (.cells (gq cs off (ρ x).cells)), .none)else none
      |none=>none
     |_=>none
   |_=>none
 | .nilCheck x=>match ρ x with
   | .ptr n off=>some (.ptr n off,h, .none)
   | .aW xs i off=>some (.aW xs i off,h, .none)
   | .fn f cs=>some (.fn f cs,h, .none)
   |_=>none
 | .fieldAddr S x f=>match pE P S f with
   |some (fo,_,_)=>match ρ x with
    | .ptr n off=>some (.ptr n (off+fo),h, .none)
    | .aW xs i off=>some (.aW xs i (off+fo),h, .none)
    |_=>none
   |none=>none
 | .field T x f=>Ff h (FU P T (ρ x) f)
 | .indexAddr T x i=>vQ h (KQ P T (ρ x) (ρ i) a)
 | .index T x i=>match ρ x,(ρ i).int?,a with
   | .d (.v (.string b)),some z, .byte c=>bif gg P T then some (.d (.v (.int .u8 c.toNat)),h, .ch b z)else none
   |_,_,_=>none
 | .build T ps=>Ff h (Iw P T (ps.toList.map fun p=>(p.1,ρ p.2)))
 | .buildSlice T len ps=>Ff h (L1 P T len (ps.toList.map fun p=>(p.1,ρ p.2)))
 | .slice T x lo hi mx=>vQ h (Lu P T ρ (ρ x) lo hi mx a)
 | .extract x i=>match ρ x with
   | .bU cs=>match cs[i]? with
     |some c=>some (c,h, .none)
     |none=>none
   |_=>none
 | .makeFunc (.func f) first dy=>match first.toList with
   |[]=>some (.fn f (dy.toList.map ρ),h, .none)
   |_=>none
 | .binOp op T x y _=>vQ h (GM P T op (ρ x) (ρ y))
 | .unOp op _ x=>match ρ x with
   | .d (.v u)=>match CV op u with
     |some v=>some (.d (.v v),h, .none)
     |none=>none
   |_=>none
 | .convert s t x=>vQ h (FL P s t (ρ x) a)
 | .call c=>match c.callee with
   | .builtin .len=>match c.args.toList,c.argTypes.toList with
     |[x],[T]=>vQ h (KM P T (ρ x) a)
     |_,_=>none
   | .builtin .append=>match c.args.toList,c.argTypes.toList with
     |[x,y],[T,U]=>bif (ej P U).isSome then JQ P T h (ρ x) (ρ y) a else none
     |_,_=>none
   | .builtin .max=>match yv true (c.args.toList.map ρ)with
     |some (k,a)=>some (.d (.v (.int k a)),h, .none)
     |none=>none
   | .builtin .min=>match yv false (c.args.toList.map ρ)with
     |some (k,a)=>some (.d (.v (.int k a)),h, .none)
     |none=>none
   | .value f=>match ρ f,a with
     | .fn g dy, .ret r=>bif ((c.args.toList.map ρ++dy).map AV.arg).all (AV.aO 0)&&r.aO 0 then some (r,h, .call g ((c.args.toList.map ρ++dy).map AV.arg))else none
     | .fn g dy, .Kn r h'=>some (r,h', .je g (c.args.toList.map ρ++dy) h)
     | .fn g dy, .Hj l _ _ r H'=>some (r.aM (rn l h.length),fY l (H'.map (an.aM (rn l h.length))) h, .iN g ((c.args.toList.map ρ++dy).map AV.uD) h)
     | .fn g dy, .zq l _ _ r H'=>some (r.aM (rn l h.length),fY l (H'.map (an.o0 (rn l h.length))) h, .iN g ((c.args.toList.map ρ++dy).map AV.uD) h)
     | .fn g dy, .rq l _ _ r=>some (r.aM (rn l 0),h, .iN g ((c.args.toList.map ρ++dy).map AV.uD) h)
     | .hid q, .ret r=>bif ((c.args.toList.map ρ).map AV.arg).all (AV.aO 0)&&r.aO 0 then some (r,h, .BI q ((c.args.toList.map ρ).map AV.arg))else none
     |_,_=>none
   |_=>none
 |op=>xR (nq P op ρ h)
theorem D9:∀l,AV.uu l=l.map AV.nrm
 |[]=>by simp [AV.uu]
 |x::l=>by simp [AV.uu,D9 l]
theorem aE.nrm{G:Gh}{w:agZ}{u:agY}{x:AV}(h:aE G w u x):aE G w u x.nrm:=by
 have e8:∀(vs:Array agY)(cs:agU AV),(∀(i:Nat)(u:agY)(c:AV),vs[i]?=some u→cs[i]?=some c→aE G w u c.nrm)→∀(i:Nat)(u:agY)(c:AV),vs[i]?=some u→(AV.uu cs)[i]?=some c→aE G w u c:=by
  intro vs cs ih i u c hu hc;rw[D9,agc]at hc;cases hx:cs[i]? with
  |none=>rw[hx]at hc;cases hc
  |some x=>rw[hx]at hc;cases hc;exact ih i u x hu hx
 induction h with
 |agg vs cs hl _ ih=>rw[AV.nrm];exact .agg vs _ (by rw[D9,aga];exact hl) (e8 vs cs ih)
 |bU vs cs hl _ ih=>rw[AV.nrm];exact .bU vs _ (by rw[D9,aga];exact hl) (e8 vs cs ih)
 |full xs hp hf=>rw[AV.nrm];exact .d hp
 | @d u x h=>
   by_cases hx:x= .v (.slice none 0 0)
   ·subst hx;cases h with|v=>simp only[AV.nrm];exact .d zQ
   ·have:(AV.d x).nrm= .d x:=by
     unfold AV.nrm;split<;>simp_all
    rw[this];exact .d h
 |own n xs h hp hle hf=>simp only[AV.nrm];exact .own n xs h hp hle hf
 |ptr n off h=>simp only[AV.nrm];exact .ptr n off h
 |aW xs i off b o u x hx hS hu=>simp only[AV.nrm];exact .aW xs i off b o u x hx hS hu
 |row n off len cap k h hl hm=>simp only[AV.nrm];exact .row n off len cap k h hl hm
 |fn f vs cs hl h=>simp only[AV.nrm];exact .fn f vs cs hl h
 |mp n h=>simp only[AV.nrm];exact .mp n h
 |c7 n h=>simp only[AV.nrm];exact .c7 n h
 |vec n o len L k h hs hL hf=>simp only[AV.nrm];exact .vec n o len L k h hs hL hf
 |de n i j L k h hs hL hf=>simp only[AV.nrm];exact .de n i j L k h hs hL hf
 |hid h h1=>simp only[AV.nrm];exact .hid h h1
 |dead u=>simp only[AV.nrm];exact .dead u
theorem RI:∀(cs:agU AV)(l:agU gC),AV.wv cs=some l→cs.length=l.length∧∀(i:Nat)(x:AV)(c:gC),cs[i]?=some x→l[i]?=some c→x.cap=some c
 |[],l,h=>by
  unfold AV.wv at h;cases h;exact⟨rfl,fun i x c hx=>by simp at hx⟩
 |x::cs,l,h=>by
  unfold AV.wv at h;split at h
  ·next c l' e1 e2=>
   cases h
   obtain⟨h1,h2⟩:=RI cs l' e2;refine⟨by simp [h1],fun i y d hy hd=> ?_⟩
   match i with
   |0=>simp only[List.getElem?_cons_zero,Option.some.injEq]at hy hd;subst hy;subst hd;exact e1
   |i+1=>exact h2 i y d (by simpa using hy) (by simpa using hd)
  ·cases h
theorem aE.cap{G:Gh}{w:agZ}{u:agY}{x:AV}(h:aE G w u x):∀c,x.cap=some c→nt G.S w u c:=by
 induction h with
 |d h=>intro c hc;simp only[AV.cap]at hc;cases hc;exact .d h
 |own n xs h hp hle hf=>intro c hc;simp only[AV.cap]at hc;cases hc;exact .d hp
 |full xs hp hf=>intro c hc;simp only[AV.cap]at hc;cases hc;exact .d hp
 |aW xs i off b o u x hx hS hu=>
  intro c hc;simp only[AV.cap,hx]at hc;cases hc
  exact .aW x off b o u hS hu
 |fn f vs cs hl h ih=>
  intro c hc;simp only[AV.cap]at hc;split at hc
  ·next l e=>
   cases hc
   obtain⟨h1,h2⟩:=RI cs l e;refine .fn f vs l (hl.trans h1) fun i v d hv hd=> ?_;have aN:i<cs.length:=by rw[h1];exact(af5.1 hd).1
   exact ih i v _ hv (af9 aN) d (h2 i _ d (af9 aN) hd)
  ·cases hc
 |hid h h1=>intro c hc;simp only[AV.cap]at hc;cases hc;exact h
 |agg=>intro c hc;simp [AV.cap]at hc
 |bU=>intro c hc;simp [AV.cap]at hc
 |ptr=>intro c hc;simp [AV.cap]at hc
 |row=>intro c hc;simp [AV.cap]at hc
 |mp=>intro c hc;simp [AV.cap]at hc
 |c7=>intro c hc;simp [AV.cap]at hc
 |vec=>intro c hc;simp [AV.cap]at hc
 |de=>intro c hc;simp [AV.cap]at hc
 |dead=>intro c hc;simp [AV.cap]at hc
theorem AV.Le.yC(x:AV):AV.Le x x.yC:=fun G w u h=>by
 unfold AV.yC;split
 ·next f cs=>
  split
  ·next l e=>
   have:=h.cap (.fn f l) (by simp only[AV.cap,e]);cases h with|fn=>exact .hid this rfl
  ·exact h
 ·exact h
theorem AV.Le.arg(x:AV):AV.Le x x.arg:=fun _ _ _ h=>AV.Le.yC _ _ _ _ (h.bz 0).nrm
theorem bD.args{P:agX}{f:FuncId}{as:agU AV}{h:agU an}{K:AV→agU an→Prop}(hc:bD P f as h K)(bs:agU AV)(hl:as.length=bs.length)(hle:∀(i:Nat)(c d:AV),bs[i]?=some c→as[i]?=some d→AV.Le c d):bD P f bs h K:=
 ⟨hc.1,fun G w vs hi hs hr=>hc.2 G w vs hi (hs.trans hl.symm) fun i u d hu hd=>by
  have aN:i<bs.length:=by rw[←hl];exact(af5.1 hd).1
  exact hle i _ d (af9 aN) hd G w u (hr i u _ hu (af9 aN))⟩
theorem bD.Uz{P:agX}{f:FuncId}{as:agU AV}{h:agU an}{K:AV→agU an→Prop}(hc:bD P f (as.map AV.arg) h K):bD P f as h K:=
 hc.args as (by rw[aga]) fun i c d hc hd=>by
  rw[agc,hc]at hd;cases hd;exact AV.Le.arg c
theorem AV.Le.uD(x:AV):AV.Le x x.uD:=fun _ _ _ h=>(h.bz 0).nrm
theorem bD.DI{P:agX}{f:FuncId}{as:agU AV}{h:agU an}{K:AV→agU an→Prop}(hc:bD P f (as.map AV.uD) h K):bD P f as h K:=
 hc.args as (by rw[aga]) fun i c d hc hd=>by
  rw[agc,hc]at hd;cases hd;exact AV.Le.uD c
theorem adw(l:agU gC):(l.map gC.av).all (AV.aO 0)=true:=by
 rw[agw];intro x hx;obtain⟨c,_,rfl⟩:=List.mem_map.1 hx;cases c<;>rfl
theorem Lt.use{P:agX}{q:gC}{args:agU AV}{r:AV}{h:agU an}{C:AV→agU an→Prop}(hc:Lt P q (args.map AV.arg) r)(ha:(args.map AV.arg).all (AV.aO 0)=true)(hr:r.aO 0=true)(hC:C r h):∃g cs,q= .fn g cs∧bD P g (args++cs.map gC.av) h C:=by
 obtain⟨g,cs,rfl,hc⟩:=hc;refine⟨g,cs,rfl,bD.args (hc.use (h:=h) (C:=C) (by rw[List.all_append,ha,adw];rfl) hr hC) _ (by simp) fun i c d h1 h2=> ?_⟩;by_cases hi:i<args.length
 ·rw[agf hi]at h1;rw[agf (by simpa using hi),agc,h1]at h2;cases h2;exact AV.Le.arg c
 ·rw[agm (by omega)]at h1;rw[agm (by simpa using hi),aga,h1]at h2;cases h2;exact AV.Le.refl c
theorem dJ{α:Type}{b:Bool}{x y:α}(h:(bif b then some x else none)=some y):b=true∧x=y:=by
 cases b with
 |true=>exact⟨rfl,agp h⟩
 |false=>cases h
theorem mn{α:Type}{b:Bool}{x:agW α}{y:α}(h:(bif b then x else none)=some y):b=true∧x=some y:=by
 cases b with
 |true=>exact⟨rfl,h⟩
 |false=>cases h
section
variable {P:agX} {ρ:Operand→AV} {h h':agU an} {a:b5} {i:In} {x:AV} {C:AV→agU an→Prop}
theorem OK.Dh{x:AV}{b:Bool}(h:OK P (.bit x) (.bit b)):x= .d (.v (.bool b)):=by
 cases h with|bit h=>subst h;rfl
theorem HO{t:TypeId}{p:AV}{cs:agU AV}{off:Nat}{K:AV→Prop}(h1:tE h p=some (cs,off))(h2:xr P t cs off=some x)(hK:K x):mg P t h p K:=by
 have key:(match kE P t,fh P t with
     |some true,some k=>fK (b8 (off+k) cs.length) (K (.agg ((cs.drop off).take k)))
     |some false,some _=>match cs[off]? with
      |some c=>K c
      |none=>False
     |_,_=>False):=by
  unfold xr at h2;split at h2
  ·next k e1 e2=>
   obtain⟨h3,rfl⟩:=dJ h2;exact bM.2 ⟨h3,hK⟩
  ·next k e1 e2=>rw[h2];exact hK
  ·cases h2
 unfold mg px;unfold tE at h1;split at h1
 ·split at h1
  ·next bV e=>cases h1;simp only[e];exact key
  ·cases h1
 ·split at h1
  ·next c e=>cases h1;simp only[e];exact key
  ·cases h1
 ·cases h1
theorem ab0{y:AV}{z:agW Int}{k:Nat}(h1:JF y z k a=some (x,i))(b7:OK P i a):∃xs w c,y.fw=some xs∧z=some w∧0≤w∧xs[w.toNat]?=some c∧c.length=k∧x= .aW [c] 0 0:=by
 unfold JF at h1;split at h1
 ·next xs w c hx=>
  obtain⟨hk,he⟩:=dJ h1;cases he
  cases b7 with
  |el h0 hc=>exact⟨_,_,_,hx,rfl,h0,hc,by simpa using hk,rfl⟩
 ·cases h1
theorem Yw{T:TypeId}{y z:AV}{K:AV→Prop}(h1:KQ P T y z a=some (x,i))(b7:OK P i a)(hK:K x):oI P T y z K:=by
 unfold KQ at h1;unfold oI;cases hT:ej P T with
 |some p=>
  obtain⟨e,k⟩:=p;simp only[hT]at h1 ⊢;cases y with
  |row n off len cap k'=>
   simp only at h1 ⊢;split at h1
   ·next w hw=>
    obtain⟨hk,he⟩:=dJ h1;cases he
    cases b7 with|lt h0 hl=>simp only[hw];exact bM.2 ⟨hk,h0,hl,hK⟩
   ·cases h1
  |_=>
   obtain⟨xs,w,c,e1,e2,e3,e4,e5,rfl⟩:=ab0 h1 b7;simp only[e1,e2,e4,e5];exact⟨e3,trivial,hK⟩
 |none=>
  simp only[hT]at h1 ⊢;split at h1
  ·next n e k b off w hA hw=>
   cases h1
   simp only[hA,hw];cases b7 with|lt h0 hl=>exact⟨h0,hl,hK⟩
  ·next n e k c w hA hw=>
   split at h1
   ·next d=>
    obtain⟨hb,he⟩:=dJ h1;cases he;simp only[hA,hw];cases b7 with|EV h0 hl h=>exact bM.2 ⟨hb,h0,hl,by simp only[List.getElem?_cons_zero,agq,h];exact hK⟩
   ·cases h1
  ·cases h1
theorem aaj{T:TypeId}{y:AV}{K:Nat→Prop}{C:AV→Prop}(h1:KM P T y a=some (x,i))(b7:OK P i a)(hK:C x)(hc:∀n:Nat,C (.d (.v (.int .i64 n)))→K n):qm P T y K:=by
 unfold KM at h1;unfold qm;split at h1
 ·obtain⟨hb,he⟩:=dJ h1;cases he;exact bM.2 ⟨hb,hc _ hK⟩
 ·obtain⟨hb,he⟩:=dJ h1;cases he;exact bM.2 ⟨hb,hc _ hK⟩
 ·next n1 n2=>
  split at h1
  ·next xs n hx=>
   obtain⟨hb,he⟩:=dJ h1;cases he;cases b7 with
   |len hl=>
    subst hl;split
    ·next s=>exact absurd rfl (n1 s)
    ·next a b c d e=>exact absurd rfl (n2 a b c d e)
    ·simp only[hx];exact bM.2 ⟨hb,hc _ hK⟩
  ·cases h1
theorem aen{y:agW Operand}{l:agW Int}(h1:zL ρ y=some l):(y=none∧l=none)∨∃o z,y=some o∧l=some z∧(ρ o).int?=some z:=by
 unfold zL at h1;cases y with
 |none=>cases h1;exact .inl ⟨rfl,rfl⟩
 |some o=>
  simp only at h1;split at h1
  ·next z hz=>cases h1;exact .inr ⟨o,z,rfl,rfl,hz⟩
  ·cases h1
theorem qM{y:agW Operand}{l:agW Int}{d:Nat}{K:Nat→Prop}(h1:zL ρ y=some l)(h0:∀z,l=some z→0≤z)(hK:K (oN l d)):iT ρ y d K:=by
 rcases aen h1 with⟨rfl,rfl⟩|⟨o,z,rfl,rfl,hz⟩
 ·exact hK
 ·simp only[iT,hz];exact⟨h0 z rfl,hK⟩
theorem Ws{T:TypeId}{y:AV}{lo hi mx:agW Operand}{K:AV→Prop}(h1:Lu P T ρ y lo hi mx a=some (x,i))(b7:OK P i a)(hK:K x):sr P T ρ y lo hi mx K:=by
 unfold Lu at h1;unfold sr;split at h1
 ·split at h1
  ·next l hh hl nA=>
   split at h1
   ·next b=>
    obtain⟨hb,he⟩:=dJ h1;cases he;cases b7 with
    |str h0 h2 h3 h4=>
     refine bM.2 ⟨hb,qM nA (fun z e=>by subst e;exact h3) ?_⟩;have e1:oN hh b.size=(hh.getD b.size).toNat:=by cases hh<;>simp [oN]
     have e2:oN l 0=(l.getD 0).toNat:=by cases l<;>simp [oN]
     rw[e1];refine⟨h4,qM hl (fun z e=>by subst e;exact h0) ?_⟩;rw[e2];rw[e1,e2]at hK;exact⟨h2,hK⟩
   ·next n off=>
    split at h1
    ·next m e k hT=>
     obtain⟨hb,he⟩:=dJ h1;cases he;simp only[hT];generalize b8 m 4096=q at hb ⊢;rw[af7]at hb;refine bM.2 ⟨hb.1,qM nA (fun z e=>by cases e) (bM.2 ⟨dA.2 (agh _),qM hl (fun z e=>by cases e) (bM.2 ⟨?_,?_⟩)⟩)⟩
     ·rw[af7];exact⟨dA.2 (Nat.zero_le _),hb.2⟩
     ·show K (.row n (off+0*k) (m-0) (m-0) k);rw[Nat.zero_mul,Nat.add_zero,Nat.sub_zero];exact hK
    ·cases h1
   ·next tD lG=>
    split at h1
    ·next xs e k ys hx hT=>
     cases h1
     dsimp only;split
     ·next b=>exact absurd rfl (tD b)
     ·next n off=>exact absurd rfl (lG n off)
     ·simp only[hx,hT];cases hh with
      |none=>
       cases b7 with
       |BJ h0 h2 hk he=>
        refine⟨hk,qM nA (fun z e=>by cases e) ⟨agh _,qM hl (fun z e=>by subst e;exact h0) ?_⟩⟩;have e2:oN l 0=(l.getD 0).toNat:=by cases l<;>simp [oN]
        rw[e2];refine⟨h2,?_⟩;rw[show oN none xs.length=xs.length from rfl,List.take_length,he];exact hK
      |some z=>
       cases b7 with
       |sub h0 h2 h3 h4 hk he=>
        refine⟨hk,qM nA (fun z e=>by cases e;exact h3) ⟨h4,qM hl (fun z e=>by subst e;exact h0) ?_⟩⟩;have e2:oN l 0=(l.getD 0).toNat:=by cases l<;>simp [oN]
        rw[e2];refine⟨h2,?_⟩;rw[show oN (some z) xs.length=z.toNat from rfl,he];exact hK
    ·cases h1
  ·cases h1
 ·split at h1
  ·next m _ _ y' _ hm=>
   split at h1
   ·next xs e k _ _ ys hx hT hy=>
    cases h1
    cases b7 with
    |sub h0 h2 h3 h4 hk he=>
     simp only[hx,hT];refine⟨hk,?_⟩;simp only[iT,hm,hy,AV.int?];refine⟨Int.le_refl _,Nat.zero_le _,Int.le_refl _,?_,by simpa using hK⟩;first|rfl|trivial
   ·cases h1
  ·cases h1
theorem Iy{k:Nat}{y:AV}{ys:agU (agU D)}{K:agU (agU D)→Prop}(h1:Dv h k y=some ys)(hy:∀c∈ys,c.length=k)(hK:K ys):rI h k y K:=by
 unfold Dv at h1;unfold rI;split at h1
 ·split at h1
  ·next cs e=>
   split at h1
   ·next ds e2=>
    obtain⟨hb,rfl⟩:=dJ h1;simp only[e,e2];exact bM.2 ⟨hb,hK⟩
   ·cases h1
  ·cases h1
 ·next hn=>
  split
  ·next n off len cap k'=>exact absurd rfl (hn n off len cap k')
  ·simp only[h1];exact⟨hy,hK⟩
theorem Za{T:TypeId}{y z:AV}(h1:JQ P T h y z a=some (x,h',i))(b7:OK P i a)(hC:C x h'):sx P T h y z C:=by
 unfold JQ at h1;unfold sx;split at h1
 ·next e k zs n' hT=>
  simp only[hT];split at h1
  ·next zv dc hz np=>
   simp only[hz,np];obtain⟨hb,h1⟩:=mn h1;refine bM.2 ⟨hb,?_⟩;split at h1
   ·next ys ga=>
    split at h1
    ·next n xs=>
     split at h1
     ·next e' k' len hn=>
      obtain⟨hc,he⟩:=dJ h1;cases he;cases b7 with
      |app hl hx hy hm lk iK rD=>
       subst iK;subst rD;refine Iy ga hy ?_;simp only[hn];exact bM.2 ⟨hc,hl,hx,hm,lk,hC⟩
     ·cases h1
    ·cases h1
     cases b7 with
     |app hl hx hy hm lk iK rD=>
      subst iK;subst rD;refine Iy ga hy ?_;simp only[List.nil_append,agi,agq]at hC hm lk ⊢;exact⟨hm,lk,hC⟩
    ·cases h1
     cases b7 with
     |app hl hx hy hm lk iK rD=>
      subst iK;subst rD;exact Iy ga hy ⟨hx,hm,lk,hC⟩
    ·cases h1
   ·cases h1
  ·cases h1
 ·cases h1
theorem YY{T:TypeId}{ps:agU (Nat×AV)}{K:AV→Prop}(h1:Iw P T ps=some x)(hK:K x):uG P T ps K:=by
 unfold Iw at h1;unfold uG;split at h1
 ·next pl z e1 e2=>
  simp only[e1,e2];split at h1
  ·next cs e3=>obtain⟨hb,rfl⟩:=dJ h1;simp only[e3];exact bM.2 ⟨hb,hK⟩
  ·cases h1
 ·cases h1
theorem acQ{T:TypeId}{len:Nat}{ps:agU (Nat×AV)}{K:AV→Prop}(h1:L1 P T len ps=some x)(hK:K x):uI P T len ps K:=by
 unfold L1 at h1;unfold uI;split at h1
 ·next e k hT=>
  simp only[hT];split at h1
  ·next z hz=>
   simp only[hz];split at h1
   ·next cs fm=>
    simp only[fm];split at h1
    ·next ds rO=>obtain⟨hb,rfl⟩:=dJ h1;simp only[rO];exact bM.2 ⟨hb,hK⟩
    ·cases h1
   ·cases h1
  ·cases h1
 ·cases h1
theorem SN{T:TypeId}{op:BinOp}{y z:AV}{K:AV→Prop}(h1:GM P T op y z=some (x,i))(b7:OK P i a)(hK:K x):uA P T op y z K:=by
 unfold GM at h1;unfold uA;split at h1
 ·split at h1
  ·next v e=>
   obtain⟨hb,he⟩:=dJ h1;cases he;cases b7 with|nz h0=>simp only[e];exact bM.2 ⟨hb,h0,hK⟩
  ·next e=>
   simp only[e];split at h1
   ·next v e2=>
    cases h1
    cases b7 with|nn h0=>simp only[e2];exact⟨h0,hK⟩
   ·next e2=>
    simp only[e2];split at h1
    ·next v e3=>obtain⟨hb,he⟩:=dJ h1;cases he;simp only[e3];exact bM.2 ⟨hb,hK⟩
    ·cases h1
 ·split at h1
  ·next v e=>cases h1;simp only[e];exact hK
  ·next e=>
   simp only[e];split at h1
   ·cases h1;cases b7 with|cat h=>exact⟨h,hK⟩
   ·cases h1
 ·split at h1
  ·next v e=>obtain⟨hb,he⟩:=dJ h1;cases he;simp only[e];exact bM.2 ⟨hb,hK⟩
  ·cases h1
 ·split at h1
  ·next b e=>
   simp only[e];split at h1
   ·next v e2=>cases h1;simp only[e2];exact hK
   ·cases h1
  ·cases h1
 ·cases h1
theorem aeR{s t:TypeId}{y:AV}{K:AV→Prop}(h1:FL P s t y a=some (x,i))(b7:OK P i a)(hK:K x):uo P s t y K:=by
 unfold FL at h1;unfold uo;split at h1
 ·split at h1
  ·next e1 e2=>cases h1;simp only[e1,e2];exact hK
  ·cases h1
 ·obtain⟨hb,he⟩:=dJ h1;cases he;exact bM.2 ⟨hb,hK⟩
 ·next h8 h9=>
  split at h1
  ·next xs e k s' e1 e2=>
   obtain⟨hb,he⟩:=dJ h1;cases he;cases b7 with
   |E6 h=>
    obtain⟨ns,k1,k2⟩:=h;subst k2;split
    ·next k' n=>exact absurd rfl (h8 k' n)
    ·next b'=>exact absurd rfl (h9 b')
    ·simp only[e1,e2];exact bM.2 ⟨hb,ns,k1,hK⟩
  ·cases h1
theorem Qe{T:TypeId}{y:AV}{f:Nat}{K:AV→Prop}(h1:FU P T y f=some x)(hK:K x):tt P T y f K:=by
 unfold FU at h1;unfold tt;split at h1
 ·next e=>obtain⟨hb,rfl⟩:=dJ h1;simp only[e];exact bM.2 ⟨hb,hK⟩
 ·next e=>simp only[e,h1];exact hK
 ·cases h1
theorem Hr{y:agW AV}(h1:Ff h y=some (x,h',i)):y=some x∧h'=h:=by
 cases y with
 |none=>cases h1
 |some y=>cases h1;exact⟨rfl,rfl⟩
theorem Bb{y:agW (AV×In)}(h1:vQ h y=some (x,h',i)):y=some (x,i)∧h'=h:=by
 cases y with
 |none=>cases h1
 |some y=>cases h1;exact⟨rfl,rfl⟩
theorem xT{o:Oper}(h1:tv P o.op ρ h a=some (x,h',i))(b7:OK P i a)(hC:C x h'):cD P o ρ h C:=by
 obtain⟨dst,op,type,pos,after,guard⟩:=o;simp only at h1;unfold tv at h1;unfold cD;split at h1
 ·cases h1;exact hC
 ·cases h1;exact hC
 ·next c y z=>
  split at h1
  ·next b=>
   cases h1
   simp only[OK.Dh b7];cases b<;>simp_all
  ·cases h1
 ·split at h1
  ·next z e=>cases h1;simp only[e];exact hC
  ·cases h1
 ·obtain⟨hb,he⟩:=dJ h1;cases he;exact bM.2 ⟨hb,hC⟩
 ·split at h1
  ·next cs off e=>
   split at h1
   ·next y e2=>cases h1;exact HO e e2 hC
   ·cases h1
  ·cases h1
 ·split at h1
  ·next n off e=>
   split at h1
   ·next cs e2=>
    split at h1
    ·next k e3=>obtain⟨hb,he⟩:=dJ h1;cases he;simp only[e,ue,e2,e3];exact bM.2 ⟨hb,hC⟩
    ·cases h1
   ·cases h1
  ·cases h1
 ·split at h1
  ·next e=>cases h1;simp only[e];exact hC
  ·next e=>cases h1;simp only[e];exact hC
  ·next e=>cases h1;simp only[e];exact hC
  ·cases h1
 ·split at h1
  ·next e=>
   simp only[e];split at h1
   ·next e2=>cases h1;simp only[e2];exact hC
   ·next e2=>cases h1;simp only[e2];exact hC
   ·cases h1
  ·cases h1
 ·obtain⟨e,rfl⟩:=Hr h1;exact Qe e hC
 ·obtain⟨e,rfl⟩:=Bb h1;exact Yw e b7 hC
 ·split at h1
  ·next b z c e1 e2=>
   obtain⟨hb,he⟩:=dJ h1;cases he;cases b7 with
   |ch h0 hc=>simp only[e1,e2];refine bM.2 ⟨hb,h0,?_⟩;simp only[hc];exact hC
  ·cases h1
 ·obtain⟨e,rfl⟩:=Hr h1;exact YY e hC
 ·obtain⟨e,rfl⟩:=Hr h1;exact acQ e hC
 ·obtain⟨e,rfl⟩:=Bb h1;exact Ws e b7 hC
 ·split at h1
  ·next e=>
   split at h1
   ·next e2=>cases h1;simp only[e,e2];exact hC
   ·cases h1
  ·cases h1
 ·split at h1
  ·next e=>cases h1;simp only[e];exact hC
  ·cases h1
 ·obtain⟨e,rfl⟩:=Bb h1;exact SN e b7 hC
 ·unfold uO;split at h1
  ·next e=>
   split at h1
   ·next e2=>cases h1;simp only[e,e2];exact hC
   ·cases h1
  ·cases h1
 ·obtain⟨e,rfl⟩:=Bb h1;exact aeR e b7 hC
 ·next c=>
  split at h1
  ·next hc=>
   simp only[hc];split at h1
   ·next e1 e2=>obtain⟨e,rfl⟩:=Bb h1;simp only[e1,e2];exact aaj (C:=fun x=>C x _) e b7 hC (fun n hn=>hn)
   ·cases h1
  ·next hc=>
   simp only[hc];split at h1
   ·next e1 e2=>obtain⟨hb,h1⟩:=mn h1;simp only[e1,e2];exact bM.2 ⟨hb,Za h1 b7 hC⟩
   ·cases h1
  ·next hc=>
   simp only[hc];split at h1
   ·next e1=>cases h1;simp only[e1];exact hC
   ·cases h1
  ·next hc=>
   simp only[hc];split at h1
   ·next e1=>cases h1;simp only[e1];exact hC
   ·cases h1
  ·next f hc=>
   simp only[hc];split at h1
   ·next g dy r e=>
    obtain⟨hb,he⟩:=dJ h1;cases he;simp only[af7]at hb;simp only[e];cases b7 with|call je=>exact(je.use hb.1 hb.2 hC).Uz
   ·next g dy r h2 e=>
    cases h1
    simp only[e];cases b7 with|je je=>exact je.mono fun r1 h1 ⟨e1,e2⟩=>by subst e1;subst e2;exact hC
   ·next g dy l fc H r H' e=>
    cases h1
    simp only[e];cases b7 with|iN ha hd hb hl hc=>exact(ha▸(hc.iN hd hb hl).mono fun r1 h1 ⟨e1,e2⟩=>by subst e1;subst e2;exact hC:bD P g _ _ _).DI
   ·next g dy l fc H r H' e=>
    cases h1
    simp only[e];cases b7 with|lT sF hv ha hd hb hl hc=>exact(ha▸(hc.iN hd (by rw[hb,adr sF]) (by rw[af7]at hl ⊢;exact⟨hl.1,abk sF hl.2⟩)).mono fun r1 h1 ⟨e1,e2⟩=>by subst e1;subst e2;rw[←Yf hv];exact hC:bD P g _ _ _).DI
   ·next g dy l fc H r e=>
    cases h1
    simp only[e];cases b7 with|rq ha hd hb hl hc=>exact(ha▸(by have:=hc.rq hd hb hl [];rw[agr]at this;exact this.mono fun r1 h1 ⟨e1,e2⟩=>by subst e1;subst e2;exact hC):bD P g _ _ _).DI
   ·next q r e=>
    obtain⟨hb,he⟩:=dJ h1;cases he;simp only[af7]at hb;simp only[e];cases b7 with|BI hq=>exact hq.use hb.1 hb.2 hC
   ·cases h1
  ·cases h1
 ·next op _=>
  unfold xR at h1;split at h1
  ·next y h2 p e=>
   cases h1
   simp only[e];refine⟨?_,hC⟩;cases p with
   |no=>trivial
   |lt n=>cases b7 with|sd h=>exact h
  ·cases h1
end
def iq:agU (Nat×b5)→Nat→b5
 |[],_=> .none
 |(k,x)::l,i=>bif k==i then x else iq l i
def si(i:In)(a:b5)(r:agW (St×agU (In×b5))):agW (St×agU (In×b5)):=
 match i with
 | .none=>r
 |i=>match r with
  |some (s,l)=>some (s,(i,a)::l)
  |none=>none
def AP:b5→Bool
 | .Kn .. | .Hj .. | .zq .. =>true
 |_=>false
def xW(o:Oper):b5→Bool
 | .zq [] .. =>cn o==6
 |_=>false
def Fp(P:agX)(dr vk:Bool)(op:Op)(ρ:Operand→AV)(h:agU an)(a:b5):agW (AV×agU an×In):=
 match a with
 | .va va=>bif dr&& !vk then none else match gW P op ρ h va with
   |some (x,h',p)=>some (x,h', .pr p)
   |none=>none
 |a=>tv P op ρ h a
def n9(P:agX)(dr:Bool)(o:Oper)(j:Nat)(as:agU (Nat×b5))(s:St):agW (St×agU (In×b5)):=
 bif dr&&AP (iq as (3*j+1))&& !xW o (iq as (3*j+1))then none else
 match Fp P dr (iW o) o.op (ev s) s.h (iq as (3*j+1))with
 |some (x,h',i)=>match iq as (3*j+2)with
  | .eq y=>si i (iq as (3*j+1)) (some ((s.wh h').put o.dst y,[(.eq x, .eq y)]))
  |_=>si i (iq as (3*j+1)) (some ((s.wh h').put o.dst x,[]))
 |none=>none
def Ck(o:Oper)(s:St):St:=s.put o.dst (.d (.v undef))
def nW(l:agU (In×b5)):agW (St×agU (In×b5))→agW (St×agU (In×b5))
 |some (s,m)=>some (s,l++m)
 |none=>none
def ml(P:agX)(ops:Array Oper)(dr:Bool)(o:Oper)(j:Nat)(as:agU (Nat×b5))(s:St):agW (St×agU (In×b5)):=
 match o.guard with
 |none=>n9 P dr o j as s
 |some (g,want)=>match iq as (3*j)with
  | .bit b=>nW [(.bit (sf ops g s.t), .bit b)] (bif b==want then n9 P dr o j as s else some (Ck o s,[]))
  | .yH=>nW [(.bit (sf ops g s.t), .yH)] (some (Ck o s,[]))
  |_=>none
def lW(P:agX)(ops:Array Oper)(dr:Bool):agU Oper→Nat→agU (Nat×b5)→St→agW (St×agU (In×b5))
 |[],_,_,s=>some (s,[])
 |o::rest,j,as,s=>match ml P ops dr o j as s with
  |some (s1,l)=>nW l (lW P ops dr rest (j+1) as s1)
  |none=>none
def gF(P:agX)(l:agU (In×b5)):Prop:=∀p∈l,OK P p.1 p.2
section
variable {P:agX} {ops:Array Oper} {dr:Bool} {o:Oper} {j:Nat} {as:agU (Nat×b5)} {s s1:St} {l:agU (In×b5)} {K:St→Prop}
theorem CU{i:In}{a:b5}{r:agW (St×agU (In×b5))}(h:si i a r=some (s1,l))(b7:gF P l):∃m,r=some (s1,m)∧gF P m∧OK P i a:=by
 unfold si at h;split at h
 ·exact⟨l,h,b7, .none⟩
 ·split at h
  ·next s2 m=>
   cases h
   exact⟨m,rfl,fun p hp=>b7 p (age _ hp),b7 (i,a) agb⟩
  ·cases h
theorem vB{r:agW (St×agU (In×b5))}{m:agU (In×b5)}(h:nW m r=some (s1,l))(b7:gF P l):∃n,r=some (s1,n)∧gF P n∧gF P m:=by
 unfold nW at h;split at h
 ·next s2 n=>
  cases h
  exact⟨n,rfl,fun p hp=>b7 p (List.mem_append_right _ hp),fun p hp=>b7 p (List.mem_append_left _ hp)⟩
 ·cases h
def GD(P:agX)(dr:Bool)(o:Oper)(K:St→Prop)(s:St):Prop:=bif dr then Uy P o K s else lS P o K s
theorem Yg{x:AV}{h':agU an}{i:In}{a:b5}(h1:tv P o.op (ev s) s.h a=some (x,h',i))(b7:OK P i a)(hh:AP a=false)(hK:K ((s.wh h').put o.dst x)):Uy P o K s:=by
 refine .inl ?_;unfold wV;split
 ·next c gh=>
  split
  ·next f hc=>
   rw[gh]at h1;unfold tv at h1;simp only[hc]at h1;split at h1
   ·next g dy r e=>
    obtain⟨hb,he⟩:=dJ h1;cases he;simp only[af7]at hb;simp only[e];cases b7 with
    |call je=>exact⟨_,hK,fun e=>(je.use hb.1 hb.2 ⟨rfl,rfl⟩).Uz⟩
   ·cases hh
   ·cases hh
   ·cases hh
   ·next g dy l fc H r e=>
    cases h1
    simp only[e];cases b7 with|rq ha hd hb hl hc=>exact⟨_,hK,fun e=>(ha▸hc.rq hd hb hl e:bD P g _ _ _).DI⟩
   ·next q r e=>
    obtain⟨hb,he⟩:=dJ h1;cases he;simp only[af7]at hb;simp only[e];cases b7 with
    |BI hq=>
     have:=fun h=>hq.use (h:=h) (C:=fun r' h'=>r'=x∧h'=h) hb.1 hb.2 ⟨rfl,rfl⟩;obtain⟨g,cs,e1,_⟩:=this [];refine⟨g,cs,e1,x,hK,fun e=> ?_⟩;obtain⟨g',bV,e2,h9⟩:=this (s.h++e);rw[e1]at e2;cases e2
     exact h9
   ·cases h1
  ·exact xT (C:=fun x h'=>K ((s.wh h').put o.dst x)) h1 b7 hK
 ·exact xT (C:=fun x h'=>K ((s.wh h').put o.dst x)) h1 b7 hK
theorem XJ{o:Oper}{ρ:Operand→AV}{h h':agU an}{fc:agU AV}{H H':agU an}{r x:AV}{i:In}(hk:cn o=6)(hr:tv P o.op ρ h (.zq [] fc H r H')=some (x,h',i)):h'=h++H'.map (an.o0 (rn [] h.length)):=by
 unfold cn at hk;split at hk
 all_goals first|(cases hk;done)|skip
 next c gh=>
  split at hk
  all_goals first|(cases hk;done)|skip
  next f hc=>
   rw[gh]at hr;unfold tv at hr;simp only[hc]at hr;generalize ρ f=v at hr;cases v<;>first|(cases hr;rfl)|cases hr
theorem NZ(h:n9 P dr o j as s=some (s1,l))(b7:gF P l)(hK:K s1):GD P dr o K s:=by
 unfold n9 at h;cases hd:dr&&AP (iq as (3*j+1))&& !xW o (iq as (3*j+1))with
 |true=>rw[hd]at h;cases h
 |false=>
  rw[hd]at h;simp only[cond_false]at h;split at h
  ·next x h' i hr=>
   have fin:OK P i (iq as (3*j+1))→K ((s.wh h').put o.dst x)→GD P dr o K s:=fun h1 h2=>by
    unfold GD;cases dr with
    |true=>
     unfold Fp at hr;split at hr
     ·next va e=>
      cases hv:iW o with
      |false=>rw[hv]at hr;cases hr
      |true=>
       rw[hv]at hr;simp only[Bool.not_true,Bool.and_false,cond_false]at hr;split at hr
       ·next x2 TZ p e2=>
        cases hr
        rw[e]at h1;cases h1 with|pr _ hp=>exact .inr (.inr (.inl ⟨hv,va,x,h',p,e2,hp,h2⟩))
       ·cases hr
     ·by_cases hx:xW o (iq as (3*j+1))=true
      ·refine .inr (.inr (.inr ?_));generalize iq as (3*j+1)=a at hx h1 hr;unfold xW at hx;split at hx
       ·next fc H r H'=>
        have yG:cn o=6:=by simpa using hx
        have this:h'=s.h++H'.map (an.o0 (rn [] s.h.length)):=XJ yG hr;refine⟨yG,x,H'.map (an.o0 (rn [] s.h.length)),?_,fun C hC=> ?_⟩
        ·rw[←this];exact h2
        ·rw[←this]at hC;exact xT hr h1 hC
       ·cases hx
      ·exact Yg hr h1 (by simpa [hx]using hd) h2
    |false=>
     unfold Fp at hr;split at hr
     ·next va e=>
      simp only[Bool.false_and,cond_false]at hr;split at hr
      ·next x2 TZ p e2=>
       cases hr
       rw[e]at h1;cases h1 with|pr _ hp=>exact .inl ⟨va,x,h',p,e2,hp,h2⟩
      ·cases hr
     ·exact .inr (.inr (.inl (xT (C:=fun x h'=>K ((s.wh h').put o.dst x)) hr h1 h2)))
   split at h
   ·next y hy=>
    obtain⟨m,e,h2,h3⟩:=CU h b7;cases e
    have:=h2 (.eq x, .eq y) agb;cases this with|eq e=>subst e;exact fin h3 hK
   ·obtain⟨m,e,h2,h3⟩:=CU h b7;cases e
    exact fin h3 hK
  ·cases h
theorem I5(h:ml P ops dr o j as s=some (s1,l))(b7:gF P l)(hK:K s1):iw ops o s (GD P dr o K s) (K (s.put o.dst (.d (.v undef)))):=by
 unfold ml at h;split at h
 ·next hg=>unfold iw;rw[hg];exact NZ h b7 hK
 ·next g want hg=>
  obtain⟨dst,op,ty,pos,after,guard⟩:=o;simp only at hg;subst hg;split at h
  ·next b hb=>
   obtain⟨n,e,h2,h3⟩:=vB h b7;have h4:=OK.Dh (h3 (_,_) agb);rw[Dj,h4];refine⟨fun e2=> ?_,fun e2=> ?_⟩
   ·subst e2;simp only[BEq.rfl,cond_true]at e;exact NZ e h2 hK
   ·subst e2;have:((!want)==want)=false:=by cases want<;>rfl
    rw[this]at e;simp only[cond_false]at e;cases e
    exact hK
  ·next hb=>
   obtain⟨n,e,h2,h3⟩:=vB h b7;cases e
   have h4:=h3 (_,_) agb;have h5:sf ops g s.t= .d (.v undef):=by
    generalize sf ops g s.t=z at h4;cases h4;rfl
   rw[Dj,h5];exact hK
  ·cases h
theorem vr:∀(ol:agU Oper)(j:Nat)(s:St)(l:agU (In×b5)),lW P ops dr ol j as s=some (s1,l)→gF P l→K s1→(bif dr then Bf P ops ol K s else pQ P ops ol K s)
 |[],_,s,l,h,_,hK=>by cases h;cases dr<;>exact hK
 |o::rest,j,s,l,h,b7,hK=>by
  unfold lW at h;split at h
  ·next s2 m hg=>
   obtain⟨n,e,h2,h3⟩:=vB h b7;have ih:=vr rest (j+1) s2 n e h2 hK;cases dr with
   |true=>exact I5 (K:=Bf P ops rest K) hg h3 ih
   |false=>exact I5 (K:=pQ P ops rest K) hg h3 ih
  ·cases h
theorem L4(s:St)(d:agW Nat)(x:AV):∃pre,(s.put d x).t=pre++s.t:=by
 cases d with
 |none=>exact⟨[],rfl⟩
 |some k=>
  by_cases hk:k<s.n
  ·exact⟨[(k,x)],by rw[oC hk];rfl⟩
  ·exact⟨[],by rw[Ch hk];rfl⟩
theorem P4(h:ml P ops dr o j as s=some (s1,l)):(∃pre,s1.t=pre++s.t)∧s1.n=s.n:=by
 have cI:∀{i a r l},si i a r=some (s1,l)→∃m,r=some (s1,m):=fun{i a r l} h=>by
  unfold si at h;split at h
  ·exact⟨_,h⟩
  ·split at h
   ·cases h;exact⟨_,rfl⟩
   ·cases h
 have cR:∀{m r l},nW m r=some (s1,l)→∃m,r=some (s1,m):=fun{m r l} h=>by
  unfold nW at h;split at h
  ·cases h;exact⟨_,rfl⟩
  ·cases h
 have st:∀l,n9 P dr o j as s=some (s1,l)→(∃pre,s1.t=pre++s.t)∧s1.n=s.n:=fun l h=>by
  unfold n9 at h;cases hd:dr&&AP (iq as (3*j+1))&& !xW o (iq as (3*j+1))with
  |true=>rw[hd]at h;cases h
  |false=>
   rw[hd]at h;simp only[cond_false]at h;split at h
   ·split at h<;>(obtain⟨m,e⟩:=cI h;cases e;exact⟨L4 _ _ _,by rw[nU];rfl⟩)
   ·cases h
 unfold ml at h;split at h
 ·exact st _ h
 ·split at h
  ·obtain⟨m,e⟩:=cR h;revert e;generalize ((_:Bool)==_)=q;intro e;cases q with
   |true=>exact st _ e
   |false=>cases e;exact⟨L4 _ _ _,by unfold Ck;rw[nU]⟩
  ·obtain⟨m,e⟩:=cR h;cases e;exact⟨L4 _ _ _,by unfold Ck;rw[nU]⟩
  ·cases h
theorem L8:∀(ol:agU Oper)(j:Nat)(s:St)(l:agU (In×b5)),lW P ops dr ol j as s=some (s1,l)→(∃pre,s1.t=pre++s.t)∧s1.n=s.n
 |[],_,s,l,h=>by cases h;exact⟨⟨[],rfl⟩,rfl⟩
 |o::rest,j,s,l,h=>by
  unfold lW at h;split at h
  ·next s2 m hg=>
   unfold nW at h;split at h
   ·next s3 n e=>
    cases h
    obtain⟨⟨p1,e1⟩,n1⟩:=P4 hg;obtain⟨⟨p2,e2⟩,n2⟩:=L8 rest (j+1) s2 n e;exact⟨⟨p2++p1,by rw[e2,e1,agn]⟩,n2.trans n1⟩
   ·cases h
  ·cases h
end
def TD:AV→Bool
 | .dead=>true
 |_=>false
def ot(P:agX)(dr:Bool)(l:agU Oper)(as:agU (Nat×b5))(keep:agU Nat)(s:St):agW (agU (Nat×AV)×agU an×agU (In×b5)):=
 match lW P l.toArray dr l 0 as s with
 |some (s1,ps)=>bif (s1.t.take (s1.t.length-s.t.length)).all (fun p=>keep.any (·==p.1)||TD (bm s.t p.1))then some (keep.map fun k=>(k,bm s1.t k),s1.h,ps)else none
 |none=>none
theorem CB:∀(a b:agU (Nat×AV))(i:Nat),(i∈a.map (·.1)∧bm (a++b) i=bm a i)∨(i ∉ a.map (·.1)∧bm (a++b) i=bm b i)
 |[],b,i=> .inr ⟨by simp,rfl⟩
 |(k,x)::a,b,i=>by
  by_cases e:i=k
  ·subst e;exact .inl ⟨by simp,by simp [kL]⟩
  ·rcases CB a b i with⟨h1,h2⟩|⟨h1,h2⟩
   ·exact .inl ⟨by simp at h1 ⊢;exact .inr h1,by rw[List.cons_append,kL,if_neg e,h2,kL,if_neg e]⟩
   ·exact .inr ⟨by simp at h1 ⊢;exact⟨e,h1⟩,by rw[List.cons_append,kL,if_neg e,h2]⟩
section
variable {P:agX} {dr:Bool} {as:agU (Nat×b5)} {s s1 s':St} {ps:agU (In×b5)} {keep:agU Nat} {ol:agU Oper} {Δ:agU (Nat×AV)} {h':agU an}
theorem Gk(h:ot P dr ol as keep s=some (Δ,h',ps)):∃s1,lW P ol.toArray dr ol 0 as s=some (s1,ps)∧s1.n=s.n∧s1.h=h'∧∀i,bm (Δ++s.t) i=bm s1.t i∨bm (Δ++s.t) i= .dead:=by
 unfold ot at h;split at h
 ·next s1 Vd hr=>
  obtain⟨hb,he⟩:=dJ h;cases he
  obtain⟨⟨pre,e1⟩,n1⟩:=L8 _ _ _ _ hr;refine⟨s1,hr,n1,rfl,fun i=> ?_⟩;have BB:∀(f:Nat→AV),(keep.map fun k=>(k,f k)).map (·.1)=keep:=fun f=>by rw[List.map_map];exact List.map_id _
  rcases CB (keep.map fun k=>(k,bm s1.t k)) s.t i with⟨h1,h2⟩|⟨h1,h2⟩
  ·rw[BB]at h1;rw[h2,mS (fun k=>bm s1.t k),if_pos h1];exact .inl rfl
  ·rw[BB]at h1;rw[h2];rw[e1,af6,Nat.add_sub_cancel,List.take_left']at hb
   ·rw[e1];rcases CB pre s.t i with⟨h3,h4⟩|⟨h3,h4⟩
    ·right
     obtain⟨p,hp,rfl⟩:=List.mem_map.1 h3;have:=agw.1 hb p hp;rw[Bool.or_eq_true]at this;rcases this with this|this
     ·exfalso;obtain⟨k,hk,e⟩:=List.any_eq_true.1 this;rw[beq_iff_eq]at e;exact h1 (e▸hk)
     ·generalize bm s.t p.1=z at this;cases z<;>first|rfl|cases this
    ·exact .inl h4.symm
   ·rfl
 ·cases h
theorem cT.less{G:Gh}{w:agZ}{a:Act}(hs:cT G w a s1)(hn:s'.n=s1.n)(hh:s'.h=s1.h)(ht:∀i,bm s'.t i=bm s1.t i∨bm s'.t i= .dead):cT G w a s':=
 ⟨hs.size.trans hn.symm,fun i=>by
  rcases ht i with e|e
  ·rw[e];exact hs.tmp i
  ·rw[e];exact .dead _,by rw[hh];exact hs.inv,hs.df⟩
end
structure Ob(P:Program) where
 i:In
 o:b5
 ok:OK P i o
def bT{P:agX}{e:Bool}(h:e=true):Ob P:=⟨_,_, .bit (b:=true) h⟩
def bF{P:agX}{e:Bool}(h:e=false):Ob P:=⟨_,_, .bit (b:=false) h⟩
def uN{P:agX}:Ob P:=⟨_,_, .yH⟩
def cL{P:agX}{f:FuncId}{args:agU AV}{r:AV}(h:bA P f args (·=r)):Ob P:=⟨_,_, .call h⟩
def jO{P:agX}(l:agU (Nat×Ob P)):agU (Nat×b5):=l.map fun b=>(b.1,b.2.o)
def jF{P:agX}(l:agU (Nat×Ob P)):agU (In×b5):=l.map fun b=>(b.2.i,b.2.o)
theorem qk{P:agX}(l:agU (Nat×Ob P)):gF P (jF l):=fun p hp=>by
 obtain⟨b,_,rfl⟩:=List.mem_map.1 hp;exact b.2.ok
section
variable {P:agX} {r:agW Nat} {N0 id:Nat} {ol:agU Oper} {y:Code} {s:St} {Q Q':Exit→St→Prop} {bo:agU (Nat×Ob P)} {Δ:agU (Nat×AV)} {h':agU an}
theorem Fx{c:Code}{s':St}(hn:s'.n=s.n)(hh:s'.h=s.h)(ht:∀i,bm s'.t i=bm s.t i∨bm s'.t i= .dead)(h:bB P r N0 c Q s'):bB P r N0 c Q s:=
 ⟨fun G w a n hs hN=>h.run G w a n (hs.less hn hh ht) hN⟩
theorem Ti(bo:agU (Nat×Ob P))(Δ:agU (Nat×AV))(h':agU an)(h:ot P false ol (jO bo) (Δ.map (·.1)) s=some (Δ,h',jF bo))(k:bB P r N0 y Q' ⟨s.n,Δ++s.t,h'⟩):bB P r N0 (.region id ol.toArray false) (hO (fun s=>bB P r N0 y Q' s) Q) s:=by
 obtain⟨s1,h1,h2,h3,h4⟩:=Gk h;refine e7 ?_;exact vr (dr:=false) ol 0 s _ h1 (qk bo) (Fx (s:=s1) (s':=⟨s.n,Δ++s.t,h'⟩) h2.symm h3.symm h4 k)
theorem acT(hm:P.follows .mixedOrders=true)(hl:nI ol.toArray=true)(bo:agU (Nat×Ob P))(Δ:agU (Nat×AV))(h':agU an)(h:ot P true ol (jO bo) (Δ.map (·.1)) s=some (Δ,h',jF bo))(k:bB P r N0 y Q' ⟨s.n,Δ++s.t,h'⟩):bB P r N0 (.region id ol.toArray true) (hO (fun s=>bB P r N0 y Q' s) Q) s:=by
 obtain⟨s1,h1,h2,h3,h4⟩:=Gk h;refine DV hm hl ?_;exact vr (dr:=true) ol 0 s _ h1 (qk bo) (Fx (s:=s1) (s':=⟨s.n,Δ++s.t,h'⟩) h2.symm h3.symm h4 k)
def vI(P:agX)(dr:Bool)(l:agU Oper)(as:agU (Nat×b5))(s:St):agW (agU (Nat×AV)×agU an×agU (In×b5)):=
 match lW P l.toArray dr l 0 as s with
 |some (s1,ps)=>some (s1.t,s1.h,ps)
 |none=>none
theorem Ro{dr:Bool}{as:agU (Nat×b5)}{t:agU (Nat×AV)}{ps:agU (In×b5)}(h:vI P dr ol as s=some (t,h',ps)):lW P ol.toArray dr ol 0 as s=some (⟨s.n,t,h'⟩,ps):=by
 unfold vI at h;split at h
 ·next s1 Vd hr=>
  cases h
  obtain⟨_,n1⟩:=L8 _ _ _ _ hr;rw[hr,←n1]
 ·cases h
theorem abf(bo:agU (Nat×Ob P))(Δ:agU (Nat×AV))(h':agU an)(h:vI P false ol (jO bo) s=some (Δ++s.t,h',jF bo))(k:Q .normal ⟨s.n,Δ++s.t,h'⟩):bB P r N0 (.region id ol.toArray false) Q s:=
 e7 (vr (dr:=false) ol 0 s _ (Ro h) (qk bo) k)
theorem ZH(hm:P.follows .mixedOrders=true)(hl:nI ol.toArray=true)(bo:agU (Nat×Ob P))(Δ:agU (Nat×AV))(h':agU an)(h:vI P true ol (jO bo) s=some (Δ++s.t,h',jF bo))(k:Q .normal ⟨s.n,Δ++s.t,h'⟩):bB P r N0 (.region id ol.toArray true) Q s:=
 DV hm hl (vr (dr:=true) ol 0 s _ (Ro h) (qk bo) k)
end
def AV.fin(m:Nat)(x:AV):AV:=(x.bz m).nrm
def an.mM:an→an
 | .cells cs=> .cells (cs.map AV.nrm)
 | .lp ls p as bd cs=> .lp ls p as bd (cs.map AV.nrm)
 | .it sn cs=> .it sn (cs.map AV.nrm)
 | .vec e k cs=> .vec e k (cs.map (·.map AV.nrm))
 |B=>B
def iA(s:St)(live:agU Nat)(m:Nat):agW St:=
 bif b8 m s.h.length&&(live.all fun k=>((bm s.t k).bz m).aO m)&&(((s.h.take m).map (an.bz m)).all (an.aO m))then some ⟨s.n,live.map fun k=>(k,(bm s.t k).fin m),((s.h.take m).map (an.bz m)).map an.mM⟩else none
theorem Ir{G:Gh}{w:agZ}{h:agU an}(hi:bO G w h):bO G w (h.map an.mM):=by
 have eN:∀(n:Nat)(B:an),(h.map an.mM)[n]?=some B→∃B',h[n]?=some B'∧B=B'.mM:=fun n B hB=>by
  rw[agc]at hB;cases hx:h[n]? with
  |none=>rw[hx]at hB;cases hB
  |some B'=>rw[hx]at hB;cases hB;exact⟨B',rfl,rfl⟩
 have dL:∀n b,bR (h.map an.mM) G n=some b→bR h G n=some b:=fun n b hb=>by
  obtain⟨B,hB,hb⟩:=j7 hb;obtain⟨B',h1,rfl⟩:=eN n B hB;rw[dC h1,←hb];cases B'<;>rfl
 refine⟨by rw[aga];exact hi.len,hi.z,hi.S,fun n B hB=> ?_,fun i j b h1 h2=>hi.inj i j b (dL i b h1) (dL j b h2),hi.gl⟩;obtain⟨B',h1,rfl⟩:=eN n B hB;have ee:=hi.dh n B' h1;cases B' with
 |gone=>trivial
 |front e k len=>exact ee
 |map kv=>exact ee
 |vec e k cs=>
  obtain⟨c1,c2,c3,c4⟩:=ee;refine⟨by rw[aga];exact c1,by rw[aga];exact c2,fun c hc=> ?_,?_⟩
  ·obtain⟨x,hx,rfl⟩:=List.mem_map.1 hc;rw[aga];exact c3 x hx
  ·rcases c4 with⟨d1,d2,A,d3⟩|⟨g,cap,cur,d1,d2,d3,d4,d5,d6,d7,d8,d9⟩
   ·exact .inl ⟨d1,by rw[d2];rfl,A,d3⟩
   ·refine .inr ⟨g,cap,cur,d1,by rw[aga];exact d2,d3,d4,by rw[aga];exact d5,d6,d7,d8,fun i j c x u hc hx hu=> ?_⟩;rw[agc]at hc;cases hy:cs[i]? with
    |none=>rw[hy]at hc;cases hc
    |some y=>
     rw[hy]at hc;cases hc
     rw[agc]at hx;cases hw:y[j]? with
     |none=>rw[hw]at hx;cases hx
     |some z=>rw[hw]at hx;cases hx;exact(d9 i j y z u hy hw hu).nrm
 |cells cs=>
  obtain⟨c1,c2,vs,T,c3,c4,c5⟩:=ee;refine⟨c1,c2,vs,T,c3,by rw[aga];exact c4,fun i u c hu hc=> ?_⟩;rw[agc]at hc;cases hx:cs[i]? with
  |none=>rw[hx]at hc;cases hc
  |some x=>rw[hx]at hc;cases hc;exact(c5 i u x hu hx).nrm
 |lp ls p as bd cs=>
  obtain⟨c1,c2,fn,vs,T,c3,c4,c5⟩:=ee;refine⟨c1,c2,fn,vs,T,c3,by rw[aga];exact c4,fun i u c hu hc=> ?_⟩;rw[agc]at hc;cases hx:cs[i]? with
  |none=>rw[hx]at hc;cases hc
  |some x=>rw[hx]at hc;cases hc;exact(c5 i u x hu hx).nrm
 |it sn cs=>
  obtain⟨c1,c2,fn,vs,T,c3,c4,c5⟩:=ee;refine⟨c1,c2,fn,vs,T,c3,by rw[aga];exact c4,fun i u c hu hc=> ?_⟩;rw[agc]at hc;cases hx:cs[i]? with
  |none=>rw[hx]at hc;cases hc
  |some x=>rw[hx]at hc;cases hc;exact(c5 i u x hu hx).nrm
section
variable {P:agX} {r:agW Nat} {n N0:Nat} {G:Gh} {w:agZ} {a:Act} {s s':St} {Q Q':Exit→St→Prop} {live:agU Nat} {m:Nat}
theorem aa0(h:iA s live m=some s'):s.wX live m∧s'.n=s.n∧s'.t=(live.map fun k=>(k,(bm s.t k).fin m))∧s'.h=((s.h.take m).map (an.bz m)).map an.mM:=by
 unfold iA at h;obtain⟨hb,rfl⟩:=dJ h;rw[af7,af7]at hb;exact⟨⟨dA.1 hb.1.1,hb.1.2,hb.2⟩,rfl,rfl,rfl⟩
theorem cT.iA(hs:cT G w a s)(h:iA s live m=some s'):cT (G.cut m) w a s':=by
 obtain⟨h1,h2,h3,h4⟩:=aa0 h;have hm:=hs.mask h1;refine⟨hs.size.trans h2.symm,fun i=> ?_,by rw[h4];exact Ir hm.inv,hs.df⟩;have:=hm.tmp i
 change aE _ _ _ (bm (live.map fun k=>(k,(bm s.t k).bz m)) i)at this
 rw[mS (fun k=>(bm s.t k).bz m)]at this;rw[h3,mS (fun k=>(bm s.t k).fin m)];split at this
 ·rename_i hi;rw[if_pos hi];exact this.nrm
 ·rename_i hi;rw[if_neg hi];exact .dead _
theorem Tx{c:Code}{ι:Type}(live:agU Nat)(m:Nat)(st:ι→St)(I:ι→Prop)(μ:ι→Nat)(i0:ι)(hm:N0≤m)(h0:Go.Proofs.YtphmhnabilhbgaaGreatDoor.iA s live m=some (st i0))(hI:I i0)
 (round:∀i,I i→bB P r N0 c (hO (fun s'=>∃i',Go.Proofs.YtphmhnabilhbgaaGreatDoor.iA s' live m=some (st i')∧I i'∧μ i'<μ i) Q) (st i)):bB P r N0 (.loop c) Q s:=by
 constructor
 intro G w a n hs _;refine Mt (fun(i:ι) a' w'=>∃G',I i∧bK N0 G w G' w'∧N0≤G'.N∧cT G' w' a' (st i)) μ i0 ⟨G.cut m,hI,nf _ _ _ _,hm,hs.iA h0⟩ ?_;rintro i a' w' ⟨G',hi,hE,hN,cy⟩;refine wpIn_mono ((round i hi).run G' w' a' n cy hN) fun e a1 w1 hn=> ?_;obtain⟨G1,s1,jr,fE,eM,hq⟩:=hn;cases e with
 |normal=>
  obtain⟨i',h1,h2,h3⟩:=hq;exact⟨i',⟨G1.cut m,h2,(hE.trans jr).trans (nf _ _ _ _),hm,eM.iA h1⟩,h3⟩
 |_=>exact⟨G1,s1,hE.trans jr,fE,eM,hq⟩
theorem gk{c:Code}(live:agU Nat)(m:Nat)(hm:N0≤m)(h0:Go.Proofs.YtphmhnabilhbgaaGreatDoor.iA s live m=some s')(h:bB P r N0 c Q s'):bB P r N0 c Q s:=by
 constructor
 intro G w a n hs _;exact wpIn_mono (h.run (G.cut m) w a n (hs.iA h0) hm) fun _ _ _ hn=>hn.trans (nf N0 G w m)
theorem XV{c y:Code}{ι:Type}(live:agU Nat)(m:Nat)(st:ι→St)(I:ι→Prop)(hm:N0≤m)(hc:bB P r N0 c (hO (fun s'=>∃i,Go.Proofs.YtphmhnabilhbgaaGreatDoor.iA s' live m=some (st i)∧I i) Q) s)(hy:∀i,I i→bB P r N0 y Q' (st i)):bB P r N0 c (hO (fun s=>bB P r N0 y Q' s) Q) s:=by
 refine hc.mono fun e s' h=> ?_;cases e with
 |normal=>obtain⟨i,h1,h2⟩:=h;exact gk live m hm h1 (hy i h2)
 |_=>exact h
def oG(P:agX)(s:St):agU ResultVar→agW (agU AV)
 |[]=>some []
 | .tmp t::l=>match oG P s l with
   |some xs=>some (bm s.t t::xs)
   |none=>none
 | .cell p t::l=>match tE s.h (bm s.t p)with
   |some (cs,off)=>match xr P t cs off,oG P s l with
    |some x,some xs=>some (x::xs)
    |_,_=>none
   |none=>none
def vg(P:agX)(rs:agU ResultVar)(s:St):agW AV:=
 match oG P s rs with
 |some l=>bif ((ja l).bz 0).aO 0 then some ((ja l).fin 0)else none
 |none=>none
def CI(P:agX)(fn:Func)(R:AV):Exit→St→Prop
 | .normal,s=>vg P fn.results.toList s=some R
 | .ret,s=>vg P fn.results.toList s=some R
 |_,_=>False
theorem zC:∀(l:agU ResultVar)(xs:agU AV)(C:agU AV→Prop),oG P s l=some xs→C xs→kY P s l C
 |[],xs,C,h,hC=>by cases h;exact hC
 | .tmp t::l,xs,C,h,hC=>by
   unfold oG at h;split at h
   ·next ys e=>cases h;exact zC l ys _ e hC
   ·cases h
 | .cell p t::l,xs,C,h,hC=>by
   unfold oG at h;split at h
   ·next cs off e=>
    split at h
    ·next x ys e1 e2=>cases h;exact HO e e1 (zC l ys _ e2 hC)
    ·cases h
   ·cases h
theorem QW{fn:Func}{R:AV}(h:vg P fn.results.toList s=some R):n7 P fn 0 (fun r h'=>h'=[]∧r.nrm=R) s:=by
 unfold vg at h;split at h
 ·next l e=>
  obtain⟨hb,rfl⟩:=dJ h;exact zC _ l _ e ⟨Nat.zero_le _,hb,by simp,by simp,rfl⟩
 ·cases h
theorem fJ{fn:Func}{R:AV}(h:vg P fn.results.toList s=some R):CI P fn R .ret s:=h
theorem pk{f:FuncId}{fn:Func}{c:Code}{args:agU AV}{R:AV}(hf:P.funcs[f]?=some fn)(hb:fn.body=some c)(hn:(fn.name== "runtime.NumGoroutine")=false)
 (hw:bB P none 0 c (CI P fn R) {n:=args.length+(fn.ntmps-args.length),t:=kg 0 args,h:=[]}):bA P f args (·=R):=by
 have h:=vO (P:=P) (f:=f) (args:=args) (h:=[]) (K:=fun r h'=>h'=[]∧r.nrm=R) 0 hf hb hn (agh _) (hw.mono fun e s hq=>by
  cases e with
  |normal=>exact QW hq
  |ret=>exact QW hq
  |_=>exact hq.elim)
 refine⟨h.1,fun G w vs hi hl hr=>(h.2 G w vs hi hl hr).mono fun e w' hp=> ?_⟩;obtain⟨v,G',x,h',rfl,hE,hN,dw,hv,rfl,rfl⟩:=hp;exact⟨v,G',x.nrm,[],rfl,hE,hN,dw,hv.nrm,rfl,rfl⟩
theorem afT{c:Code}(b i:Nat)(xs:agU (agU D))(hx:((s.h[b]?).bind fun B=>match B with| .cells cs=>(cs[i]?).bind AV.fw|_=>none)=some xs)(h:xs.length≤maxLen→bB P r N0 c Q s):bB P r N0 c Q s:=by
 constructor
 intro G w a n hs hN;cases hb:s.h[b]? with
 |none=>rw[hb]at hx;cases hx
 |some B=>
  rw[hb]at hx;cases B with
  |cells cs=>
   simp only[af4]at hx;obtain⟨_,_,vs,T,_,hl,hr⟩:=hs.inv.dh b _ hb;cases hc:cs[i]? with
   |none=>rw[hc]at hx;cases hx
   |some x=>
    rw[hc]at hx;have aN:i<vs.size:=by rw[hl];exact(af5.1 hc).1
    obtain⟨A,b',o,c',k',us,_,_,h1,h2,_⟩:=((hr i _ x (ags aN) hc).list hx).m8;exact(h (ago h1 h2)).run G w a n hs hN
  |_=>cases hx
end
theorem ZB{P:agX}{r:agW Nat}{N0 id:Nat}{ol:agU Oper}{y:Code}{s:St}{Q Q':Exit→St→Prop}(Δ:agU (Nat×AV))(h':agU an)(h:∃bo:agU (Nat×Ob P),ot P false ol (jO bo) (Δ.map (·.1)) s=some (Δ,h',jF bo))(k:bB P r N0 y Q' ⟨s.n,Δ++s.t,h'⟩):bB P r N0 (.region id ol.toArray false) (hO (fun s=>bB P r N0 y Q' s) Q) s:=
 let ⟨bo,h⟩:=h;Ti bo Δ h' h k
theorem dM{α:Type}{c:Bool}{a b:α}(h:c=true):cond c a b=a:=by rw[h];rfl
theorem fP{α:Type}{c:Bool}{a b:α}(h:c=false):cond c a b=b:=by rw[h];rfl
theorem au{α β:Type}{x:agW α}{f:α→agW β}{b:β}(h:Option.bind x f=some b):∃a,x=some a∧f a=some b:=by
 cases x with
 |none=>cases h
 |some a=>exact⟨a,rfl,h⟩
theorem fS(b:Bool):b=true∨b=false:=by cases b<;>simp
theorem dH{b:Bool}(h:b=true):(!b)=false:=by rw[h];rfl
theorem dK{b:Bool}(h:b=false):(!b)=true:=by rw[h];rfl
theorem iu{α:Type}{c:Bool}{x:agW α}{r:α}(h:(bif c then x else none)=some r):c=true:=by
 cases c with
 |true=>rfl
 |false=>cases h
section
variable {P:agX} {r:agW Nat} {N0 id n:Nat} {ol:agU Oper} {y:Code} {t:agU (Nat×AV)} {h:agU an} {Q Q':Exit→St→Prop}
theorem rg(bo:agU (Nat×Ob P))(Δ:agU (Nat×AV))(h':agU an)(e:ot P false ol (jO bo) (Δ.map (·.1)) ⟨n,t,h⟩=some (Δ,h',jF bo))(k:bB P r N0 y Q' ⟨n,Δ++t,h'⟩):bB P r N0 (.region id ol.toArray false) (hO (fun s=>bB P r N0 y Q' s) Q) ⟨n,t,h⟩:=Ti bo Δ h' e k
theorem rd(hm:P.follows .mixedOrders=true)(hl:nI ol.toArray=true)(bo:agU (Nat×Ob P))(Δ:agU (Nat×AV))(h':agU an)(e:ot P true ol (jO bo) (Δ.map (·.1)) ⟨n,t,h⟩=some (Δ,h',jF bo))(k:bB P r N0 y Q' ⟨n,Δ++t,h'⟩):bB P r N0 (.region id ol.toArray true) (hO (fun s=>bB P r N0 y Q' s) Q) ⟨n,t,h⟩:=acT hm hl bo Δ h' e k
theorem re(bo:agU (Nat×Ob P))(Δ:agU (Nat×AV))(h':agU an)(e:vI P false ol (jO bo) ⟨n,t,h⟩=some (Δ++t,h',jF bo))(k:Q .normal ⟨n,Δ++t,h'⟩):bB P r N0 (.region id ol.toArray false) Q ⟨n,t,h⟩:=abf bo Δ h' e k
theorem XT(hm:P.follows .mixedOrders=true)(hl:nI ol.toArray=true)(bo:agU (Nat×Ob P))(Δ:agU (Nat×AV))(h':agU an)(e:vI P true ol (jO bo) ⟨n,t,h⟩=some (Δ++t,h',jF bo))(k:Q .normal ⟨n,Δ++t,h'⟩):bB P r N0 (.region id ol.toArray true) Q ⟨n,t,h⟩:=ZH hm hl bo Δ h' e k
theorem N2(Δ:agU (Nat×AV))(h':agU an)(e:∃bo:agU (Nat×Ob P),ot P false ol (jO bo) (Δ.map (·.1)) ⟨n,t,h⟩=some (Δ,h',jF bo))(k:bB P r N0 y Q' ⟨n,Δ++t,h'⟩):bB P r N0 (.region id ol.toArray false) (hO (fun s=>bB P r N0 y Q' s) Q) ⟨n,t,h⟩:=ZB Δ h' e k
end
def bs(l:agU UInt8):agV:=⟨l.toArray⟩
def rC(x:D):Prop:=∃(S:Nat→Nat→Prop)(w:agZ)(u:agY),dq S w u x
theorem CF{xs:agU (agU D)}(h:rC (.sl xs)):xs.length≤maxLen:=by
 obtain⟨S,w,u,h⟩:=h;obtain⟨A,b',o,c',k',us,_,_,h1,h2,_⟩:=h.m8;exact ago h1 h2
theorem ZS{xs:agU (agU D)}{i j:Nat}{c:agU D}{d:D}(h:rC (.sl xs))(hc:xs[i]?=some c)(hd:c[j]?=some d):rC d:=by
 obtain⟨S,w,u,h⟩:=h;obtain⟨A,b',o,c',k',us,_,_,h1,h2,h3,h4,h5⟩:=h.m8;exact⟨S,w,_,h5 i j c d hc hd⟩
section
variable {P:agX} {r:agW Nat} {n N0:Nat} {s:St} {Q:Exit→St→Prop}
theorem oJ{c:Code}(k:Nat)(xs:agU (agU D))(hx:(bm s.t k).fw=some xs)(h:rC (.sl xs)→bB P r N0 c Q s):bB P r N0 c Q s:=by
 constructor
 intro G w a n hs hN;exact(h ⟨_,_,_,(hs.tmp k).list hx⟩).run G w a n hs hN
theorem aaV{c:Code}(b i:Nat)(xs:agU (agU D))(hx:((s.h[b]?).bind fun B=>match B with| .cells cs=>(cs[i]?).bind AV.fw|_=>none)=some xs)(h:rC (.sl xs)→bB P r N0 c Q s):bB P r N0 c Q s:=by
 constructor
 intro G w a n hs hN;cases hb:s.h[b]? with
 |none=>rw[hb]at hx;cases hx
 |some B=>
  rw[hb]at hx;cases B with
  |cells cs=>
   simp only[af4]at hx;obtain⟨_,_,vs,T,_,hl,hr⟩:=hs.inv.dh b _ hb;cases hc:cs[i]? with
   |none=>rw[hc]at hx;cases hx
   |some x=>
    rw[hc]at hx;have aN:i<vs.size:=by rw[hl];exact(af5.1 hc).1
    exact(h ⟨_,_,_,(hr i _ x (ags aN) hc).list hx⟩).run G w a n hs hN
  |_=>cases hx
end
end Go.Proofs.YtphmhnabilhbgaaGreatDoor
namespace Go.Proofs.YtphmhnabilhbgaaGreatDoor
open Go.RowKit
mutual
def AV.eK(b:Nat)(ds:agU D):AV→AV
 | .ptr n off=>bif n==b then .aW [ds] 0 off else .ptr n off
 | .agg cs=> .agg (AV.rM b ds cs)
 | .bU cs=> .bU (AV.rM b ds cs)
 | .fn f cs=> .fn f (AV.rM b ds cs)
 |x=>x
def AV.rM(b:Nat)(ds:agU D):agU AV→agU AV
 |[]=>[]
 |x::l=>x.eK b ds::AV.rM b ds l
end
theorem yK(b:Nat)(ds:agU D):∀l,AV.rM b ds l=l.map (AV.eK b ds)
 |[]=>by simp [AV.rM]
 |x::l=>by simp [AV.rM,yK b ds l]
def an.eK(b:Nat)(ds:agU D):an→an
 | .cells cs=> .cells (cs.map (AV.eK b ds))
 | .lp ls p as bd cs=> .lp ls p as bd (cs.map (AV.eK b ds))
 | .it sn cs=> .it sn (cs.map (AV.eK b ds))
 | .vec e k cs=> .vec e k (cs.map (·.map (AV.eK b ds)))
 |B=>B
def tR(s:St)(b:Nat):agW St:=
 match s.h[b]? with
 |some (.cells cs)=>match lN cs with
  |some ds=>some ⟨s.n,s.t.map fun p=>(p.1,p.2.eK b ds),(s.h.map (an.eK b ds)).set b .gone⟩
  |none=>none
 |_=>none
theorem s6(f:AV→AV)(hf:f .dead= .dead):∀(t:agU (Nat×AV))(i:Nat),bm (t.map fun p=>(p.1,f p.2)) i=f (bm t i)
 |[],i=>by simp [bm,hf]
 |(k,x)::l,i=>by
  simp only[agv,kL,s6 f hf l i];split<;>rfl
theorem aE.eK{G G':Gh}{w:agZ}{b:Nat}{ds:agU D}(hE:bK G.N G w G' w)(hN:G'.N=G.N)(hp:∀off,aE G' w (.pointer (some ⟨G.bg b,off,none⟩)) (.aW [ds] 0 off)){u:agY}{x:AV}(h:aE G w u x):aE G' w u (x.eK b ds):=by
 have keep:∀{u:agY}{x:AV},aE G w u x→aE G' w u x:=fun h=>h.keep hE (Nat.le_of_eq hN.symm);have e8:∀(vs:Array agY)(cs:agU AV),(∀(i:Nat)(u:agY)(c:AV),vs[i]?=some u→cs[i]?=some c→aE G' w u (c.eK b ds))→∀(i:Nat)(u:agY)(c:AV),vs[i]?=some u→(AV.rM b ds cs)[i]?=some c→aE G' w u c:=by
  intro vs cs ih i u c hu hc;rw[yK,agc]at hc;cases hx:cs[i]? with
  |none=>rw[hx]at hc;cases hc
  |some x=>rw[hx]at hc;cases hc;exact ih i u x hu hx
 induction h with
 |agg vs cs hl _ ih=>rw[AV.eK];exact .agg vs _ (by rw[yK,aga];exact hl) (e8 vs cs ih)
 |bU vs cs hl _ ih=>rw[AV.eK];exact .bU vs _ (by rw[yK,aga];exact hl) (e8 vs cs ih)
 |fn f vs cs hl _ ih=>rw[AV.eK];exact .fn f vs _ (by rw[yK,aga];exact hl) (e8 vs cs ih)
 |ptr n off h=>
  rw[AV.eK,cond_eq_ite];split
  ·next e=>rw[beq_iff_eq]at e;subst e;exact hp off
  ·exact keep (.ptr n off h)
 |own n xs h hp hle hf=>simp only[AV.eK];exact keep (.own n xs h hp hle hf)
 |d h=>simp only[AV.eK];exact keep (.d h)
 |aW xs i off b o u x hx hS hu=>simp only[AV.eK];exact keep (.aW xs i off b o u x hx hS hu)
 |full xs hp hf=>simp only[AV.eK];exact keep (.full xs hp hf)
 |row n off len cap k h hl hm=>simp only[AV.eK];exact keep (.row n off len cap k h hl hm)
 |mp n h=>simp only[AV.eK];exact keep (.mp n h)
 |c7 n h=>simp only[AV.eK];exact keep (.c7 n h)
 |vec n o len L k h hs hL hf=>simp only[AV.eK];exact keep (.vec n o len L k h hs hL hf)
 |de n i j L k h hs hL hf=>simp only[AV.eK];exact keep (.de n i j L k h hs hL hf)
 |hid h h1=>simp only[AV.eK];exact keep (.hid h h1)
 |dead u=>simp only[AV.eK];exact .dead u
theorem Ny:∀(cs:agU AV)(ds:agU D),lN cs=some ds→cs.length=ds.length∧∀(i:Nat)(c:AV)(d:D),cs[i]?=some c→ds[i]?=some d→c.uM=some d
 |[],ds,h=>by unfold lN at h;cases h;exact⟨rfl,fun i c d hc=>by simp at hc⟩
 |x::cs,ds,h=>by
  unfold lN at h;split at h
  ·next d l e1 e2=>
   cases h
   obtain⟨h1,h2⟩:=Ny cs l e2;refine⟨by simp [h1],fun i c d' hc hd=> ?_⟩
   match i with
   |0=>simp only[List.getElem?_cons_zero,Option.some.injEq]at hc hd;subst hc;subst hd;exact e1
   |i+1=>exact h2 i c d' (by simpa using hc) (by simpa using hd)
  ·cases h
theorem aE.abo{G:Gh}{w:agZ}{u:agY}{x:AV}{d:D}(h:aE G w u x)(hd:x.uM=some d):dq G.S w u d:=by
 cases h with
 |d h=>cases hd;exact h.vD
 |own n xs h hp=>cases hd;exact hp
 |full xs hp=>cases hd;exact hp
 |_=>cases hd
theorem cT.tR{G:Gh}{w:agZ}{a:Act}{s s':St}{b:Nat}(hs:cT G w a s)(h:tR s b=some s'):∃G',bK G.N G w G' w∧G'.N=G.N∧cT G' w a s':=by
 unfold Go.Proofs.YtphmhnabilhbgaaGreatDoor.tR at h;split at h
 ·next cs hb=>
  split at h
  ·next ds rO=>
   cases h
   obtain⟨z1,z2,vs,T,z3,z4,z5⟩:=hs.inv.dh b _ hb;obtain⟨d1,d2⟩:=Ny cs ds rO;have kW:bR s.h G b=some (G.bg b):=dC hb;obtain⟨S,hS⟩:∃S:Nat→Nat→Prop,S=fun b' o=>G.S b' o∨(b'=G.bg b∧o<ds.length):=⟨_,rfl⟩;have hE:bK G.N G w {G with S:=S} w:=⟨agh _,fun b o h=>by show S b o;rw[hS];exact .inl h,fun _ _ _=>rfl,fun _ _=>rfl,fun _ _=> .inl ⟨rfl,rfl⟩,fM rfl,fun _ _=>rfl,rfl,rfl,rfl,fun b' o hs=>by
    have cy:S b' o:=hs;rw[hS]at cy;rcases cy with h|⟨rfl,_⟩
    ·exact .inl h
    ·exact .inr z1⟩
   have hp:∀off,aE {G with S:=S} w (.pointer (some ⟨G.bg b,off,none⟩)) (.aW [ds] 0 off):=fun off=>by
    have:=aE.aW (G:={G with S:=S}) (w:=w) [ds] 0 off (G.bg b) 0 (fun j=>vs.getD j undef) ds rfl (fun j hj=> ?_) (fun j d hd=> ?_)
    ·rwa [agq]at this
    ·have iy:j<vs.size:=by rw[z4,d1];exact hj
     refine⟨by show S _ _;rw[hS];exact .inr ⟨rfl,by rw[agq];exact hj⟩,?_⟩;rw[agq,cell_of_row w (G.bg b) j vs T (0,0) z3];simp [Array.getD,iy]
    ·have hj:j<ds.length:=(af5.1 hd).1;have iy:j<vs.size:=by rw[z4,d1];exact hj
     have hc:cs[j]?=some cs[j]:=af9 (by rw[d1];exact hj);have hv:=z5 j vs[j] _ (ags iy) hc;have e:vs.getD j undef=vs[j]:=by simp [Array.getD,iy]
     rw[e];exact(hv.abo (d2 j _ d hc hd)).keep hE.S hE.cell
   have hv:∀{u:agY}{x:AV},aE G w u x→aE {G with S:=S} w u (x.eK b ds):=fun h=>h.eK hE rfl hp;have adC:=(af5.1 hb).1;have eN:∀(n:Nat)(B:an),((s.h.map (an.eK b ds)).set b .gone)[n]?=some B→(n=b∧B= .gone)∨(n≠b∧∃B',s.h[n]?=some B'∧B=B'.eK b ds):=fun n B hB=>by
    by_cases e:b=n
    ·subst e;rw[agz (by rw[aga];exact adC)]at hB;cases hB;exact .inl ⟨rfl,rfl⟩
    ·rw[agE e,agc]at hB;cases hx:s.h[n]? with
     |none=>rw[hx]at hB;cases hB
     |some B'=>rw[hx]at hB;cases hB;exact .inr ⟨fun h=>e h.symm,B',rfl,rfl⟩
   have dL:∀n x,bR ((s.h.map (an.eK b ds)).set b .gone) {G with S:=S} n=some x→n≠b∧bR s.h G n=some x:=fun n x hx=>by
    obtain⟨B,hn,hx⟩:=j7 hx;rcases eN n _ hn with⟨_,e⟩|⟨cO,B',h1,rfl⟩
    ·subst e;cases hx
    ·refine⟨cO,?_⟩;rw[dC h1,←hx];cases B'<;>rfl
   refine⟨{G with S:=S},hE,rfl,hs.size,fun i=> ?_,⟨by rw[List.length_set,aga];exact hs.inv.len,hs.inv.z,fun b' o h=> ?_,fun n B hB=> ?_,fun m n x h1 h2=>hs.inv.inj m n x (dL m x h1).2 (dL n x h2).2,hs.inv.gl.keep hE⟩,hs.df⟩
   ·show aE _ _ _ (bm (s.t.map fun p=>(p.1,p.2.eK b ds)) i);rw[s6 (AV.eK b ds) (by simp [AV.eK])];exact hv (hs.tmp i)
   ·have cy:S b' o:=h;rw[hS]at cy;rcases cy with h|⟨rfl,_⟩
    ·exact hs.inv.S b' o h
    ·exact(agl.1 z3).1
   ·rcases eN n B hB with⟨rfl,rfl⟩|⟨cO,B',h1,rfl⟩
    ·trivial
    ·have ee:=hs.inv.dh n B' h1;cases B' with
     |gone=>trivial
     |map kv=>exact dY.keep (G':={G with S:=S}) (hs.inv.lt h1) hE (agh _) ⟨rfl,rfl,rfl⟩ (fun c hc=>⟨rfl,fun o jK hq=>by
      have cy:S c o:=hq;rw[hS]at cy;rcases cy with h|⟨e,_⟩
      ·exact jK h
      ·exact cO (hs.inv.inj n b _ ((dC h1).trans hc) (by rw[e];exact kW))⟩) ee
     |front e k len=>exact dY.keep (G':={G with S:=S}) (hs.inv.lt h1) hE (agh _) ⟨rfl,rfl,rfl⟩ (fun c hc=>⟨rfl,fun o jK hq=>by
      have cy:S c o:=hq;rw[hS]at cy;rcases cy with h|⟨e,_⟩
      ·exact jK h
      ·exact cO (hs.inv.inj n b _ ((dC h1).trans hc) (by rw[e];exact kW))⟩) ee
     |cells bV=>
      obtain⟨c1,c2,ft,T',c3,c4,c5⟩:=ee;have kQ:bR s.h G n=some (G.bg n):=dC h1;refine⟨c1,fun o hq=> ?_,ft,T',c3,by rw[aga];exact c4,fun i u c hu hc=> ?_⟩
      ·have cy:S (G.bg n) o:=hq;rw[hS]at cy;rcases cy with h|⟨e,_⟩
       ·exact c2 o h
       ·exact cO (hs.inv.inj n b _ kQ (by rw[e];exact kW))
      ·rw[agc]at hc;cases hx:bV[i]? with
       |none=>rw[hx]at hc;cases hc
       |some x=>rw[hx]at hc;cases hc;exact hv (c5 i u x hu hx)
     |lp ls p as bd bV=>
      obtain⟨c1,c2,fn,ft,T',c3,c4,c5⟩:=ee;have kQ:bR s.h G n=some (G.bg n):=dC h1;refine⟨c1,fun o hq=> ?_,fn,ft,T',c3,by rw[aga];exact c4,fun i u c hu hc=> ?_⟩
      ·have cy:S (G.bg n) o:=hq;rw[hS]at cy;rcases cy with h|⟨e,_⟩
       ·exact c2 o h
       ·exact cO (hs.inv.inj n b _ kQ (by rw[e];exact kW))
      ·rw[agc]at hc;cases hx:bV[i]? with
       |none=>rw[hx]at hc;cases hc
       |some x=>rw[hx]at hc;cases hc;exact hv (c5 i u x hu hx)
     |it sn bV=>
      obtain⟨c1,c2,fn,ft,T',c3,c4,c5⟩:=ee;have kQ:bR s.h G n=some (G.bg n):=dC h1;refine⟨c1,fun o hq=> ?_,fn,ft,T',c3,by rw[aga];exact c4,fun i u c hu hc=> ?_⟩
      ·have cy:S (G.bg n) o:=hq;rw[hS]at cy;rcases cy with h|⟨e,_⟩
       ·exact c2 o h
       ·exact cO (hs.inv.inj n b _ kQ (by rw[e];exact kW))
      ·rw[agc]at hc;cases hx:bV[i]? with
       |none=>rw[hx]at hc;cases hc
       |some x=>rw[hx]at hc;cases hc;exact hv (c5 i u x hu hx)
     |vec e k bV=>
      obtain⟨c1,c2,c3,c4⟩:=ee;refine⟨by rw[aga];exact c1,by rw[aga];exact c2,fun c hc=> ?_,?_⟩
      ·obtain⟨x,hx,rfl⟩:=List.mem_map.1 hc;rw[aga];exact c3 x hx
      ·rcases c4 with⟨d1,d2,A,d3⟩|⟨g,cap,cur,d1,d2,d3,d4,d5,d6,d7,d8,d9⟩
       ·exact .inl ⟨d1,by rw[d2];rfl,A,d3⟩
       ·have kQ:bR s.h G n=some g:=(dC h1).trans d1;refine .inr ⟨g,cap,cur,d1,by rw[aga];exact d2,d3,d4,by rw[aga];exact d5,d6,d7,fun o hq=> ?_,fun i j c x u hc hx hu=> ?_⟩
        ·have cy:S g o:=hq;rw[hS]at cy;rcases cy with h|⟨e,_⟩
         ·exact d8 o h
         ·exact cO (hs.inv.inj n b _ kQ (by rw[e];exact kW))
        ·rw[agc]at hc;cases hy:bV[i]? with
         |none=>rw[hy]at hc;cases hc
         |some y=>
          rw[hy]at hc;cases hc
          rw[agc]at hx;cases hw:y[j]? with
          |none=>rw[hw]at hx;cases hx
          |some z=>rw[hw]at hx;cases hx;exact hv (d9 i j y z u hy hw hu)
  ·cases h
 ·cases h
theorem Pm{P:agX}{r:agW Nat}{N0:Nat}{c:Code}{s s':St}{Q:Exit→St→Prop}(b:Nat)(e:tR s b=some s')(h:bB P r N0 c Q s'):bB P r N0 c Q s:=by
 constructor
 intro G w a n hs hN;obtain⟨G',hE,EF,cy⟩:=hs.tR e;exact wpIn_mono (h.run G' w a n cy (by rw[EF];exact hN)) fun _ _ _ hn=>hn.trans (hE.less hN)
def D.lY:D→Bool
 | .v u=>u.oneCell'
 | .sl _=>true
mutual
def AV.kill(b:Nat):AV→AV
 | .vec n o len L k=>bif n==b then .dead else .vec n o len L k
 | .de n i j L k=>bif n==b then .dead else .de n i j L k
 | .agg cs=> .agg (AV.EN b cs)
 | .bU cs=> .bU (AV.EN b cs)
 | .fn f cs=> .fn f (AV.EN b cs)
 |x=>x
def AV.EN(b:Nat):agU AV→agU AV
 |[]=>[]
 |x::l=>x.kill b::AV.EN b l
end
def an.gZ(f:AV→AV):an→an
 | .cells cs=> .cells (cs.map f)
 | .lp ls p as bd cs=> .lp ls p as bd (cs.map f)
 | .it sn cs=> .it sn (cs.map f)
 | .vec e k cs=> .vec e k (cs.map (·.map f))
 |B=>B
theorem S0{G:Gh}{w:agZ}{h:agU an}(hi:bO G w h){b:Nat}{S:Nat→Nat→Prop}{f:AV→AV}(hE:bK G.N G w {G with S:=S} w)(hS:∀c o,S c o→G.S c o∨bR h G b=some c)(hv:∀{u:agY}{x:AV},aE G w u x→aE {G with S:=S} w u (f x)):
 bO {G with S:=S} w ((h.map (an.gZ f)).set b .gone):=by
 have eN:∀(n:Nat)(B:an),((h.map (an.gZ f)).set b .gone)[n]?=some B→(n=b∧B= .gone)∨(n≠b∧∃B',h[n]?=some B'∧B=B'.gZ f):=fun n B hB=>by
  by_cases e:b=n
  ·subst e;have aN:=(af5.1 hB).1;rw[List.length_set]at aN;rw[agz aN]at hB;cases hB;exact .inl ⟨rfl,rfl⟩
  ·rw[agE e,agc]at hB;cases hx:h[n]? with
   |none=>rw[hx]at hB;cases hB
   |some B'=>rw[hx]at hB;cases hB;exact .inr ⟨fun h=>e h.symm,B',rfl,rfl⟩
 have dL:∀n x,bR ((h.map (an.gZ f)).set b .gone) {G with S:=S} n=some x→n≠b∧bR h G n=some x:=fun n x hx=>by
  obtain⟨B,hn,hx⟩:=j7 hx;rcases eN n _ hn with⟨_,e⟩|⟨cO,B',h1,rfl⟩
  ·subst e;cases hx
  ·refine⟨cO,?_⟩;rw[dC h1,←hx];cases B'<;>rfl
 refine⟨by rw[List.length_set,aga];exact hi.len,hi.z,fun c o hs=> ?_,fun n B hB=> ?_,fun m n x h1 h2=>hi.inj m n x (dL m x h1).2 (dL n x h2).2,hi.gl.keep hE⟩
 ·rcases hS c o hs with h1|h1
  ·exact hi.S c o h1
  ·exact hi.iC h1
 ·rcases eN n B hB with⟨rfl,rfl⟩|⟨cO,B',h1,rfl⟩
  ·trivial
  ·have ee:=hi.dh n B' h1;have fu:∀c,B'.dU G n=some c→∀o,¬G.S c o→¬S c o:=fun c hc o jK hq=>by
    rcases hS c o hq with h2|h2
    ·exact jK h2
    ·exact cO (hi.inj n b c ((dC h1).trans hc) h2)
   cases B' with
   |gone=>trivial
   |map kv=>exact dY.keep (G':={G with S:=S}) (hi.lt h1) hE (agh _) ⟨rfl,rfl,rfl⟩ (fun c hc=>⟨rfl,fu c hc⟩) ee
   |front e k len=>exact dY.keep (G':={G with S:=S}) (hi.lt h1) hE (agh _) ⟨rfl,rfl,rfl⟩ (fun c hc=>⟨rfl,fu c hc⟩) ee
   |cells bV=>
    obtain⟨c1,c2,ft,T',c3,c4,c5⟩:=ee;refine⟨c1,fun o=>fu _ rfl o (c2 o),ft,T',c3,by rw[aga];exact c4,fun i u c hu hc=> ?_⟩;rw[agc]at hc;cases hx:bV[i]? with
    |none=>rw[hx]at hc;cases hc
    |some x=>rw[hx]at hc;cases hc;exact hv (c5 i u x hu hx)
   |lp ls p as bd bV=>
    obtain⟨c1,c2,fn,ft,T',c3,c4,c5⟩:=ee;refine⟨c1,fun o=>fu _ rfl o (c2 o),fn,ft,T',c3,by rw[aga];exact c4,fun i u c hu hc=> ?_⟩;rw[agc]at hc;cases hx:bV[i]? with
    |none=>rw[hx]at hc;cases hc
    |some x=>rw[hx]at hc;cases hc;exact hv (c5 i u x hu hx)
   |it sn bV=>
    obtain⟨c1,c2,fn,ft,T',c3,c4,c5⟩:=ee;refine⟨c1,fun o=>fu _ rfl o (c2 o),fn,ft,T',c3,by rw[aga];exact c4,fun i u c hu hc=> ?_⟩;rw[agc]at hc;cases hx:bV[i]? with
    |none=>rw[hx]at hc;cases hc
    |some x=>rw[hx]at hc;cases hc;exact hv (c5 i u x hu hx)
   |vec e k bV=>
    obtain⟨c1,c2,c3,c4⟩:=ee;refine⟨by rw[aga];exact c1,by rw[aga];exact c2,fun c hc=> ?_,?_⟩
    ·obtain⟨x,hx,rfl⟩:=List.mem_map.1 hc;rw[aga];exact c3 x hx
    ·rcases c4 with⟨d1,d2,A,d3⟩|⟨g,cap,cur,d1,d2,d3,d4,d5,d6,d7,d8,d9⟩
     ·exact .inl ⟨d1,by rw[d2];rfl,A,d3⟩
     ·refine .inr ⟨g,cap,cur,d1,by rw[aga];exact d2,d3,d4,by rw[aga];exact d5,d6,d7,fun o=>fu g d1 o (d8 o),fun i j c x u hc hx hu=> ?_⟩;rw[agc]at hc;cases hy:bV[i]? with
      |none=>rw[hy]at hc;cases hc
      |some y=>
       rw[hy]at hc;cases hc
       rw[agc]at hx;cases hw:y[j]? with
       |none=>rw[hw]at hx;cases hx
       |some z=>rw[hw]at hx;cases hx;exact hv (d9 i j y z u hy hw hu)
mutual
def AV.c6(b kk:Nat)(xs:agU (agU D)):AV→AV
 | .vec n o len L k=>bif n==b then(bif L==xs.length&&k==kk then .d (.sl ((xs.drop o).take len))else .dead)else .vec n o len L k
 | .de n i j L k=>bif n==b then .dead else .de n i j L k
 | .agg cs=> .agg (AV.m4 b kk xs cs)
 | .bU cs=> .bU (AV.m4 b kk xs cs)
 | .fn f cs=> .fn f (AV.m4 b kk xs cs)
 |x=>x
def AV.m4(b kk:Nat)(xs:agU (agU D)):agU AV→agU AV
 |[]=>[]
 |x::l=>x.c6 b kk xs::AV.m4 b kk xs l
end
theorem nX(b kk:Nat)(xs:agU (agU D)):∀l,AV.m4 b kk xs l=l.map (AV.c6 b kk xs)
 |[]=>by simp [AV.m4]
 |x::l=>by simp [AV.m4,nX b kk xs l]
theorem aE.c6{G G':Gh}{w:agZ}{b kk:Nat}{xs:agU (agU D)}(hE:bK G.N G w G' w)(hN:G'.N=G.N)(hp:∀(u:agY)(o len:Nat),aE G w u (.vec b o len xs.length kk)→dq G'.S w u (.sl ((xs.drop o).take len))){u:agY}{x:AV}(h:aE G w u x):aE G' w u (x.c6 b kk xs):=by
 have keep:∀{u:agY}{x:AV},aE G w u x→aE G' w u x:=fun h=>h.keep hE (Nat.le_of_eq hN.symm);have e8:∀(vs:Array agY)(cs:agU AV),(∀(i:Nat)(u:agY)(c:AV),vs[i]?=some u→cs[i]?=some c→aE G' w u (c.c6 b kk xs))→∀(i:Nat)(u:agY)(c:AV),vs[i]?=some u→(AV.m4 b kk xs cs)[i]?=some c→aE G' w u c:=by
  intro vs cs ih i u c hu hc;rw[nX,agc]at hc;cases hx:cs[i]? with
  |none=>rw[hx]at hc;cases hc
  |some x=>rw[hx]at hc;cases hc;exact ih i u x hu hx
 induction h with
 |agg vs cs hl _ ih=>rw[AV.c6];exact .agg vs _ (by rw[nX,aga];exact hl) (e8 vs cs ih)
 |bU vs cs hl _ ih=>rw[AV.c6];exact .bU vs _ (by rw[nX,aga];exact hl) (e8 vs cs ih)
 |fn f vs cs hl _ ih=>rw[AV.c6];exact .fn f vs _ (by rw[nX,aga];exact hl) (e8 vs cs ih)
 |vec n o len L k h hs hL hf=>
  rw[AV.c6,cond_eq_ite];split
  ·next e=>
   have e:n=b:=by simpa using e
   subst e;rw[cond_eq_ite];split
   ·next e2=>
    rw[af7,beq_iff_eq,beq_iff_eq]at e2;obtain⟨rfl,rfl⟩:=e2;exact .d (hp _ o len (.vec n o len _ _ h hs hL hf))
   ·exact .dead _
  ·exact keep (.vec n o len L k h hs hL hf)
 |de n i j L k h hs hL hf=>
  rw[AV.c6,cond_eq_ite];split
  ·exact .dead _
  ·exact keep (.de n i j L k h hs hL hf)
 |ptr n off h=>simp only[AV.c6];exact keep (.ptr n off h)
 |own n xs h hp hle hf=>simp only[AV.c6];exact keep (.own n xs h hp hle hf)
 |d h=>simp only[AV.c6];exact keep (.d h)
 |aW xs i off b o u x hx hS hu=>simp only[AV.c6];exact keep (.aW xs i off b o u x hx hS hu)
 |full xs hp hf=>simp only[AV.c6];exact keep (.full xs hp hf)
 |row n off len cap k h hl hm=>simp only[AV.c6];exact keep (.row n off len cap k h hl hm)
 |mp n h=>simp only[AV.c6];exact keep (.mp n h)
 |c7 n h=>simp only[AV.c6];exact keep (.c7 n h)
 |hid h h1=>simp only[AV.c6];exact keep (.hid h h1)
 |dead u=>simp only[AV.c6];exact .dead u
theorem cT.LW{G:Gh}{w:agZ}{a:Act}{s:St}(hs:cT G w a s)(xs:agU (agU D)){b e k:Nat}(hb:s.h[b]?=some (.vec e k (aI xs)))(eZ:∀c∈xs,c.all D.lY=true)
 :∃G',bK G.N G w G' w∧G'.N=G.N∧cT G' w a ⟨s.n,s.t.map fun p=>(p.1,p.2.c6 b k xs),(s.h.map (an.gZ (AV.c6 b k xs))).set b .gone⟩:=by
 obtain⟨L,hL⟩:∃L,xs.length=L:=⟨_,rfl⟩;have fW:(aI xs).length=L:=by unfold aI;rw[aga];exact hL
 have gm:=tw hs.inv hb;have ig:∀d∈xs,d.length=k:=fun d hd=>by
  have:=gm (d.map .d) (by unfold aI;exact List.mem_map.2 ⟨d,hd,rfl⟩)
  rwa [aga]at this
 obtain⟨S,hS⟩:∃S:Nat→Nat→Prop,S=fun c o=>G.S c o∨(bR s.h G b=some c∧o<L*k):=⟨_,rfl⟩;have hE:bK G.N G w {G with S:=S} w:=⟨agh _,fun b o h=>by show S b o;rw[hS];exact .inl h,fun _ _ _=>rfl,fun _ _=>rfl,fun _ _=> .inl ⟨rfl,rfl⟩,fM rfl,fun _ _=>rfl,rfl,rfl,rfl,fun c o hq=>by
  have cy:S c o:=hq;rw[hS]at cy;rcases cy with h|⟨h,_⟩
  ·exact .inl h
  ·obtain⟨B,hB,fG⟩:=j7 h;exact .inr ((hs.inv.dh b B hB).kD fG)⟩
 have Am:∀(u:agY)(o len:Nat),aE G w u (.vec b o len xs.length k)→dq S w u (.sl ((xs.drop o).take len)):=fun u o len sF=>by
  rw[hL]at sF;have jx:=sF.nJ hs.inv hb fW;obtain⟨qU,⟨A,cc,q1,q2,q3,q4,q5⟩,_⟩:=jx;generalize hy:(xs.drop o).take len=ys;have pF:ys.length=len:=by rw[←hy,List.length_take,List.length_drop];omega
  rw[q1,←pF];show dq S w _ _;by_cases hh0:True
  ·skip
   by_cases h0:len=0
   ·have:ys=[]:=List.eq_nil_of_length_eq_zero (by omega);subst this;exact .sl A 0 0 cc 0 [] (fun _ _=>undef) (fun h=>absurd rfl h) (Nat.zero_le _) q3 (fun _ h=>absurd h agM) (fun i j hi=>absurd hi (agy _)) (fun i j x d hx=>by simp at hx)
   ·obtain⟨g,cap,s1,rfl,s3⟩:=q5 (by omega);obtain⟨g',sU,cur,r1,r2,r3,r4,r5,r6,r7,r8,r9⟩:=tA hs.inv hb (fun e=>by rw[e]at fW;simp at fW;omega);rw[r2]at s1;cases s1
    have kW:bR s.h G b=some g:=(dC hb).trans r1;have ga:∀i,i<len→ys[i]?=xs[o+i]?:=fun i dw=>by rw[←hy,List.getElem?_take_of_lt dw,List.getElem?_drop]
    have fg:∀i j,i<len→j<k→o*k+i*k+j<cur.size:=fun i j hi hj=>by
     have:=ji (i:=o+i) (k:=k) (L:=(aI xs).length) (j:=j) (by omega) hj;rw[Nat.add_mul]at this;have h2:(aI xs).length*k≤cap*k:=Nat.mul_le_mul_right k (by omega);rw[r7];omega
    have mY:∀(i j:Nat)(x:agU D)(d:D),i<len→ys[i]?=some x→x[j]?=some d→aE G w (cur.getD (o*k+i*k+j) undef) (.d d):=fun i j x d hi hx hd=>by
     rw[ga i hi]at hx;have hj:j<k:=by rw[←ig x (agj hx)];exact(af5.1 hd).1
     refine r9 (o+i) j (x.map .d) (.d d) _ (by unfold aI;rw[agc,hx];rfl) (by rw[agc,hd];rfl) ?_;have hc:=fg i j hi hj;rw[show(o+i)*k+j=o*k+i*k+j by rw[Nat.add_mul]];simp [Array.getD,hc]
    refine .sl _ g (o*k) cc k ys (fun i j=>cur.getD (o*k+i*k+j) undef) (fun _=>rfl) (by omega) q3 (fun x hx=> ?_) (fun i j hi hj=>⟨?_,?_,?_⟩) (fun i j x d hx hd=> ?_)
    ·rw[←hy]at hx;exact ig x (List.mem_of_mem_drop (List.mem_of_mem_take hx))
    ·rw[hS];refine .inr ⟨kW,?_⟩;have:=ji (i:=o+i) (k:=k) (L:=(aI xs).length) (j:=j) (by omega) hj;rw[Nat.add_mul]at this;exact this
    ·rw[cell_of_row w g _ cur e (0,0) r4];have hc:=fg i j (by omega) hj;simp [Array.getD,hc]
    ·have dw:i<len:=by omega
     obtain⟨x,hx⟩:∃x,ys[i]?=some x:=⟨_,af9 hi⟩;have vw:=hx;rw[ga i dw]at vw;have hmem:=agj vw;obtain⟨d,hd⟩:∃d,x[j]?=some d:=⟨_,af9 (by rw[ig x hmem];exact hj)⟩;refine(mY i j x d dw hx hd).iZ ?_;have h1:=eZ x hmem;rw[agw]at h1;have h2:=h1 d (agj hd);cases d with
     |v u=>exact h2
     |sl l=>rfl
    ·have dw:i<len:=by rw[←pF];exact(af5.1 hx).1
     have:=mY i j x d dw hx hd;generalize cur.getD (o*k+i*k+j) undef=q at this;cases this with|d h=>exact h.keep hE.S hE.cell
  ·exact(hh0 trivial).elim
 have hinv:=S0 (b:=b) (f:=AV.c6 b k xs) hs.inv hE (fun c o hq=>by rw[hS]at hq;exact hq.imp id And.left) (fun hq=>hq.c6 hE rfl Am);have cy:cT {G with S:=S} w a ⟨s.n,s.t.map fun p=>(p.1,p.2.c6 b k xs),(s.h.map (an.gZ (AV.c6 b k xs))).set b .gone⟩:=by
  refine⟨hs.size,fun i=> ?_,hinv,hs.df⟩;show aE _ _ _ (bm (s.t.map fun p=>(p.1,p.2.c6 b k xs)) i);rw[s6 (AV.c6 b k xs) (by simp [AV.c6])];exact(hs.tmp i).c6 hE rfl Am
 exact⟨_,hE,rfl,cy⟩
end Go.Proofs.YtphmhnabilhbgaaGreatDoor
