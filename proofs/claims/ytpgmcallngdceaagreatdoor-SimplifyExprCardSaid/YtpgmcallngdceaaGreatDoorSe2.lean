/-
  Part 2 of the proof: AbsZero, AbsIter, AbsCode, AbsWalk, GrowF, AbsDraw, AbsFrame, AbsRun, AbsFrz, AbsInst.
-/
import Derived.Test.YtpgmcallngdceaaGreatDoorSe1
import Derived.Lib.AppendZeros
import Derived.Maps.RangeRun
namespace Go.Proofs.YtpgmcallngdceaaGreatDoor
open Go.RowKit Go.Lib
def AV.isNil:AV→Bool
 | .d (.v (.slice none 0 0))=>true
 |_=>false
theorem acv{x:AV}(h:x.isNil=true):x= .d (.v (.slice none 0 0)):=by
 unfold AV.isNil at h;split at h
 ·rfl
 ·cases h
def MG(P:ak6)(op:Op)(ρ:Operand→AV)(h:ak3 aq):ak5 (AV×ak3 aq):=
 match op with
 | .slice T x lo hi none=>match dG P T,sY ρ 0 lo,sY ρ 0 hi with
   |some _,some 0,some 0=>bif (ρ x).isNil then some (.d (.v (.slice none 0 0)),h)else none
   |_,_,_=>none
 | .call c=>match c.callee with
   | .builtin .cap=>match c.args.toList,c.argTypes.toList with
     |[x],[T]=>bif (ρ x).isNil&&(dG P T).isSome then some (.d (.v (.int .i64 0)),h)else none
     |_,_=>none
   | .builtin .append=>match c.args.toList,c.argTypes.toList with
     |[x,y],[T,U]=>match dG P T,qZ P U,ρ y with
      |some (e,k),some _, .d (.v (.int _ (.ofNat m)))=>match gH P e,rR P e with
       |some z,some ct=>bif (ρ x).isNil&&cf 1 m&&cf 1 k&&z.cells.toList.length==k&&cf m maxLen&&cf (m*ct) 140737488355328 then some (.vec h.length 0 m m k,h++[.vec e k (List.replicate m (z.cells.toList.map fun u=> .d (.v u)))])else none
       |_,_=>none
      |_,_,_=>none
     |_,_=>none
   |_=>none
 |_=>none
section
variable {P:ak6} {r:ak5 Nat} {n N0:Nat} {G:Gh} {w:ak8} {a:Act} {s:St} {o:Oper} {K:St→Prop} {Q:Exit→Act→ak8→Prop}
theorem acI{x:Operand}{T:TypeId}(c:Call)(hc:c.callee= .builtin .cap)(h1:c.args.toList=[x])(h2:c.argTypes.toList=[T])(ho:o.op= .call c):
 (execOp a.eval o).run P w=((Builtin.cap_ #[T] o.type #[a.eval x]).run P w).andThen fun v w'=> .ok (.value v) w':=by
 have e1:c.args= #[x]:=by rw[←Array.toList_inj];exact h1
 have e2:c.argTypes= #[T]:=by rw[←Array.toList_inj];exact h2
 unfold execOp;simp only[ho,resolve,hc,e1,e2,invoke,builtin,Sem.run_bind,Sem.run_pure,Result.andThen_ok,List.map_toArray,akE,List.map_nil]
theorem UI(hs:cx G w a s){x:ak5 Operand}(h:sY (ev s) 0 x=some 0):Bu a x 0 0:=by
 cases x with
 |none=>rfl
 |some y=>exact MQ (d:=0) hs h (Int.le_refl _)
theorem aiS{x:AV}{h':ak3 aq}(hs:cx G w a s)(cn:N0≤G.N)(hx:MG P o.op (ev s) s.h=some (x,h'))(hK:K ((s.wh h').put o.dst x)):o.wpIn (WF r) n P a w (gV N0 G w K) Q:=by
 have cV:=hs.ev;have nil:∀{y:Operand},(ev s y).isNil=true→a.eval y= .slice none 0 0:=fun{y} h=>by
  have:=cV y;rw[acv h]at this;exact this.val
 unfold MG at hx;split at hx
 next T y lo hi ho=>
  split at hx
  ·next ek e1 e2 e3=>
   obtain⟨hb,he⟩:=k9 hx;cases he
   obtain⟨dY,eF⟩:=ir e1;refine eD (by rw[ho];simp) hs cn (v:= .slice none 0 0) ?_ (.d (.v _)) hK;have j9:=Fi (P:=P) (AJ:=true) (UI hs e2) (UI hs e3) (akq _) (akq 0) w;unfold execOp;simp [ho,nil hb,Instr.sliceAt,Instr.slice,run_underlying dY,j9,kC eF]
  ·cases hx
 next c ho=>
  split at hx
  ·next hc=>
   split at hx
   ·next y T e1 e2=>
    obtain⟨hb,he⟩:=k9 hx;cases he
    rw[akh]at hb;cases hT:dG P T with
    |none=>rw[hT]at hb;cases hb.2
    |some ek=>
     obtain⟨dY,eF⟩:=ir hT;refine eD (by rw[ho];simp) hs cn (v:= .int .i64 0) ?_ (.d (.v _)) hK;rw[acI c hc e1 e2 ho,nil hb.1];simp [Builtin.cap_,run_underlying dY,goInt]
   ·cases hx
  ·next hc=>
   split at hx
   ·next y z T U e1 e2=>
    split at hx
    ·next e k kn kq m f1 f2 f3=>
     split at hx
     ·next zz ct g1 g2=>
      obtain⟨hb,he⟩:=k9 hx;cases he
      simp only[akh,dk,beq_iff_eq]at hb;obtain⟨⟨⟨⟨⟨iH,j9⟩,Ht⟩,pw⟩,MD⟩,MB⟩:=hb;clear hx;obtain⟨dY,eF⟩:=ir f1;obtain⟨i,jH,ik⟩:∃i,P.info? e=some i∧i.size=k:=by
       unfold eJ at eF;cases hq:P.info? e with
       |none=>rw[hq]at eF;cases eF
       |some i=>rw[hq]at eF;exact⟨i,rfl,aky eF⟩
      have hz:i.zero=some zz:=by unfold gH at g1;rw[jH]at g1;exact g1
      have hbt:i.bytes=ct:=by unfold rR at g2;rw[jH]at g2;exact aky g2
      subst ik;subst hbt;have hy:=cV z;rw[f3]at hy;have ey:a.eval z= .int kq (m:Nat):=hy.val;have de:=run_append_nil_zeros (P:=P) w T U o.type e i zz kq kn dY (JA f2) jH hz m (by omega) (by omega) (by have:=MD;simp [maxLen]at this;omega) (by omega);have hY:zz.cells.size=i.size:=by rw[←akM];exact pw
      have fx:(List.replicate m (zz.cells.toList.map fun u=>AV.d (.v u))).length=m:=akP;obtain⟨cap,iS⟩:∃cap,cap=grownCap w m 0 e:=⟨_,rfl⟩;have jc:m≤cap:=by rw[iS];exact grownCap_ge _ _ _ _
      have hle:cap≤maxLen:=by rw[iS];exact grownCap_le_maxLen _ _ _ _ MD
      rw[←iS]at de;obtain⟨cur,iP⟩:∃cur,cur=Builtin.zeroCells zz.cells m++Builtin.zeroCells zz.cells (cap-m):=⟨_,rfl⟩;rw[←iP]at de;have fi:cur.size=cap*i.size:=by
        rw[iP,Array.size_append,size_zeroCells,size_zeroCells,hY,←Nat.add_mul]
        congr 1
        omega
      obtain⟨G',q1,q2,q3,q4⟩:=PG (e:=e) (k:=i.size) (cap:=cap) (cs:=List.replicate m (zz.cells.toList.map fun u=>AV.d (.v u))) (cur:=cur) hs.inv (by rw[fx];exact jc) hle fi (fun c hc=>by
       rw[List.eq_of_mem_replicate hc,akk];exact pw) w.drew ⟨rfl,rfl,rfl,rfl⟩ (fun a' b c x u hc hx hu=>by
       have:=List.eq_of_mem_replicate (aks hc);subst this;rw[akm]at hx;cases hq:zz.cells.toList[b]? with
       |none=>rw[hq]at hx;cases hx
       |some y=>
        rw[hq]at hx;cases hx
        have gP:b<i.size:=by rw[←pw];exact(akf.1 hq).1
        have NW:a'<m:=by have:=(akf.1 hc).1;rwa [fx]at this
        have a7:a'*i.size+b<m*i.size:=lh NW gP;rw[iP,Array.getElem?_append_left (by rw[size_zeroCells,hY];exact a7)]at hu;unfold Builtin.zeroCells at hu;rw[Array.getElem?_map,Array.getElem?_range,hY,if_pos a7]at hu;simp only[Option.map_some,Option.some.injEq]at hu;rw[(I7 (i:=a') gP).2]at hu;have qV:zz.cells[b]?=some y:=by rw[←akC];exact hq
        rw[getElem!_pos zz.cells b (by rw[hY];exact gP)]at hu;rw[akB (by rw[hY];exact gP)]at qV;cases qV
        subst hu;exact .d (.v _))
      rw[fx]at q4;refine nR (by rw[ho];simp) hs cn (by rw[CF c hc e1 e2 ho,nil iH,ey,de];rfl) q1 q2 q3 (q4 m (akq _)) hK
     ·cases hx
    ·cases hx
   ·cases hx
  ·cases hx
 next=>cases hx
end
end Go.Proofs.YtpgmcallngdceaaGreatDoor
namespace Go.Proofs.YtpgmcallngdceaaGreatDoor
open Go.RowKit
section
variable {G:Gh} {w:ak8} {h:ak3 aq}
theorem abw(hi:bW G w h):bR G.N G w G w.drew∧bW G w.drew h:=by
 have hE:bR G.N G w G w.drew:=⟨akq _,fun _ _ h=>h,fun _ _ _=>rfl,fun _ _=>rfl,fun _ _=> .inl ⟨rfl,rfl⟩,fZ rfl,fun _ _=>rfl,rfl,rfl,rfl,fun _ _ h=> .inl h⟩;exact⟨hE,hi.len,hi.z,hi.S,fun n B hB=>dE.bo (hi.lt hB) hE (akq _) ⟨rfl,rfl,rfl⟩ (fun _ _=>⟨rfl,fun _ h=>h⟩) (hi.cW n B hB),hi.inj,hi.gl.bo hE⟩
end
section
variable {P:ak6} {r:ak5 Nat} {n N0:Nat} {G:Gh} {w:ak8} {a:Act} {s:St} {o:Oper} {K:St→Prop} {Q:Exit→Act→ak8→Prop}
end
def gW(ops:Array Oper)(o:Oper)(s:St)(yes no:Prop):Prop:=
 match o.guard with
 |none=>yes
 |some (j,want)=>match (ops[j]?).bind (·.dst)with
  |some d=>match bB s.t d with
   | .d (.v (.bool b))=>(b=want→yes)∧(b= !want→no)
   | .d (.v (.tuple _))=>no
   |_=>False
  |none=>False
structure bJ(P:Program)(r:Option Nat)(N0:Nat)(c:Code)(Q:Exit→St→Prop)(s:St):Prop where
 run:∀(G:Gh)(w:World)(a:Act)(n:Nat),cx G w a s→N0≤G.N→c.wpIn (WF r) n P (fun e a' w'=>gV N0 G w (Q e) a' w') a w
def gy(K:St→Prop)(Q:Exit→St→Prop):Exit→St→Prop
 | .normal,s=>K s
 |e,s=>Q e s
def jR:Nat→ak3 AV→ak3 (Nat×AV)
 |_,[]=>[]
 |k,x::l=>(k,x)::jR (k+1) l
theorem NN:∀(l:ak3 AV)(k i:Nat),bB (jR k l) i=if k≤i then(l[i-k]?).getD .dead else .dead
 |[],k,i=>by simp [jR,bB]
 |x::l,k,i=>by
  rw[jR,kN,NN l (k+1) i];by_cases h:i=k
  ·subst h;simp
  ·rw[if_neg h];by_cases h2:k≤i
   ·rw[if_pos (by omega),if_pos h2,show i-k=i-(k+1)+1 by omega,akQ]
   ·rw[if_neg (by omega),if_neg h2]
def YS(P:ak6)(k:Nat)(x:AV)(h:ak3 aq)(C:Bool→ak3 aq→Prop):Prop:=
 ∀(G:Gh)(w:ak8)(v:ak7)(r:ak5 Nat)(n:Nat),bW G w h→aN G w v x→k<G.N∧∃(p:Nat)(as bd:Code)(fn:FuncId)(tm:Array ak7)(D:Nat),
  w.heap[G.bm k]?=some (.loop {state:= .ready,pending:=none,fn:=fn,tmps:=tm,params:= #[p],assign:=as,body:=bd,defers:=D})∧
  RoundIn (WF r) n P (G.bm k) fn (tm.setIfInBounds p v) as bd w fun e w'=>∃(b:Bool)(G':Gh)(h':ak3 aq),e= .returned (.bool b)∧bR G.N G w G' w'∧G.N≤G'.N∧bW G' w' h'∧C b h'
def Ys(C:Bool→ak3 aq→Prop)(k:Nat):Exit→St→Prop
 | .normal,s2=>∃p as bd ja,s2.h[k]?=some (.lp .busy p as bd ja)∧C true (s2.h.set k (.lp .ready p as bd ja))
 | .ret,s2=>∃p as bd ja,s2.h[k]?=some (.lp .busy p as bd ja)∧C false (s2.h.set k (.lp (.done .ret) p as bd ja))
 | .exit i,s2=>∃p as bd ja,s2.h[k]?=some (.lp .busy p as bd ja)∧C false (s2.h.set k (.lp (.done (.exit i)) p as bd ja))
 |_,_=>False
def HT(P:ak6)(o:Oper)(K:St→Prop)(s:St):Prop:=
 match o.op with
 | .call c=>match c.callee with
   | .value f=>match ev s f,c.args.toList.map (ev s)with
     | .cH k,[x]=>YS P k x s.h fun b h'=>K ((s.wh h').put o.dst (.d (.v (.bool b))))
     |_,_=>False
   |_=>False
 |_=>False
def agz(P:ak6)(o:Oper)(K:St→Prop)(s:St):Prop:=∃x h',MG P o.op (ev s) s.h=some (x,h')∧K ((s.wh h').put o.dst x)
def oJ(P:ak6)(o:Oper)(K:St→Prop)(s:St):Prop:=IM P o K s∨DD P o K s∨oY P o K s∨HT P o K s∨agz P o K s
def qJ(P:ak6)(ops:Array Oper):ak3 Oper→(St→Prop)→St→Prop
 |[],K,s=>K s
 |o::rest,K,s=>gW ops o s (oJ P o (qJ P ops rest K) s) (qJ P ops rest K (s.put o.dst (.d (.v undef))))
def po(id:Nat)(Q:Exit→St→Prop):Exit→St→Prop
 | .exit pz,s=>bif pz==id then Q .normal s else Q (.exit pz) s
 |e,s=>Q e s
section
variable {P:ak6} {r:ak5 Nat} {n N0:Nat} {G:Gh} {w:ak8} {a:Act} {s:St} {o:Oper} {Q:Exit→St→Prop}
theorem gV.mono{K K':St→Prop}(h:∀s,K s→K' s){a':Act}{w':ak8}(hn:gV N0 G w K a' w'):gV N0 G w K' a' w':=
 let ⟨G',s',h1,h2,h3,h4⟩:=hn;⟨G',s',h1,h2,h3,h _ h4⟩
theorem gV.trans{K:St→Prop}{G1:Gh}{w1:ak8}(hE:bR N0 G w G1 w1){a':Act}{w':ak8}(hn:gV N0 G1 w1 K a' w'):gV N0 G w K a' w':=
 let ⟨G',s',h1,h2,h3,h4⟩:=hn;⟨G',s',hE.trans h1,h2,h3,h4⟩
theorem bJ.mono{c:Code}{Q':Exit→St→Prop}(h:bJ P r N0 c Q s)(hq:∀e s,Q e s→Q' e s):bJ P r N0 c Q' s:=
 ⟨fun G w a n hs hN=>wpIn_mono (h.run G w a n hs hN) fun e _ _ hn=>hn.mono (hq e)⟩
theorem OL{ops:Array Oper}{yes no:Prop}(hs:cx G w a s)(h:gW ops o s yes no):if Region.wanted o (yielded ops a.tmps)then yes else no:=by
 unfold gW at h;split at h
 ·rename_i hg
  rw[if_pos (by simp [Region.wanted,hg])];exact h
 ·rename_i j want hg
  split at h
  ·rename_i d hd
   have hv:=hs.tmp d;split at h
   ·rename_i b hb
    rw[hb]at hv;have e:=hv.bool;have hy:yielded ops a.tmps j=some b:=by
      unfold yielded;rw[hd,ake];by_cases a7:d<a.tmps.size
      ·rw[akB a7];have:a.tmps.getD d undef=a.tmps[d]:=by simp [Array.getD,a7]
       rw[this]at e;rw[e]
      ·have:a.tmps.getD d undef=undef:=by simp [Array.getD,a7]
       rw[this]at e;cases e
    by_cases uW:b=want
    ·rw[if_pos (by simp [Region.wanted,hg,hy,uW])];exact h.1 uW
    ·rw[if_neg (by simp [Region.wanted,hg,hy,uW])];exact h.2 (by cases b<;>cases want<;>simp_all)
   ·rename_i vs hb
    rw[hb]at hv;have e:=hv.val;have hy:yielded ops a.tmps j=none:=by
      unfold yielded;rw[hd,ake];by_cases a7:d<a.tmps.size
      ·rw[akB a7];have:a.tmps.getD d undef=a.tmps[d]:=by simp [Array.getD,a7]
       rw[this]at e;rw[e]
      ·rw[Array.getElem?_eq_none (Nat.le_of_not_lt a7)]
    rw[if_neg (by simp [Region.wanted,hg,hy])];exact h
   ·exact h.elim
  ·exact h.elim
theorem YS.mono{k:Nat}{x:AV}{h:ak3 aq}{C C':Bool→ak3 aq→Prop}(hy:YS P k x h C)(hc:∀b h',C b h'→C' b h'):YS P k x h C':=fun G w v r n hi hv=>
 let ⟨h0,p,as,bd,fn,tm,D,h1,h2⟩:=hy G w v r n hi hv
 ⟨h0,p,as,bd,fn,tm,D,h1,h2.mono fun _ _ ⟨b,G',h',a1,a2,a3,a4,a5⟩=>⟨b,G',h',a1,a2,a3,a4,hc _ _ a5⟩⟩
theorem aex{k:Nat}{x:AV}{h:ak3 aq}{C:Bool→ak3 aq→Prop}
 (hA:∃p as bd cs,h[k]?=some (.lp .ready p as bd cs)∧p<cs.length∧∀(l:Nat),bJ P (some l) h.length as (gy (fun s1=>∃p1 rM qA ve,s1.h[k]?=some (.lp .ready p1 rM qA ve)∧bJ P (some l) h.length bd (Ys C k) ⟨s1.n,s1.t,s1.h.set k (.lp .busy p1 rM qA ve)⟩) (fun _ _=>False)) ⟨cs.length,(p,x)::jR 0 cs,h⟩):YS P k x h C:=by
 intro G w v r n hi LL;obtain⟨p,as,bd,cs,hk,hp,hA⟩:=hA;have Bd:k<G.N:=hi.lt hk;obtain⟨hS,fn,tm,D,h3,h4,h5,aj0⟩:=IJ hi hk;refine⟨Bd,p,as,bd,fn,tm,D,h3,?_⟩;refine roundIn_of_wpIn (F:=WF r) trivial ?_;have O6:cx G w {tmps:=tm.setIfInBounds p v,defers:=[]} ⟨cs.length,(p,x)::jR 0 cs,h⟩:=by
  refine⟨by simp [h4],fun i=> ?_,hi,pY.nil _ _⟩;show aN _ _ _ (bB ((p,x)::jR 0 cs) i);rw[kN];split
  ·next e=>
   subst e;have:(tm.setIfInBounds i v).getD i undef=v:=by simp [Array.getD,h4,hp]
   rw[this];exact LL
  ·next e=>
   rw[NN];simp only[Nat.zero_le,if_true,Nat.sub_zero];cases iK:cs[i]? with
   |none=>exact .dead _
   |some y=>
    have a7:i<tm.size:=by rw[h4];exact(akf.1 iK).1
    have:(tm.setIfInBounds p v).getD i undef=tm[i]:=by
     simp [Array.getD,a7,Ne.symm e]
    rw[this];exact h5 i _ y (akB a7) iK
 have Jg:=hA (G.bm k);rw[hi.len]at Jg;refine wpIn_mono (Jg.run G w _ n O6 (akq _)) fun e1 a1 w1 CT=> ?_;obtain⟨G1,s1,iV,eZ,dO,pc⟩:=CT;cases e1 with
 |normal=>
  obtain⟨p1,rM,qA,ve,uD,iH⟩:=pc;have tw:G1.bm k=G.bm k:=iV.bm k Bd;obtain⟨_,fn1,tm1,D1,g3,g4,g5,Rg⟩:=IJ dO.inv uD;obtain⟨gE,gI⟩:=Rg .busy;rw[tw]at g3 gE gI;refine⟨_,run_beginRound g3 rfl,?_⟩;have Bj:cx G1 (w1.putObj (G.bm k) (.loop {state:= .busy,pending:=none,fn:=fn1,tmps:=tm1,params:= #[p1],assign:=rM,body:=qA,defers:=D1})) a1 ⟨s1.n,s1.t,s1.h.set k (.lp .busy p1 rM qA ve)⟩:=dO.move gE (akq _) gI;refine wpIn_mono (iH.run G1 _ a1 n Bj eZ) fun e3 a3 w3 hn3=> ?_;obtain⟨G3,s3,Qx,UL,hs3,mG⟩:=hn3;have fin:∀(jump:ak5 Code)(ls:LS)(b:Bool)(p:Nat)(as bd:Code)(ja:ak3 AV),s3.h[k]?=some (.lp .busy p as bd ja)→ls.pd=jump→ls.st=(if jump.isNone then .ready else .done)→jump.isNone=b→C b (s3.h.set k (.lp ls p as bd ja))→
   ∃v w',(Instr.endRound (G.bm k) jump).run P w3= .ok v w'∧∃(b:Bool)(G':Gh)(h':ak3 aq),(Ending.returned v:Ending)= .returned (.bool b)∧bR G.N G w G' w'∧G.N≤G'.N∧bW G' w' h'∧C b h':=fun jump ls b p as bd ja GV q1 q2 q3 hK=>by
   have ZJ:G3.bm k=G.bm k:=(Qx.bm k Bd).trans tw;obtain⟨_,fn3,tm3,D3,z3,z4,z5,aia⟩:=IJ hs3.inv GV;obtain⟨zE,zI⟩:=aia ls;rw[ZJ]at z3 zE zI;subst q1;have FD:=run_endRound (P:=P) ls.pd z3;rw[←q2]at FD;refine⟨_,_,FD,b,G3,_,by rw[q3],?_,UL,zI,hK⟩;exact(iV.trans ((gE.less eZ).trans Qx)).trans (zE.less UL)
  cases e3 with
  |normal=>obtain⟨p2,FM,CS,ja,y1,y2⟩:=mG;exact fin none .ready true p2 FM CS ja y1 rfl rfl rfl y2
  |ret=>obtain⟨p2,FM,CS,ja,y1,y2⟩:=mG;exact fin (some .ret) (.done .ret) false p2 FM CS ja y1 rfl rfl rfl y2
  |exit i=>obtain⟨p2,FM,CS,ja,y1,y2⟩:=mG;exact fin (some (.exit i)) (.done (.exit i)) false p2 FM CS ja y1 rfl rfl rfl y2
  |_=>exact mG.elim
 |_=>exact pc.elim
theorem Z4{K:St→Prop}{Q:Exit→Act→ak8→Prop}(hs:cx G w a s)(hN:N0≤G.N)(h:HT P o K s):o.wpIn (WF r) n P a w (gV N0 G w K) Q:=by
 unfold HT at h;split at h
 ·next c ho=>
  split at h
  ·next f hc=>
   split at h
   ·next k x hf hx=>
    have hv:=hs.ev f;rw[hf]at hv;have ea:a.eval f= .func (.yield (G.bm k)) #[] #[]:=by
     generalize a.eval f=u at hv;cases hv;rfl
    obtain⟨p1,p2⟩:=Ee hs c.args;obtain⟨v,wx⟩:∃v,c.args.map a.eval= #[v]:=by
     have:(c.args.map a.eval).size=1:=by rw[p1,hx];rfl
     exact⟨(c.args.map a.eval)[0],Array.ext (by simp [this]) fun i h1 h2=>by
      have:i=0:=by simp at h2;exact h2
      subst this;rfl⟩
    have LL:aN G w v x:=p2 0 v x (by rw[wx];rfl) (by rw[hx];rfl);obtain⟨Bd,p,as,bd,fn,tm,D,h3,hA⟩:=h G w v r (n-1) hs.inv LL;have jy:∀c',o.op≠ .defer c':=fun c' e=>by rw[ho]at e;cases e
    have hy:=run_yield (P:=P) (args:= #[v]) h3 rfl;have de:(o.semAt (WF r).round a.eval).run P w= .ok (.round (G.bm k) fn (tm.setIfInBounds p v) as bd) w:=by
     rw[Oper.semAt_eq _ _ _ jy];unfold execOp;simp only[ho,resolve,hc,ea];simp [Deferred.ofValue,invoke,wx,hy]
    unfold Oper.wpIn;refine⟨fun g hg=>trivial,?_⟩;rw[de,Oper.uponIn_round];refine⟨fun h=>(by simp [WF,Fence.wide]at h),hA.mono fun e w' hp=> ?_⟩;obtain⟨b,G',h',rfl,hE,kr,di,hK⟩:=hp;exact⟨G',_,hE.less hN,akx hN kr,(hs.move hE kr di).put (.d (.v _)) o.dst,hK⟩
   ·exact h.elim
  ·exact h.elim
 ·exact h.elim
theorem aaa{K:St→Prop}{Q:Exit→Act→ak8→Prop}(hs:cx G w a s)(hN:N0≤G.N)(h:oJ P o K s):o.wpIn (WF r) n P a w (gV N0 G w K) Q:=by
 rcases h with h|h|h|h|⟨x,h',h,hK⟩
 ·exact Oa hs hN (.inl h)
 ·exact Oa hs hN (.inr (.inl h))
 ·exact Oa hs hN (.inr (.inr h))
 ·exact Z4 hs hN h
 ·exact aiS hs hN h hK
theorem KS{ops:Array Oper}{K:St→Prop}{Q':Exit→Act→ak8→Prop}(hQ:∀a' w',gV N0 G w K a' w'→Q' .normal a' w'):∀(l:ak3 Oper)(k:Nat),(∀j,l[j]?=ops[k+j]?)→∀(G1:Gh)(w1:ak8)(a:Act)(s:St),
 bR N0 G w G1 w1→N0≤G1.N→cx G1 w1 a s→qJ P ops l K s→wpOpsIn (WF r) n P ops Q' (List.range' k l.length) a w1
 |[],k,_,G1,w1,a,s,hE,hN,hs,h=>hQ _ _ ⟨G1,s,hE,hN,hs,h⟩
 |o::l,k,hl,G1,w1,a,s,hE,hN,hs,h=>by
  have h0:ops[k]?=some o:=by simpa using (hl 0).symm
  have zS:∀j,l[j]?=ops[k+1+j]?:=fun j=>by have:=hl (j+1);simpa [Nat.add_assoc,Nat.add_comm 1 j]using this
  have hg:=OL hs h;simp only[aki,List.range'_succ,wpOpsIn,h0];split
  ·rename_i hw
   rw[if_pos hw]at hg;exact Oper.wpIn_mono (fun a' w' hn=>by
     obtain⟨G2,s2,e2,n2,vy,k2⟩:=hn;exact KS hQ l (k+1) zS G2 w' a' s2 (hE.trans e2) n2 vy k2) (aaa hs hN hg)
  ·rename_i hw
   rw[if_neg hw]at hg;exact⟨fun _ _=>trivial,KS hQ l (k+1) zS G1 w1 _ _ hE hN (hs.put (.d (.v undef)) o.dst) hg⟩
theorem fg{id:Nat}{ops:Array Oper}(h:qJ P ops ops.toList (Q .normal) s):bJ P r N0 (.region id ops false) Q s:=by
 constructor
 intro G w a n hs hN;refine wpIn_region ?_;rw[List.range_eq_range',←akM];exact KS (G:=G) (w:=w) (K:=Q .normal) (fun _ _ h=>h) ops.toList 0 (by simp) G w a s (bR.refl _ _ _) hN hs h
theorem fM(h:Q .normal s):bJ P r N0 .skip Q s:=⟨fun G _ _ _ hs hN=>wpIn_skip ⟨G,s,bR.refl _ _ _,hN,hs,h⟩⟩
theorem dU(h:Q .ret s):bJ P r N0 .ret Q s:=⟨fun G _ _ _ hs hN=>wpIn_ret ⟨G,s,bR.refl _ _ _,hN,hs,h⟩⟩
theorem pC{id:Nat}(h:Q (.exit id) s):bJ P r N0 (.exit id) Q s:=⟨fun G _ _ _ hs hN=>wpIn_exit ⟨G,s,bR.refl _ _ _,hN,hs,h⟩⟩
theorem bH{x y:Code}(h:bJ P r N0 x (gy (fun s'=>bJ P r N0 y Q s') Q) s):bJ P r N0 (.seq x y) Q s:=by
 constructor
 intro G w a n hs hN;refine wpIn_seq (wpIn_mono (h.run G w a n hs hN) fun e a1 w1 hn=> ?_);obtain⟨G1,s1,hE,eZ,dO,hq⟩:=hn;cases e with
 |normal=>exact wpIn_mono (hq.run G1 w1 a1 n dO eZ) fun _ _ _ hn=>hn.trans hE
 |_=>exact⟨G1,s1,hE,eZ,dO,hq⟩
theorem O5{c:Operand}{x y:Code}{t:Bool}(hc:ev s c= .d (.v (.bool t)))(h1:t=true→bJ P r N0 x Q s)(h2:t=false→bJ P r N0 y Q s):bJ P r N0 (.cond c x y) Q s:=by
 constructor
 intro G w a n hs hN;have hb:=hs.ev c;rw[hc]at hb;exact wpIn_cond_split hb.bool (fun e=>(h1 e).run G w a n hs hN) (fun e=>(h2 e).run G w a n hs hN)
theorem gO{id:Nat}{c:Code}(h:bJ P r N0 c (po id Q) s):bJ P r N0 (.block id c) Q s:=by
 constructor
 intro G w a n hs hN;refine wpIn_block (wpIn_mono (h.run G w a n hs hN) fun e a1 w1 hn=> ?_);obtain⟨G1,s1,hE,eZ,dO,hq⟩:=hn;cases e with
 |exit pz=>
  by_cases he:pz=id
  ·simp only[po,he,BEq.rfl,cond_true]at hq;simp only[Exit.inBlock,if_pos he];exact⟨G1,s1,hE,eZ,dO,hq⟩
  ·have Zk:(pz==id)=false:=by simpa using he
   simp only[po,Zk,cond_false]at hq;simp only[Exit.inBlock,if_neg he];exact⟨G1,s1,hE,eZ,dO,hq⟩
 |_=>exact⟨G1,s1,hE,eZ,dO,hq⟩
theorem NP{F:Fence}{c:Code}{Q:Exit→Act→ak8→Prop}{ι:Type}(I:ι→Act→ak8→Prop)(μ:ι→Nat)(i0:ι)(h₀:I i0 a w)
 (round:∀i a w,I i a w→c.wpIn F n P (Exit.then (fun a' w'=>∃i',I i' a' w'∧μ i'<μ i) Q) a w):(Code.loop c).wpIn F n P Q a w:=by
 intro b k cs yr hb hr;have key:∀j i a w,μ i=j→I i a w→
  ∃e a' w',Q e a' w'∧ArrivesIn (Machine.fenced P F) P (lone (b.atR a (.code c:: .inLoop c::k)) cs w) b k cs e a' w':=by
  intro j
  induction j using Nat.strongRecOn with
  |_ j ih=>
   intro i a w hn hI;obtain⟨e,a₁,w₁,hq,uF⟩:=round i a w hI b (.inLoop c::k) cs yr hb hr;cases e with
   |normal=>
    obtain⟨i',hI₁,a7⟩:=hq;obtain⟨e₂,a₂,w₂,hq₂,acB⟩:=ih (μ i') (hn▸a7) i' a₁ w₁ rfl hI₁;exact⟨e₂,a₂,w₂,hq₂, .of_steps (StepsIn.trans uF (.one (fenced_calm hb hr rfl) stepR_inLoop)) acB⟩
   |exit id=>exact⟨_,a₁,w₁,hq, .pass (x:= .inLoop c) rfl (fun _ _=> .inl (by simp)) uF⟩
   |goto l=>exact⟨_,a₁,w₁,hq, .pass (x:= .inLoop c) rfl (fun _ _=> .inl (by simp)) uF⟩
   |ret=>exact⟨_,a₁,w₁,hq, .pass (x:= .inLoop c) rfl (fun _ _=> .inl (by simp)) uF⟩
   |panic ch=>exact⟨_,a₁,w₁,hq, .pass (x:= .inLoop c) rfl (fun _ _=> .inl (by simp)) uF⟩
   |outgrown=>exact⟨_,a₁,w₁,hq, .pass (x:= .inLoop c) rfl (fun _ _=> .inl (by simp)) uF⟩
 obtain⟨e,a',w',hq,uF⟩:=key _ i0 a w rfl h₀;exact⟨e,a',w',hq, .of_steps (.one (fenced_calm hb hr rfl) stepR_loop) uF⟩
end
mutual
def AV.bA(m:Nat):AV→AV
 | .own n xs=>bif cf m n then .d (.sl xs)else .own n xs
 | .agg cs=> .agg (AV.nZ m cs)
 | .bk cs=> .bk (AV.nZ m cs)
 | .fn f cs=> .fn f (AV.nZ m cs)
 |x=>x
def AV.nZ(m:Nat):ak3 AV→ak3 AV
 |[]=>[]
 |x::l=>x.bA m::AV.nZ m l
end
mutual
def AV.aT(m:Nat):AV→Bool
 | .own n _| .ptr n _| .row n _ _ _ _| .mp n| .cH n| .vec n _ _ _ _| .cQ n _ _ _ _=> !cf m n
 | .agg cs=>AV.lS m cs
 | .bk cs=>AV.lS m cs
 | .fn _ cs=>AV.lS m cs
 |_=>true
def AV.lS(m:Nat):ak3 AV→Bool
 |[]=>true
 |x::l=>x.aT m&&AV.lS m l
end
theorem Fm(m:Nat):∀l,AV.nZ m l=l.map (AV.bA m)
 |[]=>by simp [AV.nZ]
 |x::l=>by simp [AV.nZ,Fm m l]
theorem l0(m:Nat):∀l,AV.lS m l=l.all (AV.aT m)
 |[]=>by simp [AV.lS]
 |x::l=>by simp [AV.lS,l0 m l]
def aq.bA(m:Nat):aq→aq
 | .cells cs=> .cells (cs.map (AV.bA m))
 | .lp ls p as bd cs=> .lp ls p as bd (cs.map (AV.bA m))
 | .it sn cs=> .it sn (cs.map (AV.bA m))
 | .vec e k cs=> .vec e k (cs.map (·.map (AV.bA m)))
 |B=>B
def aq.aT(m:Nat):aq→Bool
 | .cells cs=>cs.all (AV.aT m)
 | .lp _ _ _ _ cs=>cs.all (AV.aT m)
 | .it _ cs=>cs.all (AV.aT m)
 | .vec _ _ cs=>cs.all (·.all (AV.aT m))
 |_=>true
theorem aN.bA{G:Gh}{w:ak8}(m:Nat){u:ak7}{x:AV}(h:aN G w u x):aN G w u (x.bA m):=by
 have fq:∀(vs:Array ak7)(cs:ak3 AV),(∀(i:Nat)(u:ak7)(c:AV),vs[i]?=some u→cs[i]?=some c→aN G w u (c.bA m))→∀(i:Nat)(u:ak7)(c:AV),vs[i]?=some u→(AV.nZ m cs)[i]?=some c→aN G w u c:=by
  intro vs cs ih i u c hu hc;rw[Fm,akm]at hc;cases hx:cs[i]? with
  |none=>rw[hx]at hc;cases hc
  |some x=>rw[hx]at hc;cases hc;exact ih i u x hu hx
 induction h with
 |agg vs cs hl _ ih=>rw[AV.bA];exact .agg vs _ (by rw[Fm,akk];exact hl) (fq vs cs ih)
 |bk vs cs hl _ ih=>rw[AV.bA];exact .bk vs _ (by rw[Fm,akk];exact hl) (fq vs cs ih)
 |fn f vs cs hl _ ih=>rw[AV.bA];exact .fn f vs _ (by rw[Fm,akk];exact hl) (fq vs cs ih)
 |own n xs h hp hle hf=>
  rw[AV.bA,cond_eq_ite];split
  ·exact .d hp
  ·exact .own n xs h hp hle hf
 |d h=>simp only[AV.bA];exact .d h
 |ptr n off h=>simp only[AV.bA];exact .ptr n off h
 |bE xs i off b o u x hx hS hu=>simp only[AV.bA];exact .bE xs i off b o u x hx hS hu
 |full xs hp hf=>simp only[AV.bA];exact .full xs hp hf
 |row n off len cap k h hl hm=>simp only[AV.bA];exact .row n off len cap k h hl hm
 |mp n h=>simp only[AV.bA];exact .mp n h
 |cH n h=>simp only[AV.bA];exact .cH n h
 |vec n o len L k h hs hL hf=>simp only[AV.bA];exact .vec n o len L k h hs hL hf
 |cQ n i j L k h hs hL hf=>simp only[AV.bA];exact .cQ n i j L k h hs hL hf
 |hid h h1=>simp only[AV.bA];exact .hid h h1
 |dead u=>simp only[AV.bA];exact .dead u
def Gh.cut(G:Gh)(m:Nat):Gh:={G with N:=m}
theorem aN.cut{G:Gh}{w:ak8}{m:Nat}{u:ak7}{x:AV}(h:aN G w u x)(hb:x.aT m=true):aN (G.cut m) w u x:=by
 induction h with
 |agg vs cs hl _ ih=>
  rw[AV.aT,l0,akF]at hb;exact .agg vs cs hl fun i u c hu hc=>ih i u c hu hc (hb c (aks hc))
 |bk vs cs hl _ ih=>
  rw[AV.aT,l0,akF]at hb;exact .bk vs cs hl fun i u c hu hc=>ih i u c hu hc (hb c (aks hc))
 |fn f vs cs hl _ ih=>
  rw[AV.aT,l0,akF]at hb;exact .fn f vs cs hl fun i u c hu hc=>ih i u c hu hc (hb c (aks hc))
 |own n xs h hp hle hf=>rw[AV.aT]at hb;exact .own n xs (show n<m by rw[Bool.not_eq_true',←Bool.not_eq_true,dk]at hb;omega) hp hle hf
 |ptr n off h=>rw[AV.aT]at hb;exact .ptr (G:=G.cut m) n off (show n<m by rw[Bool.not_eq_true',←Bool.not_eq_true,dk]at hb;omega)
 |row n off len cap k h hl hm=>rw[AV.aT]at hb;exact .row (G:=G.cut m) n off len cap k (show n<m by rw[Bool.not_eq_true',←Bool.not_eq_true,dk]at hb;omega) hl hm
 |mp n h=>rw[AV.aT]at hb;exact .mp (G:=G.cut m) n (show n<m by rw[Bool.not_eq_true',←Bool.not_eq_true,dk]at hb;omega)
 |cH n h=>rw[AV.aT]at hb;exact .cH (G:=G.cut m) n (show n<m by rw[Bool.not_eq_true',←Bool.not_eq_true,dk]at hb;omega)
 |vec n o len L k h hs hL hf=>rw[AV.aT]at hb;exact .vec (G:=G.cut m) n o len L k (show n<m by rw[Bool.not_eq_true',←Bool.not_eq_true,dk]at hb;omega) hs hL hf
 |cQ n i j L k h hs hL hf=>rw[AV.aT]at hb;exact .cQ (G:=G.cut m) n i j L k (show n<m by rw[Bool.not_eq_true',←Bool.not_eq_true,dk]at hb;omega) hs hL hf
 |hid h h1=>exact .hid (G:=G.cut m) h h1
 |d h=>exact .d h
 |bE xs i off b o u x hx hS hu=>exact .bE xs i off b o u x hx hS hu
 |full xs hp hf=>exact .full xs hp hf
 |dead u=>exact .dead u
def St.mask(s:St)(live:ak3 Nat)(m:Nat):St:={s with t:=live.map fun k=>(k,(bB s.t k).bA m),h:=(s.h.take m).map (aq.bA m)}
def St.Ao(s:St)(live:ak3 Nat)(m:Nat):Prop:=m≤s.h.length∧(live.all fun k=>((bB s.t k).bA m).aT m)=true∧(((s.h.take m).map (aq.bA m)).all (aq.aT m))=true
theorem oV(f:Nat→AV):∀(live:ak3 Nat)(i:Nat),bB (live.map fun k=>(k,f k)) i=if i∈live then f i else .dead
 |[],i=>by simp [bB]
 |k::l,i=>by
  simp only[akE,kN,oV f l i,akJ];by_cases h:i=k
  ·subst h;simp
  ·simp [h]
theorem Lw{G:Gh}{w:ak8}{h:ak3 aq}(hi:bW G w h){m:Nat}(hm:m≤h.length)(hb:(((h.take m).map (aq.bA m)).all (aq.aT m))=true):bW (G.cut m) w ((h.take m).map (aq.bA m)):=by
 have dV:∀(n:Nat)(B:aq),((h.take m).map (aq.bA m))[n]?=some B→n<m∧∃B',h[n]?=some B'∧B=B'.bA m∧(B'.bA m).aT m=true:=fun n B hB=>by
  have vS:=akF.1 hb B (aks hB);rw[akm,List.getElem?_take]at hB;split at hB
  ·rename_i hn
   cases hx:h[n]? with
   |none=>rw[hx]at hB;cases hB
   |some B'=>rw[hx]at hB;cases hB;exact⟨hn,B',rfl,rfl,vS⟩
  ·cases hB
 have dB:∀n b,b6 ((h.take m).map (aq.bA m)) (G.cut m) n=some b→b6 h G n=some b:=fun n b hb=>by
  obtain⟨B,hB,hb⟩:=m4 hb;obtain⟨_,B',h1,rfl,_⟩:=dV n B hB;rw[dm h1,←hb];cases B'<;>rfl
 refine⟨by simp [Gh.cut];omega,hi.z,hi.S,fun n B hB=> ?_,fun i j b h1 h2=>hi.inj i j b (dB i b h1) (dB j b h2),hi.gl⟩;obtain⟨hn,B',h1,rfl,vS⟩:=dV n B hB;have dD:=hi.cW n B' h1;cases B' with
 |gone=>trivial
 |front e k len=>exact dD
 |map kv=>exact dD
 |vec e k cs=>
  obtain⟨c1,c2,c3,c4⟩:=dD;refine⟨by rw[akk];exact c1,by rw[akk];exact c2,fun c hc=> ?_,?_⟩
  ·obtain⟨x,hx,rfl⟩:=List.mem_map.1 hc;rw[akk];exact c3 x hx
  ·rcases c4 with⟨d1,d2,A,d3⟩|⟨g,cap,cur,d1,d2,d3,d4,d5,d6,d7,d8,d9⟩
   ·exact .inl ⟨d1,by rw[d2];rfl,A,d3⟩
   ·refine .inr ⟨g,cap,cur,d1,by rw[akk];exact d2,d3,d4,by rw[akk];exact d5,d6,d7,d8,fun i j c x u hc hx hu=> ?_⟩;simp only[aq.bA,aq.aT,akF]at vS;rw[akm]at hc;cases hy:cs[i]? with
    |none=>rw[hy]at hc;cases hc
    |some y=>
     rw[hy]at hc;cases hc
     have hz:=hx;rw[akm]at hx;cases hw:y[j]? with
     |none=>rw[hw]at hx;cases hx
     |some z=>
      rw[hw]at hx;cases hx
      exact((d9 i j y z u hy hw hu).bA m).cut (vS _ (List.mem_map.2 ⟨y,aks hy,rfl⟩) _ (aks hz))
 |cells cs=>
  obtain⟨c1,c2,vs,T,c3,c4,c5⟩:=dD;refine⟨c1,c2,vs,T,c3,by rw[akk];exact c4,fun i u c hu hc=> ?_⟩;have mm:=aks hc;rw[akm]at hc;cases hx:cs[i]? with
  |none=>rw[hx]at hc;cases hc
  |some x=>
   rw[hx]at hc;cases hc
   exact((c5 i u x hu hx).bA m).cut (akF.1 vS _ mm)
 |lp ls p as bd cs=>
  obtain⟨c1,c2,fn,vs,T,c3,c4,c5⟩:=dD;refine⟨c1,c2,fn,vs,T,c3,by rw[akk];exact c4,fun i u c hu hc=> ?_⟩;have mm:=aks hc;rw[akm]at hc;cases hx:cs[i]? with
  |none=>rw[hx]at hc;cases hc
  |some x=>
   rw[hx]at hc;cases hc
   exact((c5 i u x hu hx).bA m).cut (akF.1 vS _ mm)
 |it sn cs=>
  obtain⟨c1,c2,fn,vs,T,c3,c4,c5⟩:=dD;refine⟨c1,c2,fn,vs,T,c3,by rw[akk];exact c4,fun i u c hu hc=> ?_⟩;have mm:=aks hc;rw[akm]at hc;cases hx:cs[i]? with
  |none=>rw[hx]at hc;cases hc
  |some x=>
   rw[hx]at hc;cases hc
   exact((c5 i u x hu hx).bA m).cut (akF.1 vS _ mm)
theorem nT(N:Nat)(G:Gh)(w:ak8)(m:Nat):bR N G w (G.cut m) w:=
 ⟨akq _,fun _ _ h=>h,fun _ _ _=>rfl,fun _ _=>rfl,fun _ _=> .inl ⟨rfl,rfl⟩,fZ rfl,fun _ _=>rfl,rfl,rfl,rfl,fun _ _ h=> .inl h⟩
section
variable {P:ak6} {r:ak5 Nat} {n N0:Nat} {G:Gh} {w:ak8} {a:Act} {s:St} {o:Oper} {Q:Exit→St→Prop}
theorem cx.mask(hs:cx G w a s){live:ak3 Nat}{m:Nat}(h:s.Ao live m):cx (G.cut m) w a (s.mask live m):=by
 obtain⟨h1,h2,h3⟩:=h;refine⟨hs.size,fun i=> ?_,Lw hs.inv h1 h3,hs.df⟩;show aN _ _ _ (bB (live.map fun k=>(k,(bB s.t k).bA m)) i);rw[oV (fun k=>(bB s.t k).bA m)];split
 ·rename_i hi
  exact((hs.tmp i).bA m).cut (akF.1 h2 i hi)
 ·exact .dead _
theorem Pb{c:Code}{ι:Type}(live:ak3 Nat)(m:Nat)(st:ι→St)(I:ι→Prop)(μ:ι→Nat)(i0:ι)(hm:N0≤m)(b4:s.Ao live m)(h0:s.mask live m=st i0)(hI:I i0)
 (round:∀i,I i→bJ P r N0 c (gy (fun s'=>s'.Ao live m∧∃i',s'.mask live m=st i'∧I i'∧μ i'<μ i) Q) (st i)):bJ P r N0 (.loop c) Q s:=by
 constructor
 intro G w a n hs _;refine NP (fun(i:ι) a' w'=>∃G',I i∧bR N0 G w G' w'∧N0≤G'.N∧cx G' w' a' (st i)) μ i0 ⟨G.cut m,hI,nT _ _ _ _,hm,h0▸hs.mask b4⟩ ?_;rintro i a' w' ⟨G',hi,hE,hN,ck⟩;refine wpIn_mono ((round i hi).run G' w' a' n ck hN) fun e a1 w1 hn=> ?_;obtain⟨G1,s1,iV,eZ,dO,hq⟩:=hn;cases e with
 |normal=>
  obtain⟨aiQ,i',h1,h2,h3⟩:=hq;exact⟨i',⟨G1.cut m,h2,(hE.trans iV).trans (nT _ _ _ _),hm,h1▸dO.mask aiQ⟩,h3⟩
 |_=>exact⟨G1,s1,hE.trans iV,eZ,dO,hq⟩
def lu(P:ak6)(s:St):ak3 ResultVar→(ak3 AV→Prop)→Prop
 |[],C=>C []
 | .tmp t::l,C=>lu P s l fun xs=>C (bB s.t t::xs)
 | .cell p t::l,C=>ml P t s.h (bB s.t p) fun x=>lu P s l fun xs=>C (x::xs)
def iE:ak3 AV→AV
 |[x]=>x
 |l=> .bk l
def oW(P:ak6)(fn:Func)(m:Nat)(K:AV→ak3 aq→Prop)(s:St):Prop:=
 lu P s fn.results.toList fun l=>m≤s.h.length∧((iE l).bA m).aT m=true∧(((s.h.take m).map (aq.bA m)).all (aq.aT m))=true∧K ((iE l).bA m) ((s.h.take m).map (aq.bA m))
def HA(P:ak6)(fn:Func)(m:Nat)(K:AV→ak3 aq→Prop):Exit→St→Prop
 | .normal,s=>oW P fn m K s
 | .ret,s=>oW P fn m K s
 |_,_=>False
theorem acd{C:ak3 AV→Prop}(hs:cx G w a s)(g:ResultVar→Sem ak7)(hg1:∀t,g (.tmp t)=pure (a.tmps.getD t undef))(Ff:∀p t,g (.cell p t)=(do loadVar t (←asAddr (a.tmps.getD p undef)))):
 ∀(l:ak3 ResultVar),lu P s l C→∃(vs:ak3 ak7)(xs:ak3 AV),(l.mapM g).run P w= .ok vs w∧vs.length=xs.length∧(∀(i:Nat)(u:ak7)(c:AV),vs[i]?=some u→xs[i]?=some c→aN G w u c)∧C xs:=by
 intro l
 induction l generalizing C with
 |nil=>exact fun h=>⟨[],[],by simp,rfl,fun i u c hu=>by simp at hu,h⟩
 |cons x l ih=>
  intro h;cases x with
  |tmp t=>
   obtain⟨vs,xs,h1,h2,h3,h4⟩:=ih h;refine⟨a.tmps.getD t undef::vs,bB s.t t::xs,by simp only[List.mapM_cons,hg1,Sem.run_bind,Sem.run_pure,Result.andThen_ok,h1],by simp [h2],fun i u c hu hc=> ?_,h4⟩
   match i with
   |0=>simp only[List.getElem?_cons_zero,Option.some.injEq]at hu hc;subst hu;subst hc;exact hs.tmp t
   |i+1=>exact h3 i u c (by simpa using hu) (by simpa using hc)
  |cell p t=>
   obtain⟨u0,x0,r1,r2,r3⟩:=Vw (P:=P) hs.inv (hs.tmp p) h;obtain⟨vs,xs,h1,h2,h3,h4⟩:=ih r3;have hv:=hs.tmp p;have e:∃ad,a.tmps.getD p undef= .pointer (some ad):=by
    have h':ml P t s.h (bB s.t p) fun x=>lu P s l fun xs=>C (x::xs):=h;generalize a.tmps.getD p undef=v at hv r1;generalize bB s.t p=y at hv h';cases hv with
    |ptr=>exact⟨_,rfl⟩
    |bE=>exact⟨_,rfl⟩
    |_=>exact(show False from h').elim
   obtain⟨ad,e⟩:=e;rw[e]at r1;have r1':(loadVar t ad).run P w= .ok u0 w:=by simpa [Instr.loadAt,Instr.sureAddr]using r1
   have ha:(asAddr (a.tmps.getD p undef)).run P w= .ok ad w:=by rw[e];rfl
   refine⟨u0::vs,x0::xs,by simp only[List.mapM_cons,Ff,Sem.run_bind,Sem.run_pure,Result.andThen_ok,h1,ha,r1'],by simp [h2],fun i u c hu hc=> ?_,h4⟩
   match i with
   |0=>simp only[List.getElem?_cons_zero,Option.some.injEq]at hu hc;subst hu;subst hc;exact r2
   |i+1=>exact h3 i u c (by simpa using hu) (by simpa using hc)
theorem YB:∀(vs:ak3 ak7)(xs:ak3 AV),vs.length=xs.length→(∀(i:Nat)(u:ak7)(c:AV),vs[i]?=some u→xs[i]?=some c→aN G w u c)→aN G w (if h:vs.toArray.size=1 then vs.toArray[0]else .tuple vs.toArray) (iE xs)
 |[v],[x],_,h=>h 0 v x rfl rfl
 |[],[],_,_=> .bk _ _ rfl fun i u c hu=>by simp at hu
 |v::u::vs,x::y::xs,hl,h=>by
  have:¬(v::u::vs).toArray.size=1:=by simp
  rw[dif_neg this];exact .bk _ _ (by simpa using hl) fun i p q hp hq=>h i p q (by simpa using hp) hq
 |[],_::_,hl,_=>by simp at hl
 |_::_,[],hl,_=>by simp at hl
 |[_],_::_::_,hl,_=>by simp at hl
 |_::_::_,[_],hl,_=>by simp at hl
theorem ag5{fn:Func}{m:Nat}{K:AV→ak3 aq→Prop}(hs:cx G w a s)(h:oW P fn m K s):∃v G' r h',(results fn a.tmps).run P w= .ok v w∧bR N0 G w G' w∧m≤G'.N∧bW G' w h'∧aN G' w v r∧K r h':=by
 obtain⟨g,hg⟩:∃g:ResultVar→Sem ak7,results fn a.tmps=(do let vs ←fn.results.mapM g;pure (if h:vs.size=1 then vs[0]else .tuple vs))∧(∀t,g (.tmp t)=pure (a.tmps.getD t undef))∧(∀p t,g (.cell p t)=(do loadVar t (←asAddr (a.tmps.getD p undef)))):=
  ⟨_,rfl,fun _=>rfl,fun _ _=>rfl⟩
 obtain⟨vs,xs,h1,h2,h3,h4,h5,h6,h7⟩:=acd hs g hg.2.1 hg.2.2 fn.results.toList h;have hr:(results fn a.tmps).run P w= .ok (if h:vs.toArray.size=1 then vs.toArray[0]else .tuple vs.toArray) w:=by
  rw[hg.1,Sem.run_bind,Array.mapM_eq_mapM_toList];have e:∀X:Sem (ak3 ak7),(Functor.map List.toArray X:Sem _)=X>>=fun l=>pure l.toArray:=fun _=>rfl;rw[e,Sem.run_bind,h1];rfl
 have hv:=YB vs xs h2 h3;exact⟨_,G.cut m,_,_,hr,nT _ _ _ _,akq _,Lw hs.inv h4 h6,(hv.bA m).cut h5,h7⟩
theorem zL{f:FuncId}{fn:Func}{c:Code}{args:ak3 AV}{h:ak3 aq}{K:AV→ak3 aq→Prop}(m:Nat)(hf:P.funcs[f]?=some fn)(hb:fn.body=some c)(hn:(fn.name== "runtime.NumGoroutine")=false)(hm:h.length≤m)
 (hw:bJ P none h.length c (HA P fn m K) {n:=args.length+(fn.ntmps-args.length),t:=jR 0 args,h:=h}):bQ P f args h K:=by
 refine⟨by unfold I5;rw[hf];simp [hb];simpa using hn,fun G w vs hi hl hr=> ?_⟩;refine callsIn_wide (n:=8).1 (callsIn_of_wp_marks (F:=Fence.wide) hf hb trivial ?_);have hs:cx {G with M:=w.heap.size} w {tmps:=vs++Array.replicate (fn.ntmps-vs.size) undef,defers:=[]} {n:=args.length+(fn.ntmps-args.length),t:=jR 0 args,h:=h}:=by
  refine⟨by simp [hl],fun i=> ?_,hi.zm G.Z _ (fun _ h=>h) (akq _),pY.nil _ _⟩;show aN _ _ _ (bB (jR 0 args) i);rw[NN];simp only[Nat.zero_le,if_true,Nat.sub_zero];cases hx:args[i]? with
  |none=>exact .dead _
  |some x=>
   have a7:i<vs.size:=by rw[hl];exact(akf.1 hx).1
   have:(vs++Array.replicate (fn.ntmps-vs.size) undef).getD i undef=vs[i]:=by
    simp [Array.getElem?_append_left a7,akB a7]
   simp only[this,Option.getD_some];exact(hr i _ x (akB a7) hx).zm G.Z _
 refine wpIn_mono (hw.run _ w _ 8 hs (by rw[hi.len];exact akq _)) fun e a' w' hn=> ?_;obtain⟨G1,s1,hE,eZ,dO,hq⟩:=hn;have key:oW P fn m K s1→LeavesInM Fence.wide 8 P fn a'.tmps (fun e w'=>∃v G' r h',e= .returned v∧bR G.N G w G' w'∧G.N≤G'.N∧bW G' w' h'∧aN G' w' v r∧K r h') a'.defers .returning w':=fun hq=>by
  obtain⟨w2,G2,k1,k2,k3,k4⟩:=ajA hE eZ hi.z hi.gl.2 dO;obtain⟨v,G',r,h',r1,r2,r3,r4,r5,r6⟩:=ag5 (N0:=h.length) k4 hq;exact k1 _ _ _ _ _ ⟨v,r1,v,G',r,h',rfl,by rw[←hi.len];exact k2.trans r2,by rw[←hi.len];exact akx hm r3,r4,r5,r6⟩
 cases e with
 |normal=>exact key hq
 |ret=>exact key hq
 |_=>exact hq.elim
end
end Go.Proofs.YtpgmcallngdceaaGreatDoor
namespace Go.Proofs.YtpgmcallngdceaaGreatDoor
open Go.RowKit
section
variable {P:ak6} {r:ak5 Nat} {N0:Nat} {s:St} {Q:Exit→St→Prop}
end
theorem bQ.frame{P:ak6}{f:FuncId}{args:ak3 AV}{K:AV→Prop}(hc:bQ P f args [] fun r h=>h=[]∧K r)(ha:args.all (AV.aT 0)=true)(hK:∀r,K r→r.aT 0=true)(h:ak3 aq):
 bQ P f args h fun r h'=>h'=h∧K r:=by
 refine⟨hc.1,fun G w vs hi hl hr=> ?_⟩;have ql:bW {G with N:=0,Z:=fun b=>b<w.heap.size} w []:=⟨rfl,fun b hb=>hb,hi.S,fun n B hB=>by simp at hB,fun m n b h1=>by simp [b6]at h1,hi.gl⟩;refine(hc.2 {G with N:=0,Z:=fun b=>b<w.heap.size} w vs ql hl fun i u c hu hx=> ?_).mono fun e w' hp=> ?_
 ·have:=(hr i u c hu hx).cut (akF.1 ha c (aks hx));clear hc;generalize hG:({G with N:=0,Z:=fun b=>b<w.heap.size}:Gh)=G0;have e:∀{v y},aN (G.cut 0) w v y→aN G0 w v y:=by
   intro v y hv;subst hG
   induction hv with
   |agg vs cs hl _ ih=>exact .agg vs cs hl ih
   |bk vs cs hl _ ih=>exact .bk vs cs hl ih
   |fn f vs cs hl _ ih=>exact .fn f vs cs hl ih
   |own n xs h hp hle hf=>exact absurd h (akH _)
   |ptr n off h=>exact absurd h (akH _)
   |row n off len cap k h hl hm=>exact absurd h (akH _)
   |mp n h=>exact absurd h (akH _)
   |cH n h=>exact absurd h (akH _)
   |vec n o len L k h=>exact absurd h (akH _)
   |cQ n i j L k h=>exact absurd h (akH _)
   |hid h h1=>exact .hid h h1
   |d h=>exact .d h
   |bE xs i off b o u x hx hS hu=>exact .bE xs i off b o u x hx hS hu
   |full xs hp hf=>exact .full xs hp hf
   |dead u=>exact .dead u
  exact e this
 ·obtain⟨v,G',r,h',rfl,hE,hN,di,hv,rfl,hk⟩:=hp;have aj3:G'.N=0:=di.len.symm;have fD:∀b o,G'.S b o→G.S b o∨w.heap.size≤b:=fun b o hs=>(hE.new b o hs).imp id Nat.le_of_not_lt;have jl:bR G.N G w {G with S:=G'.S} w':=
   ⟨hE.size,hE.S,hE.cell,fun _ _=>rfl,fun _ _=> .inl ⟨rfl,rfl⟩,fZ rfl,fun b hb=>hE.old b (hi.z b hb),hE.os,hE.tape,hE.output,fun b o hs=>(fD b o hs).imp id fun jc hz=>by have:=hi.z b hz;omega⟩
  refine⟨v,{G with S:=G'.S},r,h,rfl,jl,akq _,⟨hi.len,fun b hb=>akD (hi.z b hb) hE.size,di.S,fun n B hB=> ?_,fun m n b h1 h2=>hi.inj m n b h1 h2,hi.gl.bo jl⟩,?_,rfl,hk⟩
  ·refine dE.bo (hi.lt hB) jl (akq _) ⟨rfl,rfl,rfl⟩ (fun b hb=> ?_) (hi.cW n B hB);have a7:=hi.ia (n:=n) (b:=b) ((dm hB).trans hb);refine⟨hE.old _ a7,fun o jx hs=> ?_⟩;rcases fD _ o hs with hs|hs
   ·exact jx hs
   ·omega
  ·have hr:=hK r hk;clear hk jl
   induction hv with
   |agg vs cs hl _ ih=>
    rw[AV.aT,l0,akF]at hr;exact .agg vs cs hl fun i u c hu hc=>ih i u c hu hc (hr c (aks hc))
   |bk vs cs hl _ ih=>
    rw[AV.aT,l0,akF]at hr;exact .bk vs cs hl fun i u c hu hc=>ih i u c hu hc (hr c (aks hc))
   |fn f vs cs hl _ ih=>
    rw[AV.aT,l0,akF]at hr;exact .fn f vs cs hl fun i u c hu hc=>ih i u c hu hc (hr c (aks hc))
   |own n xs h hp hle hf=>simp [AV.aT,cf]at hr
   |ptr n off h=>simp [AV.aT,cf]at hr
   |row n off len cap k h hl hm=>simp [AV.aT,cf]at hr
   |mp n h=>simp [AV.aT,cf]at hr
   |cH n h=>simp [AV.aT,cf]at hr
   |vec n o len L k h=>simp [AV.aT,cf]at hr
   |cQ n i j L k h=>simp [AV.aT,cf]at hr
   |hid h h1=>exact .hid h h1
   |d h=>exact .d h
   |bE xs i off b o u x hx hS hu=>exact .bE xs i off b o u x hx hS hu
   |full xs hp hf=>exact .full xs hp hf
   |dead u=>exact .dead u
def aG(P:ak6)(f:FuncId)(args:ak3 AV)(K:AV→Prop):Prop:=bQ P f args [] fun r h=>h=[]∧K r
theorem aG.use{P:ak6}{f:FuncId}{args:ak3 AV}{r:AV}{h:ak3 aq}{C:AV→ak3 aq→Prop}(hc:aG P f args (·=r))(ha:args.all (AV.aT 0)=true)(hr:r.aT 0=true)(hC:C r h):bQ P f args h C:=
 (hc.frame ha (fun _ e=>e▸hr) h).mono fun _ _ ⟨e1,e2⟩=>by subst e1;subst e2;exact hC
def aec:ak3 FuncId:=[55,75,101,102,103]
def n6:Operand→Bool
 | .func g=>aec.any (·==g)
 |_=>false
def cg(o:Oper):Nat:=
 match o.op with
 | .move _| .assign _| .pick .. | .nilCheck _| .fieldAddr .. | .field .. | .indexAddr .. | .index .. | .build .. | .buildSlice .. | .slice .. | .extract .. | .makeFunc .. | .binOp .. | .unOp .. | .convert .. =>0
 | .load .. | .lookup .. =>1
 | .alloc _| .box .. =>2
 | .store .. | .makeMap .. | .mapUpdate .. =>3
 | .call c=>match c.callee with
   | .builtin .len| .builtin .max| .builtin .min=>0
   | .builtin .append=>5
   | .value f=>bif n6 f then 6 else 4
   |_=>9
 |_=>9
def QK(P:ak6)(g:FuncId)(args:ak3 AV)(h:ak3 aq)(C:AV→Prop):Prop:=∃r,C r∧∀e,bQ P g args (h++e) fun r' h'=>r'=r∧h'=h++e
def yn(P:ak6)(o:Oper)(K:St→Prop)(s:St):Prop:=
 match o.op with
 | .call c=>match c.callee with
   | .value f=>match ev s f with
     | .fn g cY=>QK P g (c.args.toList.map (ev s)++cY) s.h fun r=>K (s.put o.dst r)
     | .hid q=>∃g cs,q= .fn g cs∧QK P g (c.args.toList.map (ev s)++cs.map fQ.av) s.h fun r=>K (s.put o.dst r)
     |_=>False
   |_=>oY P o K s
 |_=>oY P o K s
def iD(o:Oper):Bool:=
 match o.op with
 | .indexAddr .. | .fieldAddr .. | .nilCheck .. | .load .. | .store .. =>true
 | .call c=>match c.callee with
   | .builtin .len=>true
   |_=>false
 |_=>false
def na(m:Bool)(o:Oper):Bool:=m&&match o.op with
 | .call c=>match c.callee with
   | .value (.tmp _)=>true
   |_=>false
 |_=>false
def yI(m:Bool)(P:ak6)(o:Oper)(K:St→Prop)(s:St):Prop:=
 yn P o K s∨(na m o=true∧∃x h1,K ((s.wh h1).put o.dst x)∧∀C:AV→ak3 aq→Prop,C x h1→cp P o (ev s) s.h C)∨(iD o=true∧IM P o K s)∨(cg o=6∧∃x e0,K ((s.wh (s.h++e0)).put o.dst x)∧∀C:AV→ak3 aq→Prop,C x (s.h++e0)→cp P o (ev s) s.h C)
def gU(P:ak6)(o:Oper)(ρ:Operand→AV)(h:ak3 aq)(C:AV→ak3 aq→Prop):Prop:=
 cp P o ρ h C∨(iD o=true∧∃a x h' p,gC P o.op ρ h a=some (x,h',p)∧p∧C x h')
def uC(m:Bool)(P:ak6)(ops:Array Oper):ak3 Oper→(St→Prop)→St→Prop
 |[],K,s=>K s
 |o::rest,K,s=>gW ops o s (yI m P o (uC m P ops rest K) s) (uC m P ops rest K (s.put o.dst (.d (.v undef))))
abbrev XH(P:ak6)(o:Oper)(K:St→Prop)(s:St):Prop:=yI false P o K s
abbrev Ez(P:ak6)(ops:Array Oper)(l:ak3 Oper)(K:St→Prop)(s:St):Prop:=uC false P ops l K s
section
variable {P:ak6} {o:Oper} {ρ ρ':Operand→AV} {h:ak3 aq} {C:AV→ak3 aq→Prop}
theorem Pg(x:ak5 Operand)(hx:∀y∈x.toArray,ρ y=ρ' y)(d:Nat)(F:Nat→Prop):iw ρ x d F=iw ρ' x d F:=by
 cases x with
 |none=>rfl
 |some y=>simp only[iw,hx y (by simp)]
theorem aaI(hρ:∀x∈o.op.operands,ρ x=ρ' x):cp P o ρ h C=cp P o ρ' h C:=by
 obtain⟨dst,op,type,pos,after,guard⟩:=o;have Wk:∀ps:Array (Nat×Operand),(∀x∈ps.map (·.2),ρ x=ρ' x)→(ps.toList.map fun p=>(p.1,ρ p.2))=(ps.toList.map fun p=>(p.1,ρ' p.2)):=fun ps hp=>
  akK fun p hm=>by rw[hp p.2 (Array.mem_map.2 ⟨p,Array.mem_toList_iff.1 hm,rfl⟩)]
 have fq:∀l:Array Operand,(∀x∈l,ρ x=ρ' x)→l.toList.map ρ=l.toList.map ρ':=fun l hl=>akK fun x hm=>hl x (Array.mem_toList_iff.1 hm);cases op with
 |build t ps=>simp only[cp,Wk ps fun x hx=>hρ x (by simpa [Op.operands]using hx)]
 |buildSlice t n ps=>simp only[cp,Wk ps fun x hx=>hρ x (by simpa [Op.operands]using hx)]
 |makeFunc fn first captured=>
  cases fn with
  |func f=>simp only[cp,fq captured fun x hx=>hρ x (by simp [Op.operands,hx])]
  |_=>rfl
 |slice t x lo hi mx=>
  have e1:ρ x=ρ' x:=hρ x (by simp [Op.operands]);have e2:=fun d F=>Pg (ρ:=ρ) (ρ':=ρ') lo (fun y hy=>hρ y (by simp at hy;simp [Op.operands,hy])) d F;have e3:=fun d F=>Pg (ρ:=ρ) (ρ':=ρ') hi (fun y hy=>hρ y (by simp at hy;simp [Op.operands,hy])) d F;have e4:=fun d F=>Pg (ρ:=ρ) (ρ':=ρ') mx (fun y hy=>hρ y (by simp at hy;simp [Op.operands,hy])) d F;cases lo<;>cases hi<;>cases mx<;>simp only[cp,tE,e1,e2,e3,e4]
 |call c=>
  have ha:c.args.toList.map ρ=c.args.toList.map ρ':=fq c.args fun x hx=>hρ x (by simp [Op.operands,Call.operands,hx]);have hm:∀x,x∈c.args.toList→ρ x=ρ' x:=fun x hx=>hρ x (by simp [Op.operands,Call.operands];right;exact Array.mem_toList_iff.1 hx);cases hc:c.callee with
  |value f=>
   have hf:ρ f=ρ' f:=hρ f (by simp [Op.operands,Call.operands,hc]);simp only[cp,hc,hf,ha]
  |invoke=>simp only[cp,hc]
  |builtin b=>
   cases b with
   |len=>
    simp only[cp,hc];split
    ·rename_i x _ heq _
     rw[hm x (by rw[heq];simp)]
    ·rfl
   |append=>
    simp only[cp,hc];split
    ·rename_i x y _ _ heq _
     rw[hm x (by rw[heq];simp),hm y (by rw[heq];simp)]
    ·rfl
   |max=>simp only[cp,hc,ha]
   |min=>simp only[cp,hc,ha]
   |_=>simp only[cp,hc]
 |makeMap t r=>cases r<;>rfl
 |lookup t a b ok=>simp only[cp,nL,hρ a (by simp [Op.operands]),hρ b (by simp [Op.operands])]
 |mapUpdate t a b c=>simp only[cp,nL,hρ a (by simp [Op.operands]),hρ b (by simp [Op.operands]),hρ c (by simp [Op.operands])]
 |pick c a b=>simp only[cp,hρ c (by simp [Op.operands]),hρ a (by simp [Op.operands]),hρ b (by simp [Op.operands])]
 |store t a b=>simp only[cp,hρ a (by simp [Op.operands]),hρ b (by simp [Op.operands])]
 |binOp op t a b u=>simp only[cp,hρ a (by simp [Op.operands]),hρ b (by simp [Op.operands])]
 |indexAddr t a b=>simp only[cp,hρ a (by simp [Op.operands]),hρ b (by simp [Op.operands])]
 |index t a b=>simp only[cp,hρ a (by simp [Op.operands]),hρ b (by simp [Op.operands])]
 |move a|assign a|box t a|load t a|nilCheck a|fieldAddr t a f|field t a f|extract a i|unOp op t a|convert t u a=>simp only[cp,hρ a (by simp [Op.operands])]
 |_=>rfl
theorem afT(hv:iD o=true)(hρ:∀x∈o.op.operands,ρ x=ρ' x)(a:VA):gC P o.op ρ h a=gC P o.op ρ' h a:=by
 obtain⟨dst,op,type,pos,after,guard⟩:=o;cases op with
 |store t a b=>simp only[gC,hρ a (by simp [Op.operands]),hρ b (by simp [Op.operands])]
 |indexAddr t a b=>simp only[gC,hρ a (by simp [Op.operands]),hρ b (by simp [Op.operands])]
 |load t a|nilCheck a|fieldAddr t a f=>simp only[gC,hρ a (by simp [Op.operands])]
 |call c=>
  have hm:∀x,x∈c.args.toList→ρ x=ρ' x:=fun x hx=>hρ x (by simp [Op.operands,Call.operands];right;exact Array.mem_toList_iff.1 hx);cases hc:c.callee with
  |builtin b=>
   cases b with
   |len=>
    simp only[gC,hc];split
    ·rename_i x _ heq _
     rw[hm x (by rw[heq];simp)]
    ·rfl
   |_=>simp [iD,hc]at hv
  |_=>simp [iD,hc]at hv
 |_=>simp [iD]at hv
theorem Ps(hρ:∀x∈o.op.operands,ρ x=ρ' x):gU P o ρ h C=gU P o ρ' h C:=by
 unfold gU;rw[aaI hρ];by_cases hv:iD o=true
 ·simp only[afT hv hρ]
 ·simp only[hv,Bool.false_eq_true,false_and]
end
def aja:aq→Bool
 | .cells _| .map _| .vec .. =>true
 |_=>false
def l6:ak5 aq→ak5 (Nat×Nat)
 |some (.vec _ k cs)=>some (k,cs.length)
 |_=>none
def gq(h h':ak3 aq):Prop:=∀(m:Nat)(q:Nat×Nat),l6 h[m]?=some q→l6 h'[m]?=some q
def ga(h h':ak3 aq):Prop:=∀m:Nat,l6 h[m]?=l6 h'[m]?
theorem ga.i{h h':ak3 aq}(e:ga h h'):gq h h':=fun m q hq=>by rw[←e m];exact hq
theorem ga.j{h h':ak3 aq}(e:ga h h'):gq h' h:=fun m q hq=>by rw[e m];exact hq
theorem gq.refl(h:ak3 aq):gq h h:=fun _ _ e=>e
theorem gq.trans{a b c:ak3 aq}(x:gq a b)(y:gq b c):gq a c:=fun m q e=>y m q (x m q e)
theorem gq.app(h e:ak3 aq):gq h (h++e):=fun m q hq=>by
 by_cases hl:m<h.length
 ·rw[akp hl];exact hq
 ·rw[akL (by omega)]at hq;cases hq
theorem ga.app{h:ak3 aq}{B:aq}(hB:l6 (some B)=none):ga h (h++[B]):=fun m=>by
 by_cases hl:m<h.length
 ·rw[akp hl]
 ·rw[akv (by omega),akL (by omega:h.length≤m)];by_cases h0:m-h.length=0
  ·rw[h0];exact hB.symm
  ·rw[akL (by simp;omega)]
theorem ga.set{h:ak3 aq}{n:Nat}{B B':aq}(hn:h[n]?=some B)(hB:l6 (some B)=l6 (some B')):ga h (h.set n B'):=fun m=>by
 by_cases e:n=m
 ·subst e;rw[akI (akf.1 hn).1,hn];exact hB
 ·rw[akN e]
def gm(h h':ak3 aq):Prop:=∀(n:Nat)(B:aq),h[n]?=some B→aja B=true→h'[n]?=some B
theorem gm.app(h e:ak3 aq):gm h (h++e):=fun n cs hn _=>by
 rw[akp (akf.1 hn).1];exact hn
theorem gm.refl(h:ak3 aq):gm h h:=fun _ _ hn _=>hn
theorem ai8{P:ak6}{ρ:Operand→AV}{h h1:ak3 aq}{T:TypeId}{m i:Operand}{ok:Bool}{x:AV}{p:Sd}(hx:nL P (.lookup T m i ok) ρ h=some (x,h1,p)):h1=h∧∀h',gm h h'→nL P (.lookup T m i ok) ρ h'=some (x,h',p):=by
 simp only[nL]at hx ⊢;split at hx
 ·next k e hT=>
  split at hx
  ·next z hz=>
   split at hx
   ·next b s' hm hi=>
    split at hx
    ·next kv hn=>
     cases hc:fK P k&&z.oneCell' with
     |false=>rw[hc]at hx;cases hx
     |true=>
      rw[hc]at hx;cases hx
      refine⟨rfl,fun h' hh=> ?_⟩;rw[hh b _ hn rfl];simp only[cond_true]
    ·cases hx
   ·cases hx
  ·cases hx
 ·cases hx
theorem TN{h:ak3 aq}{n e k:Nat}{cs:ak3 (ak3 AV)}(hn:h[n]?=some (.vec e k cs)):l6 h[n]?=some (k,cs.length):=by rw[hn];rfl
theorem SB{h:ak3 aq}{n k l:Nat}(hq:l6 h[n]?=some (k,l)):∃e cs,h[n]?=some (.vec e k cs)∧cs.length=l:=by
 unfold l6 at hq;split at hq
 ·next e k' cs e1=>cases hq;exact⟨e,cs,e1,rfl⟩
 ·cases hq
theorem afX{P:ak6}{o:Oper}{ρ:Operand→AV}{h h1:ak3 aq}{a:VA}{x:AV}{p:Prop}(hv:iD o=true)(hk:cg o=0)(hx:gC P o.op ρ h a=some (x,h1,p))(hp:p):h1=h∧∀h',gq h h'→∃p',gC P o.op ρ h' a=some (x,h',p')∧p':=by
 obtain⟨dst,op,type,pos,after,guard⟩:=o;cases op with
 |indexAddr T y i=>
  simp only[gC]at hx ⊢;split at hx
  ·next n o len L k z e k' i' e1 e2 e3=>
   split at hx
   ·next e4 k2 cs hn=>
    obtain⟨hb,he⟩:=k9 hx;cases he
    rw[akh,beq_iff_eq,beq_iff_eq]at hb;obtain⟨rfl,rfl⟩:=hb;refine⟨rfl,fun h' hh=> ?_⟩;obtain⟨e5,cs5,q1,q2⟩:=SB (hh n _ (TN hn));simp only[q1,akY,Bool.and_self,cond_true];exact⟨_,rfl,by rw[q2];exact hp.1,hp.2⟩
   ·cases hx
  ·cases hx
 |fieldAddr T y f=>
  simp only[gC]at hx ⊢;split at hx
  ·next e1 e2=>cases hx;exact⟨rfl,fun h' _=>⟨_,rfl,trivial⟩⟩
  ·cases hx
 |nilCheck y=>
  simp only[gC]at hx ⊢;split at hx
  ·next e1=>cases hx;exact⟨rfl,fun h' _=>⟨_,rfl,trivial⟩⟩
  ·cases hx
 |call c=>
  cases hc:c.callee with
  |builtin b=>
   cases b with
   |len=>
    simp only[gC,hc]at hx ⊢;split at hx
    ·split at hx
     ·next n o len L k e1=>
      split at hx
      ·next e2 k2 cs hn=>
       obtain⟨hb,he⟩:=k9 hx;cases he
       rw[akh,beq_iff_eq]at hb;obtain⟨iH,rfl⟩:=hb;refine⟨rfl,fun h' hh=> ?_⟩;obtain⟨e5,cs5,q1,q2⟩:=SB (hh n _ (TN hn));simp only[q1,iH,akY,Bool.and_self,cond_true];exact⟨_,rfl,by rw[q2];exact hp⟩
      ·cases hx
     ·cases hx
    ·cases hx
   |_=>simp [iD,hc]at hv
  |_=>simp [iD,hc]at hv
 |load t y=>simp [cg]at hk
 |store t y z=>simp [cg]at hk
 |_=>simp [iD]at hv
theorem afc{P:ak6}{o:Oper}{ρ:Operand→AV}{h h1:ak3 aq}{a:VA}{x:AV}{p:Prop}(hv:iD o=true)(hk:cg o=1)(hx:gC P o.op ρ h a=some (x,h1,p))(hp:p):h1=h∧∀h',gm h h'→∃p',gC P o.op ρ h' a=some (x,h',p')∧p':=by
 obtain⟨dst,op,type,pos,after,guard⟩:=o;cases op with
 |load t y=>
  simp only[gC]at hx ⊢;split at hx
  ·next n i j L k c e1=>
   split at hx
   ·next e2 k' cs z hn hz=>
    obtain⟨hb,he⟩:=k9 hx;cases he
    refine⟨rfl,fun h' hh=> ?_⟩;simp only[hh n _ hn rfl,hz,hb,cond_true];exact⟨_,rfl,hp⟩
   ·cases hx
  ·cases hx
 |indexAddr T y i=>simp [cg]at hk
 |fieldAddr T y f=>simp [cg]at hk
 |nilCheck y=>simp [cg]at hk
 |call c=>
  cases hc:c.callee with
  |builtin b=>cases b<;>simp [cg,hc]at hk
  |value f=>cases kO:n6 f<;>simp [cg,hc,kO]at hk
  |invoke=>simp [cg,hc]at hk
 |store t y z=>simp [cg]at hk
 |_=>simp [iD]at hv
theorem ai9{P:ak6}{o:Oper}{ρ:Operand→AV}{h h1:ak3 aq}{a:VA}{x:AV}{p:Prop}(hv:iD o=true)(hk:cg o=3)(hx:gC P o.op ρ h a=some (x,h1,p))(hp:p):ga h h1:=by
 obtain⟨dst,op,type,pos,after,guard⟩:=o;cases op with
 |store t y z=>
  simp only[gC]at hx;split at hx
  ·next n i j L k c b7 e1=>
   split at hx
   ·next e k' cs q hn hz=>
    obtain⟨hb,he⟩:=k9 hx;cases he
    simp only[akh,beq_iff_eq]at hb;refine ga.set hn ?_;simp only[l6,List.length_set,hp.2.2,hb.1.1.1.1]
   ·cases hx
  ·cases hx
 |load t y=>simp [cg]at hk
 |indexAddr T y i=>simp [cg]at hk
 |fieldAddr T y f=>simp [cg]at hk
 |nilCheck y=>simp [cg]at hk
 |call c=>
  cases hc:c.callee with
  |builtin b=>cases b<;>simp [cg,hc]at hk
  |value f=>cases kO:n6 f<;>simp [cg,hc,kO]at hk
  |invoke=>simp [cg,hc]at hk
 |_=>simp [iD]at hv
def lN(m:Bool)(o:Oper):Nat:=bif na m o then 7 else cg o
def dI(m:Bool)(P:ak6)(o:Oper)(ρ:Operand→AV)(h:ak3 aq)(x:AV)(h1:ak3 aq):Prop:=
 match lN m o with
 |0=>h1=h∧∀h',gq h h'→∀C:AV→ak3 aq→Prop,C x h'→gU P o ρ h' C
 |1=>h1=h∧∀h',gm h h'→∀C:AV→ak3 aq→Prop,C x h'→gU P o ρ h' C
 |2=>∃B,l6 (some B)=none∧x= .ptr h.length 0∧h1=h++[B]∧∀h'(C:AV→ak3 aq→Prop),C (.ptr h'.length 0) (h'++[B])→gU P o ρ h' C
 |3=>ga h h1∧∀C:AV→ak3 aq→Prop,C x h1→gU P o ρ h C
 |4=>h1=h∧∀e(C:AV→ak3 aq→Prop),C x (h++e)→gU P o ρ (h++e) C
 |5=>(gm h h1∧gm h1 h∧ga h h1)∧∀C:AV→ak3 aq→Prop,C x h1→gU P o ρ h C
 |6=>∃e0,h1=h++e0∧∀C:AV→ak3 aq→Prop,C x h1→gU P o ρ h C
 |7=>∀C:AV→ak3 aq→Prop,C x h1→gU P o ρ h C
 |_=>False
section
variable {P:ak6} {o:Oper} {ρ ρ':Operand→AV} {h:ak3 aq} {C:AV→ak3 aq→Prop}
theorem ahI{p:AV}{K:ak3 AV→Nat→Prop}(hp:qO h p K):∃cs off,K cs off∧∀h',gm h h'→∀K':ak3 AV→Nat→Prop,K' cs off→qO h' p K':=by
 unfold qO at hp ⊢;split at hp
 ·rename_i n off
  split at hp
  ·rename_i cs fi
   refine⟨cs,off,hp,fun h' hh K' hk=> ?_⟩;rw[hh n _ fi rfl];exact hk
  ·exact hp.elim
 ·rename_i xs i off
  split at hp
  ·rename_i cs fi
   refine⟨_,off,hp,fun h' _ K' hk=> ?_⟩;exact hk
  ·exact hp.elim
 ·exact hp.elim
theorem Z1{t:Nat}{p:AV}{K:AV→Prop}(hp:ml P t h p K):∃x,K x∧∀h',gm h h'→∀K':AV→Prop,K' x→ml P t h' p K':=by
 unfold ml at hp ⊢;obtain⟨cs,off,h1,h2⟩:=ahI hp;split at h1
 ·rw[bO]at h1;refine⟨_,h1.2,fun h' hh K' hJ=>h2 h' hh _ ?_⟩;exact bO.2 ⟨h1.1,hJ⟩
 ·split at h1
  ·rename_i c hc
   refine⟨c,h1,fun h' hh K' hJ=>h2 h' hh _ ?_⟩;simp only[hc];exact hJ
  ·exact h1.elim
 ·exact h1.elim
theorem sJ{x:ak5 Operand}{d:Nat}{F:Nat→Prop}(hx:iw ρ x d F):∃m,F m∧∀F':Nat→Prop,F' m→iw ρ x d F':=by
 cases x with
 |none=>exact⟨d,hx,fun _ h=>h⟩
 |some y=>
  simp only[iw]at hx;split at hx
  ·rename_i z hz
   exact⟨_,hx.2,fun F' hF=>by simp only[iw,hz];exact⟨hx.1,hF⟩⟩
  ·exact hx.elim
theorem afB(hk:cg o=0)(hc:cp P o ρ h C):∃x,C x h∧∀h'(C':AV→ak3 aq→Prop),C' x h'→cp P o ρ h' C':=by
 have tp:∀(F:(AV→Prop)→Prop),(∀K,F K→∃x,K x∧∀K',K' x→F K')→F (fun x=>C x h)→(∀h' C',cp P o ρ h' C'=F (fun x=>C' x h'))→∃x,C x h∧∀h'(C':AV→ak3 aq→Prop),C' x h'→cp P o ρ h' C':=fun F hF h0 he=>by
  obtain⟨x,h1,h2⟩:=hF _ h0;exact⟨x,h1,fun h' C' cU=>by rw[he];exact h2 _ cU⟩
 obtain⟨dst,op,type,pos,after,guard⟩:=o;cases op with
 |move a=>exact⟨ρ a,hc,fun _ _ h=>h⟩
 |assign a=>exact⟨ρ a,hc,fun _ _ h=>h⟩
 |pick c a b=>
  simp only[cp]at hc;split at hc
  ·rename_i t ht
   cases t with
   |true=>exact⟨ρ a,hc.1 rfl,fun h' C' cU=>by simp only[cp,ht];exact⟨fun _=>cU,fun e=>by cases e⟩⟩
   |false=>exact⟨ρ b,hc.2 rfl,fun h' C' cU=>by simp only[cp,ht];exact⟨fun e=>(by cases e),fun _=>cU⟩⟩
  ·exact hc.elim
 |nilCheck a=>
  simp only[cp]at hc;split at hc
  ·rename_i m off e;exact⟨_,hc,fun h' C' cU=>by simp only[cp,e];exact cU⟩
  ·rename_i xs i off e;exact⟨_,hc,fun h' C' cU=>by simp only[cp,e];exact cU⟩
  ·rename_i f cs e;exact⟨_,hc,fun h' C' cU=>by simp only[cp,e];exact cU⟩
  ·exact hc.elim
 |fieldAddr t a f=>
  simp only[cp]at hc;split at hc
  ·rename_i fo k g hf
   split at hc
   ·rename_i m off e;exact⟨_,hc,fun h' C' cU=>by simp only[cp,hf,e];exact cU⟩
   ·rename_i xs i off e;exact⟨_,hc,fun h' C' cU=>by simp only[cp,hf,e];exact cU⟩
   ·exact hc.elim
  ·exact hc.elim
 |field t a f=>
  refine tp (uO P t (ρ a) f) (fun K hK=> ?_) hc (fun _ _=>rfl);unfold uO at hK ⊢;split at hK
  ·rw[bO]at hK;exact⟨_,hK.2,fun K' dv=>bO.2 ⟨hK.1,dv⟩⟩
  ·split at hK
   ·rename_i c iK;exact⟨c,hK,fun K' dv=>dv⟩
   ·exact hK.elim
  ·exact hK.elim
 |indexAddr t a b=>
  refine tp (qP P t (ρ a) (ρ b)) (fun K hK=> ?_) hc (fun _ _=>rfl);unfold qP at hK ⊢;split at hK
  ·rename_i e k hT
   split at hK
   ·rename_i n off len cap k'
    split at hK
    ·rename_i z hz
     rw[bO]at hK;obtain⟨h1,h2,h3,h4⟩:=hK;exact⟨_,h4,fun K' dv=>bO.2 ⟨h1,h2,h3,dv⟩⟩
    ·exact hK.elim
   ·split at hK
    ·rename_i xs z j0 hz
     obtain⟨h0,hK⟩:=hK;split at hK
     ·rename_i c iK
      exact⟨_,hK.2,fun K' dv=>⟨h0,hK.1,dv⟩⟩
     ·exact hK.elim
    ·exact hK.elim
  ·split at hK
   ·rename_i n e k b' off z hT hz
    obtain⟨h1,h2,h3⟩:=hK;exact⟨_,h3,fun K' dv=>⟨h1,h2,dv⟩⟩
   ·rename_i n e k xs i' off z hT hz
    rw[bO]at hK;obtain⟨h0,h1,h2,h3⟩:=hK;split at h3
    ·rename_i c iK
     split at h3
     ·rename_i d hd
      exact⟨_,h3,fun K' dv=>bO.2 ⟨h0,h1,h2,dv⟩⟩
     ·exact h3.elim
    ·exact h3.elim
   ·exact hK.elim
 |index t a b=>
  simp only[cp]at hc;split at hc
  ·rename_i bb z e1 e2
   rw[bO]at hc;obtain⟨h1,h2,h3⟩:=hc;split at h3
   ·rename_i c iK
    exact⟨_,h3,fun h' C' cU=>by simp only[cp,e1,e2];exact bO.2 ⟨h1,h2,by simp only[iK];exact cU⟩⟩
   ·exact h3.elim
  ·exact hc.elim
 |build t ps=>
  refine tp (xI P t (ps.toList.map fun p:Nat×Operand=>(p.1,ρ p.2))) (fun K hK=> ?_) hc (fun _ _=>rfl);unfold xI at hK ⊢;split at hK
  ·split at hK
   ·rename_i cs fi
    rw[bO]at hK;exact⟨_,hK.2,fun K' dv=>bO.2 ⟨hK.1,dv⟩⟩
   ·exact hK.elim
  ·exact hK.elim
 |buildSlice t n ps=>
  refine tp (vv P t n (ps.toList.map fun p:Nat×Operand=>(p.1,ρ p.2))) (fun K hK=> ?_) hc (fun _ _=>rfl);unfold vv at hK ⊢;split at hK
  ·split at hK
   ·split at hK
    ·rename_i cs fi
     split at hK
     ·rename_i ds s7
      rw[bO]at hK;exact⟨_,hK.2,fun K' dv=>bO.2 ⟨hK.1,dv⟩⟩
     ·exact hK.elim
    ·exact hK.elim
   ·exact hK.elim
  ·exact hK.elim
 |slice t a lo hi mx=>
  refine tp (tE P t ρ (ρ a) lo hi mx) (fun K hK=> ?_) hc (fun _ _=>rfl);unfold tE at hK ⊢;split at hK
  ·split at hK
   ·rw[bO]at hK;obtain⟨h0,hK⟩:=hK;obtain⟨m1,hK,j1⟩:=sJ hK;obtain⟨h1,hK⟩:=hK;obtain⟨m2,hK,j2⟩:=sJ hK;obtain⟨h2,hK⟩:=hK;exact⟨_,hK,fun K' dv=>bO.2 ⟨h0,j1 _ ⟨h1,j2 _ ⟨h2,dv⟩⟩⟩⟩
   ·split at hK
    ·rw[bO]at hK;obtain⟨h0,hK⟩:=hK;obtain⟨m1,hK,j1⟩:=sJ hK;rw[bO]at hK;obtain⟨h1,hK⟩:=hK;obtain⟨m2,hK,j2⟩:=sJ hK;rw[bO]at hK;obtain⟨h2,hK⟩:=hK;exact⟨_,hK,fun K' dv=>by rw[bO];exact⟨h0,j1 _ (by rw[bO];exact⟨h1,j2 _ (by rw[bO];exact⟨h2,dv⟩)⟩)⟩⟩
    ·exact hK.elim
   ·split at hK
    ·obtain⟨h0,hK⟩:=hK;obtain⟨m1,hK,j1⟩:=sJ hK;obtain⟨h1,hK⟩:=hK;obtain⟨m2,hK,j2⟩:=sJ hK;obtain⟨h2,hK⟩:=hK;exact⟨_,hK,fun K' dv=>⟨h0,j1 _ ⟨h1,j2 _ ⟨h2,dv⟩⟩⟩⟩
    ·exact hK.elim
  ·split at hK
   ·split at hK
    ·obtain⟨h0,hK⟩:=hK;obtain⟨m1,hK,j1⟩:=sJ hK;obtain⟨h1,hK⟩:=hK;obtain⟨m2,hK,j2⟩:=sJ hK;obtain⟨h2,hK⟩:=hK;exact⟨_,hK,fun K' dv=>⟨h0,j1 _ ⟨h1,j2 _ ⟨h2,dv⟩⟩⟩⟩
    ·exact hK.elim
   ·exact hK.elim
 |extract a i=>
  simp only[cp]at hc;split at hc
  ·rename_i cs e
   split at hc
   ·rename_i c iK;exact⟨c,hc,fun h' C' cU=>by simp only[cp,e,iK];exact cU⟩
   ·exact hc.elim
  ·exact hc.elim
 |makeFunc fn first cY=>
  cases fn with
  |func f=>
   simp only[cp]at hc;split at hc
   ·rename_i e;exact⟨_,hc,fun h' C' cU=>by simp only[cp,e];exact cU⟩
   ·exact hc.elim
  |_=>exact hc.elim
 |binOp op t a b u=>
  refine tp (w8 P t op (ρ a) (ρ b)) (fun K hK=> ?_) hc (fun _ _=>rfl);unfold w8 at hK ⊢;split at hK
  ·split at hK
   ·rw[bO]at hK;exact⟨_,hK.2.2,fun K' dv=>bO.2 ⟨hK.1,hK.2.1,dv⟩⟩
   ·split at hK
    ·exact⟨_,hK.2,fun K' dv=>⟨hK.1,dv⟩⟩
    ·split at hK
     ·rw[bO]at hK;exact⟨_,hK.2,fun K' dv=>bO.2 ⟨hK.1,dv⟩⟩
     ·exact hK.elim
  ·split at hK
   ·exact⟨_,hK,fun K' dv=>dv⟩
   ·split at hK
    ·exact⟨_,hK.2,fun K' dv=>⟨hK.1,dv⟩⟩
    ·exact hK.elim
  ·split at hK
   ·rw[bO]at hK;exact⟨_,hK.2,fun K' dv=>bO.2 ⟨hK.1,dv⟩⟩
   ·exact hK.elim
  ·split at hK
   ·split at hK
    ·exact⟨_,hK,fun K' dv=>dv⟩
    ·exact hK.elim
   ·exact hK.elim
  ·exact hK.elim
 |unOp op t a=>
  refine tp (wZ op (ρ a)) (fun K hK=> ?_) hc (fun _ _=>rfl);unfold wZ at hK ⊢;split at hK
  ·split at hK
   ·exact⟨_,hK,fun K' dv=>dv⟩
   ·exact hK.elim
  ·exact hK.elim
 |convert t u a=>
  refine tp (vq P t u (ρ a)) (fun K hK=> ?_) hc (fun _ _=>rfl);unfold vq at hK ⊢;split at hK
  ·split at hK
   ·exact⟨_,hK,fun K' dv=>dv⟩
   ·exact hK.elim
  ·rw[bO]at hK;exact⟨_,hK.2,fun K' dv=>bO.2 ⟨hK.1,dv⟩⟩
  ·split at hK
   ·rw[bO]at hK;obtain⟨h1,ns,h2,h3⟩:=hK;exact⟨_,h3,fun K' dv=>bO.2 ⟨h1,ns,h2,dv⟩⟩
   ·exact hK.elim
 |call c=>
  simp only[cg]at hk;cases dM:c.callee with
  |value f=>cases kO:n6 f<;>simp [dM,kO]at hk
  |invoke=>simp [dM]at hk
  |builtin b=>
   cases b with
   |len=>
    simp only[cp,dM]at hc;split at hc
    ·rename_i x T e1 e2
     have key:∀F:Nat→Prop,qE P T (ρ x) F→∃m,F m∧∀F':Nat→Prop,F' m→qE P T (ρ x) F':=fun F hF=>by
      unfold qE at hF ⊢;split at hF
      ·rw[bO]at hF;exact⟨_,hF.2,fun F' jB=>bO.2 ⟨hF.1,jB⟩⟩
      ·rw[bO]at hF;exact⟨_,hF.2,fun F' jB=>bO.2 ⟨hF.1,jB⟩⟩
      ·split at hF
       ·rw[bO]at hF;exact⟨_,hF.2,fun F' jB=>bO.2 ⟨hF.1,jB⟩⟩
       ·exact hF.elim
     obtain⟨m,h1,h2⟩:=key _ hc;exact⟨_,h1,fun h' C' cU=>by simp only[cp,dM,e1,e2];exact h2 _ cU⟩
    ·exact hc.elim
   |max=>
    simp only[cp,dM]at hc;split at hc
    ·rename_i e1
     exact⟨_,hc,fun h' C' cU=>by simp only[cp,dM,e1];exact cU⟩
    ·exact hc.elim
   |min=>
    simp only[cp,dM]at hc;split at hc
    ·rename_i e1
     exact⟨_,hc,fun h' C' cU=>by simp only[cp,dM,e1];exact cU⟩
    ·exact hc.elim
   |_=>simp [dM]at hk
 |_=>simp [cg]at hk
theorem agf(hk:cg o=2)(hc:cp P o ρ h C):∃B,l6 (some B)=none∧C (.ptr h.length 0) (h++[B])∧∀h'(C':AV→ak3 aq→Prop),C' (.ptr h'.length 0) (h'++[B])→cp P o ρ h' C':=by
 obtain⟨dst,op,type,pos,after,guard⟩:=o;cases op with
 |alloc e=>
  simp only[cp]at hc;split at hc
  ·rename_i z hz;exact⟨_,rfl,hc,fun h' C' cU=>by simp only[cp,hz];exact cU⟩
  ·exact hc.elim
 |box e x=>
  simp only[cp]at hc;rw[bO]at hc;exact⟨_,rfl,hc.2,fun h' C' cU=>by simp only[cp];rw[bO];exact⟨hc.1,cU⟩⟩
 |call c=>
  simp only[cg]at hk;cases dM:c.callee with
  |value f=>cases kO:n6 f<;>simp [dM,kO]at hk
  |invoke=>simp [dM]at hk
  |builtin b=>cases b<;>simp [dM]at hk
 |_=>simp [cg]at hk
theorem agw(hk:cg o=3)(hc:cp P o ρ h C):∃x h1,C x h1∧ga h h1∧∀C':AV→ak3 aq→Prop,C' x h1→cp P o ρ h C':=by
 obtain⟨dst,op,type,pos,after,guard⟩:=o;cases op with
 |store t a b=>
  simp only[cp]at hc;have key:∀F:ak3 aq→Prop,vw P t h (ρ a) (ρ b) F→∃h1,F h1∧ga h h1∧∀F':ak3 aq→Prop,F' h1→vw P t h (ρ a) (ρ b) F':=fun F hF=>by
   unfold vw at hF ⊢;split at hF
   ·split at hF
    ·next hn=>
     split at hF
     ·rw[bO]at hF;exact⟨_,hF.2,ga.set hn rfl,fun F' jB=>bO.2 ⟨hF.1,jB⟩⟩
     ·exact hF.elim
    ·exact hF.elim
   ·exact hF.elim
  obtain⟨h1,k1,kv,k2⟩:=key _ hc;exact⟨_,h1,k1,kv,fun C' cU=>by simp only[cp];exact k2 _ cU⟩
 |makeMap t r=>
  simp only[cp]at hc;split at hc
  ·rename_i x h' p hx
   refine⟨x,h',hc.2,?_,fun C' cU=>by simp only[cp,hx];exact⟨hc.1,cU⟩⟩;unfold nL at hx;cases r with
   |none=>
    simp only at hx;split at hx
    ·cases hx;exact ga.app rfl
    ·cases hx
   |some r=>cases hx
  ·exact hc.elim
 |mapUpdate t a b c=>
  simp only[cp]at hc;split at hc
  ·rename_i x h' p hx
   refine⟨x,h',hc.2,?_,fun C' cU=>by simp only[cp,hx];exact⟨hc.1,cU⟩⟩;unfold nL at hx;simp only at hx;split at hx
   ·split at hx
    ·split at hx
     ·next hn=>
      obtain⟨hb,he⟩:=k9 hx;cases he
      exact ga.set hn rfl
     ·cases hx
    ·cases hx
   ·cases hx
  ·exact hc.elim
 |call c=>
  simp only[cg]at hk;cases dM:c.callee with
  |value f=>cases kO:n6 f<;>simp [dM,kO]at hk
  |invoke=>simp [dM]at hk
  |builtin b=>cases b<;>simp [dM]at hk
 |_=>simp [cg]at hk
theorem Q9{n:Nat}{e:TypeId}{k l e' k' l':Nat}(hn:h[n]?=some (.front e' k' l')):gm h (h.set n (.front e k l))∧gm (h.set n (.front e k l)) h:=by
 refine⟨fun m cs hm hc=> ?_,fun m cs hm hc=> ?_⟩
 ·have:n≠m:=fun e=>by subst e;rw[hn]at hm;cases hm;cases hc
  rw[akN this];exact hm
 ·by_cases e:n=m
  ·subst e;rw[akI (akf.1 hn).1]at hm;cases hm;cases hc
  ·rw[akN e]at hm;exact hm
theorem HY{e:TypeId}{k l:Nat}:gm h (h++[.front e k l])∧gm (h++[.front e k l]) h:=by
 refine⟨gm.app _ _,fun m cs hm hc=> ?_⟩;by_cases hl:m<h.length
 ·rw[akp hl]at hm;exact hm
 ·rw[akv (by omega)]at hm;by_cases h0:m-h.length=0
  ·rw[h0]at hm;cases hm;cases hc
  ·rw[akL (by simp;omega)]at hm;cases hm
theorem acR(hk:cg o=5)(hc:cp P o ρ h C):∃x h1,C x h1∧(gm h h1∧gm h1 h∧ga h h1)∧∀C':AV→ak3 aq→Prop,C' x h1→cp P o ρ h C':=by
 obtain⟨dst,op,type,pos,after,guard⟩:=o;cases op with
 |call c=>
  simp only[cg]at hk;cases dM:c.callee with
  |value f=>cases kO:n6 f<;>simp [dM,kO]at hk
  |invoke=>simp [dM]at hk
  |builtin b=>
   cases b with
   |append=>
    simp only[cp,dM]at hc;split at hc
    ·rename_i x y T U e1 e2
     rw[bO]at hc;have acb:∀(k:Nat)(y:AV)(F:ak3 (ak3 D)→Prop),ug h k y F→∃ys,F ys∧∀F':ak3 (ak3 D)→Prop,F' ys→ug h k y F':=fun k y F hF=>by
       unfold ug at hF ⊢;split at hF
       ·split at hF
        ·split at hF
         ·rw[bO]at hF;exact⟨_,hF.2,fun F' jB=>bO.2 ⟨hF.1,jB⟩⟩
         ·exact hF.elim
        ·exact hF.elim
       ·split at hF
        ·exact⟨_,hF.2,fun F' jB=>⟨hF.1,jB⟩⟩
        ·exact hF.elim
     have key:∀F:AV→ak3 aq→Prop,sX P T h (ρ x) (ρ y) F→∃v h1,F v h1∧(gm h h1∧gm h1 h∧ga h h1)∧∀F':AV→ak3 aq→Prop,F' v h1→sX P T h (ρ x) (ρ y) F':=fun F hF=>by
      unfold sX at hF ⊢;split at hF
      ·split at hF
       ·rw[bO]at hF;obtain⟨h0,hF⟩:=hF;obtain⟨ys,hF,hs⟩:=acb _ _ _ hF;split at hF
        ·split at hF
         ·rename_i hn
          rw[bO]at hF;obtain⟨g1,g2,g3,g4,g5,g6⟩:=hF;exact⟨_,_,g6,⟨(Q9 hn).1,(Q9 hn).2,ga.set hn rfl⟩,fun F' jB=>bO.2 ⟨h0,hs _ (bO.2 ⟨g1,g2,g3,g4,g5,jB⟩)⟩⟩
         ·exact hF.elim
        ·obtain⟨g4,g5,g6⟩:=hF;exact⟨_,_,g6,⟨HY.1,HY.2,ga.app rfl⟩,fun F' jB=>bO.2 ⟨h0,hs _ ⟨g4,g5,jB⟩⟩⟩
        ·obtain⟨g3,g4,g5,g6⟩:=hF;exact⟨_,_,g6,⟨HY.1,HY.2,ga.app rfl⟩,fun F' jB=>bO.2 ⟨h0,hs _ ⟨g3,g4,g5,jB⟩⟩⟩
        ·exact hF.elim
       ·exact hF.elim
      ·exact hF.elim
     obtain⟨v,h1,k1,c1,k2⟩:=key _ hc.2;exact⟨v,h1,k1,c1,fun C' cU=>by simp only[cp,dM,e1,e2];rw[bO];exact⟨hc.1,k2 _ cU⟩⟩
    ·exact hc.elim
   |_=>simp [dM]at hk
 |_=>simp [cg]at hk
theorem Q0{m:Bool}(gi:na m o=false){s:St}{K:St→Prop}(hd:yn P o K s):∃x h1,dI m P o (ev s) s.h x h1∧K ((s.wh h1).put o.dst x):=by
 have km:lN m o=cg o:=by unfold lN;rw[gi];rfl
 have plain:oY P o K s→cg o≠4→cg o≠6→∃x h1,dI m P o (ev s) s.h x h1∧K ((s.wh h1).put o.dst x):=fun ha P2 DU=>by
  unfold oY at ha;by_cases h0:cg o=0
  ·obtain⟨x,h1,h2⟩:=afB h0 ha;exact⟨x,s.h,by unfold dI;rw[km,h0];exact⟨rfl,fun h' _ C' cU=> .inl (h2 h' C' cU)⟩,h1⟩
  ·by_cases h1:cg o=1
   ·obtain⟨dst,op,type,pos,after,guard⟩:=o;cases op with
    |load t a=>
     simp only[cp]at ha;obtain⟨x,k1,k2⟩:=Z1 ha;exact⟨x,s.h,by unfold dI;rw[km,h1];exact⟨rfl,fun h' hh C' cU=> .inl (by simp only[cp];exact k2 h' hh _ cU)⟩,k1⟩
    |lookup t a b ok=>
     simp only[cp]at ha;split at ha
     ·rename_i x h' p hx
      obtain⟨rfl,k2⟩:=ai8 hx;exact⟨x,s.h,by unfold dI;rw[km,h1];exact⟨rfl,fun h' hh C' cU=> .inl (by simp only[cp,k2 h' hh];exact⟨ha.1,cU⟩)⟩,ha.2⟩
     ·exact ha.elim
    |call c=>
     simp only[cg]at h1;cases dM:c.callee with
     |value f=>cases kO:n6 f<;>simp [dM,kO]at h1
     |invoke=>simp [dM]at h1
     |builtin b=>cases b<;>simp [dM]at h1
    |_=>simp [cg]at h1
   ·by_cases h2:cg o=2
    ·obtain⟨B,kB,k1,k2⟩:=agf h2 ha;exact⟨_,_,by unfold dI;rw[km,h2];exact⟨B,kB,rfl,rfl,fun h' C' cU=> .inl (k2 h' C' cU)⟩,k1⟩
    ·by_cases h3:cg o=3
     ·obtain⟨x,np,k1,kv,k2⟩:=agw h3 ha;exact⟨x,np,by unfold dI;rw[km,h3];exact⟨kv,fun C' cU=> .inl (k2 C' cU)⟩,k1⟩
     ·by_cases h5:cg o=5
      ·obtain⟨x,np,k1,c1,k2⟩:=acR h5 ha;exact⟨x,np,by unfold dI;rw[km,h5];exact⟨c1,fun C' cU=> .inl (k2 C' cU)⟩,k1⟩
      exfalso;obtain⟨dst,op,type,pos,after,guard⟩:=o;cases op with
      |call c=>
       simp only[cg]at h0 h3 P2 DU h5;simp only[cp]at ha;cases dM:c.callee with
       |value f=>cases kO:n6 f<;>simp [dM,kO]at P2 DU
       |invoke=>simp only[dM]at ha
       |builtin b=>cases b<;>simp only[dM]at ha h0 h3 h5<;>first|exact ha|exact absurd rfl h0|exact absurd rfl h3|exact absurd rfl h5|exact h3 trivial|exact h0 trivial|exact h5 trivial
      |_=>first|exact absurd rfl h0|exact absurd rfl h1|exact absurd rfl h2|exact absurd rfl h3|exact ha
 unfold yn at hd;split at hd
 ·rename_i c fm
  split at hd
  ·rename_i f dM
   have fin:∀x:AV,(∀e,∀C':AV→ak3 aq→Prop,C' x (s.h++e)→cp P o (ev s) (s.h++e) C')→dI m P o (ev s) s.h x s.h:=fun x hx=>by
    have hk:cg o=4∨cg o=6:=by
     unfold cg;simp only[fm,dM];cases n6 f<;>simp
    unfold dI;rw[km];rcases hk with hk|hk
    ·rw[hk];exact⟨rfl,fun e C' cU=> .inl (hx e C' cU)⟩
    ·rw[hk];refine⟨[],(akA _).symm,fun C' cU=> .inl ?_⟩;have:=hx [] C' (by rw[akA];exact cU)
     rwa [akA]at this
   split at hd
   ·rename_i g cY hg
    obtain⟨x,hK,jd⟩:=hd;refine⟨x,s.h,fin x fun e C' cU=> ?_,hK⟩;unfold cp;simp only[fm,dM,hg];exact(jd e).mono fun r' h' ⟨e1,e2⟩=>by subst e1;subst e2;exact cU
   ·rename_i q hg
    obtain⟨g,cs,rfl,x,hK,jd⟩:=hd;refine⟨x,s.h,fin x fun e C' cU=> ?_,hK⟩;unfold cp;simp only[fm,dM,hg];exact⟨g,cs,rfl,(jd e).mono fun r' h' ⟨e1,e2⟩=>by subst e1;subst e2;exact cU⟩
   ·exact hd.elim
  ·rename_i dM
   exact plain hd (by
    unfold cg;simp only[fm];cases hc:c.callee with
    |value f=>exact absurd hc (dM f)
    |invoke=>simp
    |builtin b=>cases b<;>simp) (by
    unfold cg;simp only[fm];cases hc:c.callee with
    |value f=>exact absurd hc (dM f)
    |invoke=>simp
    |builtin b=>cases b<;>simp)
 ·rename_i fm
  exact plain hd (by
   unfold cg;split<;>first|(rename_i c hc;exact(fm c hc).elim)|simp) (by
   unfold cg;split<;>first|(rename_i c hc;exact(fm c hc).elim)|simp)
theorem Xr{m:Bool}{h1:ak3 aq}{x:AV}(h0:dI m P o ρ h x h1):∀C:AV→ak3 aq→Prop,C x h1→gU P o ρ h C:=fun C hC=>by
 unfold dI at h0;split at h0
 ·obtain⟨e,h0⟩:=h0;subst e;exact h0 _ (gq.refl _) _ hC
 ·obtain⟨e,h0⟩:=h0;subst e;exact h0 _ (gm.refl _) _ hC
 ·obtain⟨B,_,rfl,rfl,h0⟩:=h0;exact h0 _ _ hC
 ·exact h0.2 _ hC
 ·obtain⟨e,h0⟩:=h0;subst e;have:=h0 [] C (by rw[akA];exact hC)
  rwa [akA]at this
 ·exact h0.2 _ hC
 ·obtain⟨e0,_,h0⟩:=h0;exact h0 _ hC
 ·exact h0 _ hC
 ·exact h0.elim
theorem MZ{m:Bool}{s:St}{K:St→Prop}(hd:yI m P o K s):∃x h1,dI m P o (ev s) s.h x h1∧K ((s.wh h1).put o.dst x):=by
 cases gi:na m o with
 |true=>
  have k7:lN m o=7:=by unfold lN;rw[gi];rfl
  rcases hd with hd|⟨_,x,h1,hK,hc⟩|⟨hv,_⟩|⟨_,x,e0,hK,hc⟩
  ·obtain⟨x,h1,h2,hK⟩:=Q0 (m:=false) rfl hd;refine⟨x,h1,?_,hK⟩;have:=Xr h2;unfold dI;rw[k7];exact this
  ·exact⟨x,h1,by unfold dI;rw[k7];exact fun C hC=> .inl (hc C hC),hK⟩
  ·exfalso;unfold na at gi;rw[akh]at gi;unfold iD at hv;have gi:=gi.2;split at gi
   ·next c e=>
    rw[e]at hv;split at gi
    ·next f e2=>simp only[e2]at hv;cases hv
    ·cases gi
   ·cases gi
  ·exact⟨x,_,by unfold dI;rw[k7];exact fun C hC=> .inl (hc C hC),hK⟩
 |false=>
 have km:lN m o=cg o:=by unfold lN;rw[gi];rfl
 rcases hd with hd|⟨hb,_⟩|⟨hv,a,x,h',p,hx,hp,hK⟩|⟨hk,x,e0,hK,hc⟩
 ·exact Q0 gi hd
 ·rw[gi]at hb;cases hb
 ·have hk:cg o=0∨cg o=1∨cg o=3:=by
   unfold iD at hv;unfold cg;split at hv
   all_goals first|(next e=>simp only[e];simp)|skip
   ·next c e=>
    split at hv
    ·next e2=>simp only[e,e2];simp
    ·cases hv
   ·cases hv
  rcases hk with hk|hk|hk
  ·obtain⟨rfl,h2⟩:=afX hv hk hx hp;refine⟨x,_,?_,hK⟩;unfold dI;rw[km,hk];exact⟨rfl,fun h' hh C hC=> .inr ⟨hv,a,x,h',by obtain⟨p',q1,q2⟩:=h2 h' hh;exact⟨p',q1,q2,hC⟩⟩⟩
  ·obtain⟨rfl,h2⟩:=afc hv hk hx hp;refine⟨x,_,?_,hK⟩;unfold dI;rw[km,hk];exact⟨rfl,fun h' hh C hC=> .inr ⟨hv,a,x,h',by obtain⟨p',q1,q2⟩:=h2 h' hh;exact⟨p',q1,q2,hC⟩⟩⟩
  ·refine⟨x,h',?_,hK⟩;unfold dI;rw[km,hk];exact⟨ai9 hv hk hx hp,fun C hC=> .inr ⟨hv,a,x,h',p,hx,hp,hC⟩⟩
 ·refine⟨x,_,?_,hK⟩;unfold dI;rw[km,hk];exact⟨e0,rfl,fun C hC=> .inl (hc C hC)⟩
end
structure gQ(s s':St):Prop where
 n:s.n=s'.n
 h:s.h=s'.h
 t:∀i,bB s.t i=bB s'.t i
theorem gQ.refl(s:St):gQ s s:=⟨rfl,rfl,fun _=>rfl⟩
theorem gQ.symm{s s':St}(h:gQ s s'):gQ s' s:=⟨h.n.symm,h.h.symm,fun i=>(h.t i).symm⟩
theorem gQ.trans{a b c:St}(h:gQ a b)(k:gQ b c):gQ a c:=⟨h.n.trans k.n,h.h.trans k.h,fun i=>(h.t i).trans (k.t i)⟩
theorem rY(s:St)(d:ak5 Nat)(x:AV)(i:Nat):bB (s.put d x).t i=if d=some i∧i<s.n then x else bB s.t i:=by
 cases d with
 |none=>simp [St.put]
 |some k=>
  by_cases hk:k<s.n
  ·rw[tT hk,kN];by_cases hi:i=k
   ·subst hi;simp [hk]
   ·rw[if_neg hi,if_neg (by simp;intro e;exact absurd e.symm hi)]
  ·rw[CB hk];rw[if_neg (by rintro⟨e,a7⟩;cases e;exact hk a7)]
theorem oU(s:St)(d:ak5 Nat)(x:AV):(s.put d x).n=s.n:=by
 cases d with
 |none=>rfl
 |some k=>
  by_cases hk:k<s.n
  ·rw[tT hk]
  ·rw[CB hk]
theorem Du(s:St)(d:ak5 Nat)(x:AV):(s.put d x).h=s.h:=by
 cases d with
 |none=>rfl
 |some k=>
  by_cases hk:k<s.n
  ·rw[tT hk]
  ·rw[CB hk]
theorem gQ.put{s s':St}(h:gQ s s')(h1:ak3 aq)(d:ak5 Nat)(x:AV):gQ ((s.wh h1).put d x) ((s'.wh h1).put d x):=
 ⟨by rw[oU,oU];exact h.n,by rw[Du,Du];rfl,fun i=>by
  rw[rY,rY];show(if d=some i∧i<s.n then x else bB s.t i)=(if d=some i∧i<s'.n then x else bB s'.t i);rw[h.n,h.t]⟩
theorem Y7(s:St)(h1 np h2:ak3 aq){d d':ak5 Nat}(x x':AV)(cu:∀k,d=some k→d'≠some k):gQ ((((s.wh h1).put d x).wh h2).put d' x') ((((s.wh np).put d' x').wh h2).put d x):=by
 refine⟨by simp only[oU];show((s.wh h1).put d x).n=((s.wh np).put d' x').n;simp only[oU];rfl,by simp only[Du];rfl,fun i=> ?_⟩;rw[rY,rY];show(if d'=some i∧i<((s.wh h1).put d x).n then x' else bB ((s.wh h1).put d x).t i)=(if d=some i∧i<((s.wh np).put d' x').n then x else bB ((s.wh np).put d' x').t i);rw[oU,oU,rY,rY];show(if d'=some i∧i<s.n then x' else(if d=some i∧i<s.n then x else bB s.t i))=(if d=some i∧i<s.n then x else(if d'=some i∧i<s.n then x' else bB s.t i));by_cases a:d=some i
 ·have:=cu i a;simp [a,this]
 ·simp [a]
section
variable {P:ak6} {ops:Array Oper}
def lV(m:Bool)(P:ak6)(ops:Array Oper)(o:Oper)(s:St)(x:AV)(h1:ak3 aq):Prop:=
 (gW ops o s True False∧dI m P o (ev s) s.h x h1)∨(gW ops o s False True∧x= .d (.v undef)∧h1=s.h)
theorem KU{o:Oper}{s:St}{yes no:Prop}(h:gW ops o s yes no):(gW ops o s True False∧yes)∨(gW ops o s False True∧no):=by
 unfold gW at h ⊢;split at h
 ·exact .inl ⟨trivial,h⟩
 ·rename_i j want hg
  split at h
  ·rename_i d hd
   split at h
   ·rename_i b hb
    by_cases uW:b=want
    ·exact .inl ⟨⟨fun _=>trivial,fun e=>by subst uW;cases b<;>cases e⟩,h.1 uW⟩
    ·have Z5:b= !want:=by cases b<;>cases want<;>simp_all
     exact .inr ⟨⟨fun e=>(uW e).elim,fun _=>trivial⟩,h.2 Z5⟩
   ·exact .inr ⟨trivial,h⟩
   ·exact h.elim
  ·exact h.elim
theorem Br{o:Oper}{s s':St}{yes no:Prop}(ht:∀d,d∈o.looksAt ops→bB s'.t d=bB s.t d)(h:gW ops o s yes no):gW ops o s' yes no:=by
 unfold gW at h ⊢;split at h
 ·exact h
 ·rename_i j want hg
  split at h
  ·rename_i d hd
   have:bB s'.t d=bB s.t d:=ht d (by unfold Oper.looksAt;rw[hg];simp [hd]);rw[this];exact h
  ·exact h.elim
theorem KK{m:Bool}{o:Oper}{s s':St}{x:AV}{h1:ak3 aq}(ht:∀d,d∈o.looksAt ops→bB s'.t d=bB s.t d)(hh:s'.h=s.h)(h:lV m P ops o s x h1):lV m P ops o s' x h1:=by
 have cV:∀y∈o.op.operands,ev s y=ev s' y:=fun y hy=>by
  cases y with
  |tmp t=>exact(ht t (by unfold Oper.looksAt;refine akR.2 (.inl (List.mem_filterMap.2 ⟨.tmp t,Array.mem_toList_iff.2 hy,rfl⟩)))).symm
  |_=>rfl
 rcases h with⟨g,hc⟩|⟨g,e1,e2⟩
 ·refine .inl ⟨Br ht g,?_⟩;rw[hh];have tP:∀h C,gU P o (ev s) h C=gU P o (ev s') h C:=fun h C=>Ps cV;unfold dI at hc ⊢;split at hc
  ·exact⟨hc.1,fun h' hh C hC=>tP h' C▸hc.2 h' hh C hC⟩
  ·exact⟨hc.1,fun h' hh C hC=>tP _ C▸hc.2 h' hh C hC⟩
  ·obtain⟨B,kB,a,b,c⟩:=hc;exact⟨B,kB,a,b,fun h' C hC=>tP h' C▸c h' C hC⟩
  ·exact⟨hc.1,fun C hC=>tP _ C▸hc.2 C hC⟩
  ·exact⟨hc.1,fun e C hC=>tP _ C▸hc.2 e C hC⟩
  ·exact⟨hc.1,fun C hC=>tP _ C▸hc.2 C hC⟩
  ·obtain⟨e0,a,b⟩:=hc;exact⟨e0,a,fun C hC=>tP _ C▸b C hC⟩
  ·exact fun C hC=>tP _ C▸hc C hC
  ·exact hc.elim
 ·exact .inr ⟨Br ht g,e1,e2.trans hh.symm⟩
theorem P6{o:Oper}(h:cg o=7):False:=by
 unfold cg at h
 repeat' (first|(split at h)|cases h)
 all_goals (cases hg:n6 _<;>rw[hg]at h<;>cases h)
theorem abP{m:Bool}{o:Oper}{ρ:Operand→AV}{h h1:ak3 aq}{x:AV}(h7:na m o=false)(h0:dI m P o ρ h x h1):gq h h1:=by
 unfold dI at h0;unfold lN at h0;rw[h7]at h0;simp only[cond_false]at h0;split at h0
 ·rw[h0.1];exact gq.refl _
 ·rw[h0.1];exact gq.refl _
 ·obtain⟨B,kB,_,e,_⟩:=h0;rw[e];exact(ga.app kB).i
 ·exact h0.1.i
 ·rw[h0.1];exact gq.refl _
 ·exact h0.1.2.2.i
 ·obtain⟨e0,e,_⟩:=h0;rw[e];exact gq.app _ _
 ·next e=>exact(P6 e).elim
 ·exact h0.elim
theorem Yp{m:Bool}{o:Oper}{ρ:Operand→AV}{h h1:ak3 aq}{x:AV}(h7:na m o=false)(hk:cg o≠6)(h0:dI m P o ρ h x h1):gq h1 h:=by
 unfold dI at h0;unfold lN at h0;rw[h7]at h0;simp only[cond_false]at h0;split at h0
 ·rw[h0.1];exact gq.refl _
 ·rw[h0.1];exact gq.refl _
 ·obtain⟨B,kB,_,e,_⟩:=h0;rw[e];exact(ga.app kB).j
 ·exact h0.1.j
 ·rw[h0.1];exact gq.refl _
 ·exact h0.1.2.2.j
 ·next e=>exact(hk e).elim
 ·next e=>exact(P6 e).elim
 ·exact h0.elim
def yD(m:Bool)(a b:Oper):Bool:= !na m a&& !na m b&&(cg a==0||(cg b==0&& !(cg a==6))||((cg a==1||cg a==4)&&(cg b==1||cg b==4||cg b==2||cg b==6))||(cg a==1&&cg b==5)||(cg a==5&&cg b==1))
theorem swap{m:Bool}{oi oj:Oper}{s:St}{xi xj:AV}{hi hj:ak3 aq}(Je:oi.apart ops oj=true)(ky:yD m oi oj=true)(h1:lV m P ops oi s xi hi)(h2:lV m P ops oj ((s.wh hi).put oi.dst xi) xj hj):
 ∃hX,lV m P ops oj s xj hX∧lV m P ops oi ((s.wh hX).put oj.dst xj) xi hj:=by
 obtain⟨a1,a2,a3⟩:=Oper.apart_spec Je;unfold yD at ky;rw[akh,akh,Bool.not_eq_true',Bool.not_eq_true']at ky;obtain⟨⟨li,lj⟩,ky⟩:=ky;have nS:lN m oi=cg oi:=by unfold lN;rw[li];rfl
 have qg:lN m oj=cg oj:=by unfold lN;rw[lj];rfl
 have tj:∀d,d∈oj.looksAt ops→bB s.t d=bB ((s.wh hi).put oi.dst xi).t d:=fun d hd=>by
  rw[rY,if_neg (fun e=>a1 d e.1 hd)];rfl
 have ti:∀(h':ak3 aq) d,d∈oi.looksAt ops→bB ((s.wh h').put oj.dst xj).t d=bB s.t d:=fun h' d hd=>by
  rw[rY,if_neg (fun e=>a3 d e.1 hd)];rfl
 have dO:((s.wh hi).put oi.dst xi).h=hi:=by rw[Du];rfl
 have qx:∀h',((s.wh h').put oj.dst xj).h=h':=fun h'=>by rw[Du];rfl
 have same:hi=s.h→lV m P ops oj s xj hj:=fun e=>KK tj (by rw[dO,e]) h2;have evi:∀h',∀y∈oi.op.operands,ev ((s.wh h').put oj.dst xj) y=ev s y:=fun h' y hy=>by
  cases y with
  |tmp t=>exact ti h' t (by unfold Oper.looksAt;refine akR.2 (.inl (List.mem_filterMap.2 ⟨.tmp t,Array.mem_toList_iff.2 hy,rfl⟩)))
  |_=>rfl
 have evj:∀y∈oj.op.operands,ev ((s.wh hi).put oi.dst xi) y=ev s y:=fun y hy=>by
  cases y with
  |tmp t=>exact(tj t (by unfold Oper.looksAt;refine akR.2 (.inl (List.mem_filterMap.2 ⟨.tmp t,Array.mem_toList_iff.2 hy,rfl⟩)))).symm
  |_=>rfl
 have ci:∀h' h C,gU P oi (ev ((s.wh h').put oj.dst xj)) h C=gU P oi (ev s) h C:=fun h' h C=>Ps (evi h');have cj:∀h C,gU P oj (ev ((s.wh hi).put oi.dst xi)) h C=gU P oj (ev s) h C:=fun h C=>Ps evj;rcases h1 with⟨g1,o1⟩|⟨g1,e1,e2⟩
 ·rcases h2 with⟨g2,o2⟩|⟨g2,f1,f2⟩
  ·
   have FO:∀h',gW ops oi ((s.wh h').put oj.dst xj) True False:=fun h'=>Br (ti h') g1;have Wy:gW ops oj s True False:=Br tj g2;by_cases k0:cg oi=0
   ·unfold dI at o1;rw[nS,k0]at o1;simp only at o1;obtain⟨e,o1⟩:=o1;refine⟨hj,same e, .inl ⟨FO hj,?_⟩⟩;unfold dI;rw[nS,k0];have hv:gq s.h hj:=by
     have:=abP lj o2;rw[dO,e]at this;exact this
    exact⟨(qx hj).symm,fun h' hh C hC=>by rw[qx]at hh;rw[ci];exact o1 h' (hv.trans hh) C hC⟩
   ·by_cases k1:cg oj=0
    ·unfold dI at o2;rw[qg,k1]at o2;simp only at o2;obtain⟨e,o2⟩:=o2;rw[dO]at e o2;have k6:cg oi≠6:=fun k6=>by
      simp [k6,k1]at ky
     have hv:=Yp li k6 o1;refine⟨s.h, .inl ⟨Wy,?_⟩, .inl ⟨FO s.h,?_⟩⟩
     ·unfold dI;rw[qg,k1];exact⟨rfl,fun h' hh C hC=>by rw[←cj];exact o2 h' (hv.trans hh) C hC⟩
     ·rw[e];unfold dI at o1 ⊢;rw[qx];simp only[ci];exact o1
    ·by_cases XE:cg oi=1∧cg oj=5
     ·obtain⟨ka,kb⟩:=XE;unfold dI at o1 o2;rw[nS,ka]at o1;rw[qg,kb]at o2;simp only at o1 o2;obtain⟨e,o1⟩:=o1;obtain⟨⟨c1,c2,_⟩,o2⟩:=o2;rw[dO,e]at c1 c2;refine⟨hj,same e, .inl ⟨FO hj,?_⟩⟩;unfold dI;rw[nS,ka];simp only;refine⟨(qx hj).symm,fun h' hh C hC=> ?_⟩;rw[qx]at hh;rw[ci];exact o1 h' (fun n cs hn hq=>hh n cs (c1 n cs hn hq) hq) C hC
     by_cases Xl:cg oi=5∧cg oj=1
     ·obtain⟨ka,kb⟩:=Xl;unfold dI at o1 o2;rw[nS,ka]at o1;rw[qg,kb]at o2;simp only at o1 o2;obtain⟨⟨c1,c2,c3⟩,o1⟩:=o1;obtain⟨e,o2⟩:=o2;rw[dO]at e o2;refine⟨s.h, .inl ⟨Wy,?_⟩, .inl ⟨FO s.h,?_⟩⟩
      ·unfold dI;rw[qg,kb];simp only;exact⟨trivial,fun h' hh C hC=>by rw[←cj];exact o2 h' (fun n cs hn hq=>hh n cs (c2 n cs hn hq) hq) C hC⟩
      ·rw[e];unfold dI;rw[nS,ka];simp only;rw[qx];exact⟨⟨c1,c2,c3⟩,fun C hC=>by rw[ci];exact o1 C hC⟩
     have hc:(cg oi=1∨cg oi=4)∧(cg oj=1∨cg oj=4∨cg oj=2∨cg oj=6):=by
      simp only[Bool.or_eq_true,akh,beq_iff_eq,k0,k1,false_or,false_and]at ky;rcases ky with(ky|ky)|ky
      ·refine⟨ky.1,?_⟩;rcases ky.2 with((h|h)|h)|h
       ·exact .inl h
       ·exact .inr (.inl h)
       ·exact .inr (.inr (.inl h))
       ·exact .inr (.inr (.inr h))
      ·exact absurd ky XE
      ·exact absurd ky Xl
     have q1:hi=s.h∧∀e(C:AV→ak3 aq→Prop),C xi (s.h++e)→gU P oi (ev s) (s.h++e) C:=by
      unfold dI at o1;rcases hc.1 with k|k
      ·rw[nS,k]at o1;exact⟨o1.1,fun e C hC=>o1.2 _ (gm.app _ _) C hC⟩
      ·rw[nS,k]at o1;exact o1
     have q2:∃e0,hj=s.h++e0:=by
      have qB:=o2;unfold dI at qB;rcases hc.2 with k|k|k|k
      ·rw[qg,k]at qB;exact⟨[],by rw[qB.1,dO,q1.1,akA]⟩
      ·rw[qg,k]at qB;exact⟨[],by rw[qB.1,dO,q1.1,akA]⟩
      ·rw[qg,k]at qB;obtain⟨B,_,_,b,_⟩:=qB;exact⟨[B],by rw[b,dO,q1.1]⟩
      ·rw[qg,k]at qB;obtain⟨e0,b,_⟩:=qB;exact⟨e0,by rw[b,dO,q1.1]⟩
     obtain⟨e0,EP⟩:=q2;refine⟨hj,same q1.1, .inl ⟨FO hj,?_⟩⟩;have:∀e(C:AV→ak3 aq→Prop),C xi (hj++e)→gU P oi (ev ((s.wh hj).put oj.dst xj)) (hj++e) C:=fun e C hC=>by
      rw[ci,EP,akw];rw[EP,akw]at hC;exact q1.2 _ C hC
     unfold dI;rw[qx];rcases hc.1 with k|k
     ·rw[nS,k];simp only;refine⟨trivial,fun h' hh C hC=> ?_⟩;rw[ci];unfold dI at o1;rw[nS,k]at o1;exact o1.2 h' (fun n cs hn hq=>hh n cs (by rw[EP];exact gm.app _ _ n cs hn hq) hq) C hC
     ·rw[nS,k];exact⟨rfl,this⟩
  ·
   subst f1;rw[dO]at f2;refine⟨s.h, .inr ⟨Br tj g2,rfl,rfl⟩,?_⟩;rw[f2];exact KK (ti s.h) (by rw[qx]) (.inl ⟨g1,o1⟩)
 ·
  subst e1;refine⟨hj,same e2, .inr ⟨Br (ti hj) g1,rfl,(qx hj).symm⟩⟩
def tS(K:St→Prop):Prop:=∀s s',gQ s s'→K s→K s'
def mz(m:Bool)(P:ak6)(ops:Array Oper)(K:St→Prop):Nat→Array Bool→St→Prop
 |0,listed,s=>Region.ready .any ops listed=[]∧K s
 |fuel+1,listed,s=>
  (Region.ready .any ops listed=[]→K s)∧
  ∀i∈Region.ready .any ops listed,∀o,ops[i]?=some o→∃x h1,lV m P ops o s x h1∧mz m P ops K fuel (listed.setIfInBounds i true) ((s.wh h1).put o.dst x)
theorem S3{m:Bool}{K:St→Prop}(hK:tS K):∀(fuel:Nat)(listed:Array Bool)(s s':St),gQ s s'→mz m P ops K fuel listed s→mz m P ops K fuel listed s'
 |0,_,s,s',hs,h=>⟨h.1,hK s s' hs h.2⟩
 |fuel+1,_,s,s',hs,h=>⟨fun h0=>hK s s' hs (h.1 h0),fun i hi o ho=>by
  obtain⟨x,h1,h2,h3⟩:=h.2 i hi o ho;exact⟨x,h1,KK (fun d _=>(hs.t d).symm) hs.h.symm h2,S3 hK fuel _ _ _ (hs.put h1 o.dst x) h3⟩⟩
def rb(M:Array Nat)(ops:Array Oper):Bool:=
 (List.range ops.size).all fun j=>(List.range ops.size).all fun i=> !(M.getD j 0).testBit i||match ops[j]? with
  |some o=>o.after.any fun e=>Region.binds .any e&&decide (e.on<j)&&(e.on==i||(M.getD e.on 0).testBit i)
  |none=>false
def Dn(ops:Array Oper)(listed:Array Bool):Prop:=∀(j:Nat)(o:Oper),ops[j]?=some o→listed.getD j false=true→∀e∈o.after,Region.binds .any e=true→listed.getD e.on false=true
theorem agr{M:Array Nat}(hM:rb M ops=true){listed:Array Bool}(hD:Dn ops listed):∀(j i:Nat)(o:Oper),i<ops.size→ops[j]?=some o→(∀e∈o.after,Region.binds .any e=true→listed.getD e.on false=true)→(M.getD j 0).testBit i=true→listed.getD i false=true:=by
 intro j
 induction j using Nat.strongRecOn with
 |_ j ih=>
  intro i o hi ho hp hb;unfold rb at hM;simp only[akF,List.mem_range]at hM;have h1:=hM j (aku.1 ho).1 i hi;rw[hb,ho]at h1;simp only[Bool.not_true,Bool.false_or]at h1;rw[Array.any_eq_true']at h1;obtain⟨e,he,h2⟩:=h1;simp only[akh,decide_eq_true_eq,Bool.or_eq_true,beq_iff_eq]at h2;obtain⟨⟨JV,a7⟩,h3⟩:=h2;have hl:=hp e he JV;rcases h3 with h3|h3
  ·rw[←h3];exact hl
  ·have JG:e.on<ops.size:=Nat.lt_trans a7 (aku.1 ho).1;exact ih e.on a7 i ops[e.on] hi (akB JG) (hD e.on _ (akB JG) hl) h3
theorem Dn.set{listed:Array Bool}(hD:Dn ops listed){i:Nat}(hr:i∈Region.ready .any ops listed):Dn ops (listed.setIfInBounds i true):=by
 intro j o ho hj e he hb;refine getD_set_true ?_;by_cases pv:i=j
 ·subst pv;obtain⟨_,o',fk,ep⟩:=mem_ready.1 hr;rw[ho]at fk;cases fk;exact ep e he hb
 ·rw[getD_set_ne false pv]at hj;exact hD j o ho hj e he hb
theorem Nj{m:Bool}{K:St→Prop}(hK:tS K){M:Array Nat}(hM:rb M ops=true){i:Nat}{oi:Oper}{x:AV}{h1:ak3 aq}(hi:ops[i]?=some oi):
 ∀(fuel:Nat)(listed:Array Bool)(s:St),Dn ops listed→
  (∀j oj,ops[j]?=some oj→j≠i→listed.getD j true=false→(M.getD j 0).testBit i=false→oi.apart ops oj=true∧yD m oi oj=true)→
  i∈Region.ready .any ops listed→lV m P ops oi s x h1→mz m P ops K fuel (listed.setIfInBounds i true) ((s.wh h1).put oi.dst x)→mz m P ops K (fuel+1) listed s:=by
 intro fuel
 induction fuel generalizing x h1 with
 |zero=>
  intro listed s _ _ hr hy H;refine⟨fun h=>(by rw[h]at hr;cases hr),fun j hj o ho=> ?_⟩;by_cases tU:j=i
  ·subst tU;rw[hi]at ho;cases ho;exact⟨x,h1,hy,H⟩
  ·have:=ready_mono hj tU;rw[H.1]at this;cases this
 |succ fuel ih=>
  intro listed s hD VV hr hy H;refine⟨fun h=>(by rw[h]at hr;cases hr),fun j hj oj zc=> ?_⟩;by_cases tU:j=i
  ·subst tU;rw[hi]at zc;cases zc;exact⟨x,h1,hy,H⟩
  ·obtain⟨xj,hj1,GP,H2⟩:=H.2 j (ready_mono hj tU) oj zc;obtain⟨VZ,oj',V8,ep⟩:=mem_ready.1 hj;rw[zc]at V8;cases V8;have nJ:=(aku.1 hi).1;have q8:listed.getD i false=false:=by
    have h0:=(mem_ready.1 hr).1;rcases Nat.lt_or_ge i listed.size with h'|h'
    ·simpa [h']using h0
    ·simp [Array.getElem?_eq_none h']at h0
   have jy:(M.getD j 0).testBit i=false:=by
    cases hb:(M.getD j 0).testBit i with
    |false=>rfl
    |true=>rw[agr hM hD j i oj nJ zc ep hb]at q8;cases q8
   obtain⟨Je,ky⟩:=VV j oj zc tU VZ jy;obtain⟨hX,s1,s2⟩:=swap Je ky hy GP;obtain⟨_,a2,_⟩:=Oper.apart_spec Je;refine⟨xj,hX,s1,ih (listed.setIfInBounds j true) _ (hD.set hj) (fun k ok hk Np WW uT=> ?_) (ready_mono hr (Ne.symm tU)) s2 ?_⟩
   ·refine VV k ok hk Np ?_ uT;by_cases G7:j=k
    ·subst G7;exact VZ
    ·rw[getD_set_ne true G7]at WW;exact WW
   ·rw[Array.setIfInBounds_comm _ _ tU];exact S3 hK _ _ _ _ (Y7 s h1 hX hj1 x xj (fun k hk=>a2 k hk)) H2
def Q6(M:Array Nat)(ops:Array Oper)(k:Nat):Bool:=
 match ops[k]? with
 |none=>false
 |some oi=>(List.range ops.size).all fun j=>decide (j≤k)||(M.getD j 0).testBit k||match ops[j]? with
  |some oj=>oi.apart ops oj&&yD false oi oj
  |none=>true
def BL(M:Array Nat)(ops:Array Oper):Nat→Nat→Array Bool→Bool
 |0,_,listed=>(Region.ready .any ops listed).isEmpty
 |fuel+1,k,listed=>(Region.ready .any ops listed).contains k&&Q6 M ops k&&BL M ops fuel (k+1) (listed.setIfInBounds k true)
def rB(ops:Array Oper):Bool:=rb (Region.before ops) ops&&BL (Region.before ops) ops ops.size 0 (Array.replicate ops.size false)
theorem S2{K K':St→Prop}(hK:tS K')(E8:∀s,K s→K' s){M:Array Nat}(hM:rb M ops=true):∀(l:ak3 Oper)(k:Nat)(listed:Array Bool)(s:St),(∀j,l[j]?=ops[k+j]?)→(∀j,j<k→listed.getD j true=true)→Dn ops listed→
 BL M ops l.length k listed=true→Ez P ops l K s→mz false P ops K' l.length listed s
 |[],_,_,_,_,_,_,hB,h=>⟨by simpa [BL]using hB,E8 _ h⟩
 |o::l,k,listed,s,hl,nP,hD,hB,h=>by
  have h0:ops[k]?=some o:=by simpa using (hl 0).symm
  simp only[aki,BL,akh]at hB;obtain⟨⟨hr,hf⟩,dD⟩:=hB;have ng:k∈Region.ready .any ops listed:=by simpa using hr
  have zS:∀j,l[j]?=ops[k+1+j]?:=fun j=>by have:=hl (j+1);simpa [Nat.add_assoc,Nat.add_comm 1 j]using this
  have ad1:∀j,j<k+1→(listed.setIfInBounds k true).getD j true=true:=fun j hj=>by
   by_cases e:k=j
   ·subst e;rcases Nat.lt_or_ge k listed.size with h'|h'
    ·simp [h']
    ·have:(listed.setIfInBounds k true)[k]?=none:=Array.getElem?_eq_none (by simpa using h');rw[Array.getD_eq_getD_getElem?,this];rfl
   ·rw[getD_set_ne true e];exact nP j (by omega)
  obtain⟨x,h1,hy,AX⟩:∃x h1,lV false P ops o s x h1∧Ez P ops l K ((s.wh h1).put o.dst x):=by
   rcases KU h with⟨g,hd⟩|⟨g,hd⟩
   ·obtain⟨x,h1,h2,h3⟩:=MZ hd;exact⟨x,h1, .inl ⟨g,h2⟩,h3⟩
   ·exact⟨_,s.h, .inr ⟨g,rfl,rfl⟩,hd⟩
  refine Nj hK hM h0 l.length listed s hD (fun j oj hj cu q8 uT=> ?_) ng hy (S2 hK E8 hM l (k+1) _ _ zS ad1 (hD.set ng) dD AX);unfold Q6 at hf;rw[h0]at hf;simp only[akF,List.mem_range]at hf;have:=hf j (aku.1 hj).1;rw[uT,hj]at this;simp only[Bool.or_false,Bool.or_eq_true,akh,decide_eq_true_eq]at this;rcases this with this|this
  ·exfalso;have:=nP j (by omega);rw[this]at q8;cases q8
  ·exact this
def Wp(ops:Array Oper):Nat→Array Bool→ak3 Nat
 |0,_=>[]
 |f+1,listed=>match (Region.ready .any ops listed).find? (fun k=>match ops[k]? with|some o=> !(cg o==6)&& !na true o|none=>false)with
  |some k=>k::Wp ops f (listed.setIfInBounds k true)
  |none=>match Region.ready .any ops listed with
   |k::_=>k::Wp ops f (listed.setIfInBounds k true)
   |[]=>[]
def Cf(m:Bool)(M:Array Nat)(ops:Array Oper):ak3 Nat→Array Bool→Bool
 |[],listed=>(Region.ready .any ops listed).isEmpty
 |k::l,listed=>(Region.ready .any ops listed).contains k&&(match ops[k]? with
  |none=>false
  |some oi=>(List.range ops.size).all fun j=>j==k||listed.getD j true||(M.getD j 0).testBit k||match ops[j]? with
   |some oj=>oi.apart ops oj&&yD m oi oj
   |none=>true)&&Cf m M ops l (listed.setIfInBounds k true)
def H8(m:Bool)(ops:Array Oper)(p:ak3 Nat):Bool:=rb (Region.before ops) ops&&Cf m (Region.before ops) ops p (Array.replicate ops.size false)
def rS(ops:Array Oper):ak3 Nat→ak3 Oper
 |[]=>[]
 |k::l=>match ops[k]? with
  |some o=>o::rS ops l
  |none=>rS ops l
theorem Rb{m:Bool}{K K':St→Prop}(hK:tS K')(E8:∀s,K s→K' s){M:Array Nat}(hM:rb M ops=true):∀(l:ak3 Nat)(listed:Array Bool)(s:St),Dn ops listed→
 Cf m M ops l listed=true→uC m P ops (rS ops l) K s→mz m P ops K' l.length listed s
 |[],_,_,_,hB,h=>⟨by simpa [Cf]using hB,E8 _ h⟩
 |k::l,listed,s,hD,hB,h=>by
  simp only[Cf,akh]at hB;obtain⟨⟨hr,hf⟩,dD⟩:=hB;have ng:k∈Region.ready .any ops listed:=by simpa using hr
  obtain⟨_,o,h0,_⟩:=mem_ready.1 ng;rw[h0]at hf;simp only[akF,List.mem_range]at hf;simp only[rS,h0]at h;obtain⟨x,h1,hy,AX⟩:∃x h1,lV m P ops o s x h1∧uC m P ops (rS ops l) K ((s.wh h1).put o.dst x):=by
   rcases KU h with⟨g,hd⟩|⟨g,hd⟩
   ·obtain⟨x,h1,h2,h3⟩:=MZ hd;exact⟨x,h1, .inl ⟨g,h2⟩,h3⟩
   ·exact⟨_,s.h, .inr ⟨g,rfl,rfl⟩,hd⟩
  refine Nj hK hM h0 l.length listed s hD (fun j oj hj cu q8 uT=> ?_) ng hy (Rb hK E8 hM l _ _ (hD.set ng) dD AX);have:=hf j (aku.1 hj).1;rw[uT,q8,hj]at this;simp only[Bool.or_false,Bool.or_eq_true,akh,beq_iff_eq]at this;rcases this with this|this
  ·exact absurd this cu
  ·exact this
end
section
variable {P:ak6} {r:ak5 Nat} {n N0:Nat} {G:Gh} {w:ak8} {a:Act} {s:St} {o:Oper} {Q:Exit→St→Prop}
theorem cx.drew(hs:cx G w a s):bR G.N G w G {w with drawn:=w.drawn+1}∧cx G {w with drawn:=w.drawn+1} a s:=by
 have hE:bR G.N G w G {w with drawn:=w.drawn+1}:=⟨akq _,fun _ _ h=>h,fun _ _ _=>rfl,fun _ _=>rfl,fun _ _=> .inl ⟨rfl,rfl⟩,fZ rfl,fun _ _=>rfl,rfl,rfl,rfl,fun _ _ h=> .inl h⟩;have hi:bW G {w with drawn:=w.drawn+1} s.h:=⟨hs.inv.len,hs.inv.z,hs.inv.S,fun n B hB=>dE.bo (hs.inv.lt hB) hE (akq _) ⟨rfl,rfl,rfl⟩ (fun _ _=>⟨rfl,fun _ h=>h⟩) (hs.inv.cW n B hB),hs.inv.inj,hs.inv.gl.bo hE⟩;exact⟨hE,hs.move hE (akq _) hi⟩
theorem aiI{m:Bool}{x:AV}{h1:ak3 aq}(h:dI m P o (ev s) s.h x h1):gU P o (ev s) s.h (fun x' h'=>(s.wh h').put o.dst x'=(s.wh h1).put o.dst x):=Xr h _ rfl
theorem DQ{m:Bool}{ops:Array Oper}{K:St→Prop}{Q':Exit→Act→ak8→Prop}(hQ:∀a' w',gV N0 G w K a' w'→Q' .normal a' w'):∀(fuel:Nat)(listed:Array Bool)(G1:Gh)(w1:ak8)(a:Act)(s:St),
 bR N0 G w G1 w1→N0≤G1.N→cx G1 w1 a s→mz m P ops K fuel listed s→wpAnyIn (WF r) n P .any ops Q' fuel listed a w1
 |0,_,G1,w1,a,s,hE,hN,hs,h=>⟨h.1,hQ _ _ ⟨G1,s,hE,hN,hs,h.2⟩⟩
 |fuel+1,listed,G1,w1,a,s,hE,hN,hs,h=>by
  refine⟨fun h0=>hQ _ _ ⟨G1,s,hE,hN,hs,h.1 h0⟩,fun i hi=> ?_⟩;obtain⟨_,o,ho,_⟩:=mem_ready.1 hi;obtain⟨x,h1,hy,AX⟩:=h.2 i hi o ho;unfold wpOpIn;rw[ho];simp only;rcases hy with⟨g,hc⟩|⟨g,rfl,rfl⟩
  ·have hg:=OL hs g;split at hg
   ·rename_i hw
    rw[if_pos hw];refine Oper.wpIn_mono (fun a' w' hn=> ?_) ((aiI hc).elim (fun k=>QP (K:=fun s'=>s'=(s.wh h1).put o.dst x) (r:=r) (n:=n) (N0:=N0) (Q:=Q') hs hN k) fun⟨_,va,x',h',p,k1,k2,k3⟩=>U1 (K:=fun s'=>s'=(s.wh h1).put o.dst x) (r:=r) (n:=n) (N0:=N0) (Q:=Q') hs hN ⟨va,x',h',p,k1,k2,k3⟩);obtain⟨G2,s2,e2,n2,vy,rfl⟩:=hn;exact DQ hQ fuel _ G2 w' a' _ (hE.trans e2) n2 vy AX
   ·exact hg.elim
  ·have hg:=OL hs g;split at hg
   ·exact hg.elim
   ·rename_i hw
    rw[if_neg hw];exact⟨fun _ _=>trivial,DQ hQ fuel _ G1 w1 _ _ hE hN (hs.put (.d (.v undef)) o.dst) AX⟩
theorem O2{id:Nat}{l:ak3 Oper}(hm:P.follows .mixedOrders=true)(hl:rB l.toArray=true)(h:Ez P l.toArray l (Q .normal) s):bJ P r N0 (.region id l.toArray true) Q s:=by
 constructor
 intro G w a n hs hN;unfold rB at hl;rw[akh]at hl;obtain⟨d1,d2⟩:=hs.drew;refine wpIn_region_any hm ?_;have hC:tS (fun s=>∃s',gQ s' s∧Q .normal s'):=fun s s' e ⟨s0,e0,h0⟩=>⟨s0,e0.trans e,h0⟩;have:=S2 (K:=Q .normal) hC (fun s h=>⟨s,gQ.refl s,h⟩) hl.1 l 0 (Array.replicate l.toArray.size false) s (by simp) (fun j hj=>absurd hj (akH _)) (fun j o ho hj=>by
  exfalso;rw[Array.getD_eq_getD_getElem?]at hj;rw[Array.getElem?_replicate]at hj;split at hj<;>simp at hj) (by simpa using hl.2) h
 refine DQ (G:=G) (w:=w) (N0:=N0) (K:=fun s=>∃s',gQ s' s∧Q .normal s') (fun a' w' hn=> ?_) l.toArray.size _ G _ a s (d1.less hN) hN d2 (by simpa using this);obtain⟨G',s',x1,x2,x3,s0,e0,x4⟩:=hn;refine⟨G',s0,x1,x2,⟨x3.size.trans e0.n.symm,fun i=>by rw[e0.t i];exact x3.tmp i,by rw[e0.h];exact x3.inv,x3.df⟩,x4⟩
theorem afq{m:Bool}{id:Nat}{ops:Array Oper}(p:ak3 Nat)(hm:P.follows .mixedOrders=true)(hz:p.length=ops.size)(hl:H8 m ops p=true)(h:uC m P ops (rS ops p) (Q .normal) s):bJ P r N0 (.region id ops true) Q s:=by
 constructor
 intro G w a n hs hN;unfold H8 at hl;rw[akh]at hl;obtain⟨d1,d2⟩:=hs.drew;refine wpIn_region_any hm ?_;have hC:tS (fun s=>∃s',gQ s' s∧Q .normal s'):=fun s s' e ⟨s0,e0,h0⟩=>⟨s0,e0.trans e,h0⟩;have:=Rb (K:=Q .normal) hC (fun s h=>⟨s,gQ.refl s,h⟩) hl.1 p (Array.replicate ops.size false) s (fun j o ho hj=>by
  exfalso;rw[Array.getD_eq_getD_getElem?]at hj;rw[Array.getElem?_replicate]at hj;split at hj<;>simp at hj) hl.2 h
 rw[hz]at this;refine DQ (G:=G) (w:=w) (N0:=N0) (K:=fun s=>∃s',gQ s' s∧Q .normal s') (fun a' w' hn=> ?_) ops.size _ G _ a s (d1.less hN) hN d2 this;obtain⟨G',s',x1,x2,x3,s0,e0,x4⟩:=hn;refine⟨G',s0,x1,x2,⟨x3.size.trans e0.n.symm,fun i=>by rw[e0.t i];exact x3.tmp i,by rw[e0.h];exact x3.inv,x3.df⟩,x4⟩
end
def ajW(want:Bool):AV→Bool
 | .d (.v (.bool b))=>b==want
 |_=>false
def gNo(want:Bool):AV→Bool
 | .d (.v (.bool b))=>b== !want
 | .d (.v (.tuple _))=>true
 |_=>false
def abz(t:ak3 (Nat×AV)):ak5 Nat→AV
 |some d=>bB t d
 |none=> .dead
def sN(ops:Array Oper)(j:Nat)(t:ak3 (Nat×AV)):AV:=abz t ((ops[j]?).bind (·.dst))
section
variable {P:ak6} {ops:Array Oper} {dst:ak5 Nat} {op:Op} {ty:TypeId} {pos:String} {after:Array Edge} {j:Nat} {w:Bool} {s:St} {rest:ak3 Oper} {K:St→Prop} {y n:Prop}
theorem Ir:gW ops ⟨dst,op,ty,pos,after,some (j,w)⟩ s y n=(match sN ops j s.t with
 | .d (.v (.bool b))=>(b=w→y)∧(b= !w→n)
 | .d (.v (.tuple _))=>n
 |_=>False):=by
 show(match (ops[j]?).bind (·.dst)with
  |some d=>match bB s.t d with
   | .d (.v (.bool b))=>(b=w→y)∧(b= !w→n)
   | .d (.v (.tuple _))=>n
   |_=>False
  |none=>False)=_
 unfold sN;cases (ops[j]?).bind (·.dst)<;>rfl
end
section
variable {P:ak6} {r:ak5 Nat} {n N0:Nat} {G:Gh} {w:ak8} {a:Act} {s:St} {o:Oper} {Q:Exit→St→Prop}
theorem cA{K:St→Prop}(h:K s):gy K Q .normal s:=h
theorem lF{K:St→Prop}{i:Nat}(h:Q (.exit i) s):gy K Q (.exit i) s:=h
theorem fu{K:St→Prop}(h:Q .ret s):gy K Q .ret s:=h
theorem ln{id:Nat}(h:Q .normal s):po id Q .normal s:=h
theorem gv{id:Nat}(h:Q .ret s):po id Q .ret s:=h
theorem sf{id i:Nat}(e:(i==id)=true)(h:Q .normal s):po id Q (.exit i) s:=by simpa only[po,e,cond_true]using h
theorem ZZ{id i:Nat}(e:(i==id)=false)(h:Q (.exit i) s):po id Q (.exit i) s:=by simpa only[po,e,cond_false]using h
theorem me{c:Operand}{x y:Code}(hc:ev s c= .d (.v (.bool true)))(h:bJ P r N0 x Q s):bJ P r N0 (.cond c x y) Q s:=O5 hc (fun _=>h) fun h=>Bool.noConfusion h
theorem mg{c:Operand}{x y:Code}(hc:ev s c= .d (.v (.bool false)))(h:bJ P r N0 y Q s):bJ P r N0 (.cond c x y) Q s:=O5 hc (fun h=>Bool.noConfusion h) fun _=>h
theorem kp{c:Operand}{x y:Code}{t:Bool}(hc:ev s c= .d (.v (.bool t)))(e:t=true)(h:bJ P r N0 x Q s):bJ P r N0 (.cond c x y) Q s:=me (by rw[hc,e]) h
theorem jZ{c:Operand}{x y:Code}{t:Bool}(hc:ev s c= .d (.v (.bool t)))(e:t=false)(h:bJ P r N0 y Q s):bJ P r N0 (.cond c x y) Q s:=mg (by rw[hc,e]) h
end
theorem aef{G:Gh}{w:ak8}{h:ak3 aq}{b:Nat}{cs b7:ak3 AV}(hi:bW G w h)(hb:h[b]?=some (.cells cs))(hl:b7.length=cs.length)
 (hc:∀(vs:Array ak7)(T:TypeId),w.heap[G.bm b]?=some (.cells vs T (0,0))→∀(i:Nat)(u:ak7)(c:AV),vs[i]?=some u→b7[i]?=some c→aN G w u c):bW G w (h.set b (aq.cells b7)):=by
 have ho:∀n,b6 (h.set b (aq.cells b7)) G n=b6 h G n:=fun n=>by
  have a7:=(akf.1 hb).1;unfold b6;by_cases e:b=n
  ·subst e;rw[akI a7,hb];rfl
  ·rw[akN e]
 refine⟨by rw[List.length_set];exact hi.len,hi.z,hi.S,fun n B hB=> ?_,fun m n x hm hn=>hi.inj m n x (by rw[←ho];exact hm) (by rw[←ho];exact hn),hi.gl⟩;have a7:=(akf.1 hb).1;by_cases e:b=n
 ·subst e;rw[akI a7]at hB;cases hB
  obtain⟨h1,h2,vs,T,h3,h4,_⟩:=hi.cW _ _ hb;exact⟨h1,h2,vs,T,h3,h4.trans hl.symm,hc vs T h3⟩
 ·rw[akN e]at hB;exact hi.cW n B hB
theorem T7{P:ak6}{r:ak5 Nat}{N0:Nat}{s:St}{Q:Exit→St→Prop}{c:Code}(b i:Nat)(e:TypeId)(sz:Nat)(xs:ak3 (ak3 D)){cs:ak3 AV}(hb:s.h[b]?=some (.cells cs))(hx:cs[i]?=some (.full xs)∨(cs[i]?=some (.d (.v (.slice none 0 0)))∧xs=[]))
 (h:bJ P r N0 c Q ⟨s.n,s.t,(s.h++[aq.front e sz xs.length]).set b (aq.cells (cs.set i (AV.own s.h.length xs)))⟩):bJ P r N0 c Q s:=by
 constructor
 intro G w a n hs hN;obtain⟨h1,h2,vs,T,h3,h4,h5⟩:=hs.inv.cW _ _ hb;have hi:i<cs.length:=by rcases hx with hx|⟨hx,_⟩<;>exact(akf.1 hx).1
 have hv:vs[i]?=some vs[i]:=akB (by omega);have hp:dc G.S w vs[i] (.sl xs)∧∃A,vs[i]= .slice A xs.length xs.length:=by
  rcases hx with hx|⟨hx,rfl⟩
  ·have:=h5 i _ _ hv hx;generalize vs[i]=u at this;cases this with|full _ hp hf=>exact⟨hp,hf⟩
  ·have:=h5 i _ _ hv hx;rw[this.val];exact⟨IL,none,rfl⟩
 obtain⟨a1,a2,a3,a4⟩:=Sr hs.inv hp.1 hp.2 e sz;have a7:=(akf.1 hb).1;have ck:cx (G.fY vs[i] xs.length) w a ⟨s.n,s.t,(s.h++[aq.front e sz xs.length]).set b (aq.cells (cs.set i (AV.own s.h.length xs)))⟩:=by
  refine⟨hs.size,fun j=>(hs.tmp j).bo a1 a2,aef a3 (by rw[akp a7];exact hb) (by rw[List.length_set]) fun fh T' GA j u c hu hc=> ?_,hs.df.bo a1⟩;have e1:(G.fY vs[i] xs.length).bm b=G.bm b:=by
   have:b≠G.N:=by have:=hs.inv.len;omega
   simp [Gh.fY]
  rw[e1,h3]at GA;cases GA
  by_cases e2:i=j
  ·subst e2;rw[akI hi]at hc;cases hc
   rw[hv]at hu;cases hu
   exact a4
  ·rw[akN e2]at hc;exact(h5 j u c hu hc).bo a1 a2
 exact wpIn_mono (h.run _ w a n ck (akx hN a2)) fun _ _ _ hn=>hn.trans (a1.less hN)
def AV.Le(x y:AV):Prop:=∀(G:Gh)(w:ak8)(u:ak7),aN G w u x→aN G w u y
theorem AV.Le.refl(x:AV):AV.Le x x:=fun _ _ _ h=>h
theorem AV.Le.full(xs:ak3 (ak3 D)):AV.Le (.full xs) (.d (.sl xs)):=fun _ _ _ h=>by
 cases h with|full _ hp _=>exact .d hp
theorem AV.Le.nil:AV.Le (.d (.v (.slice none 0 0))) (.d (.sl [])):=fun _ _ _ h=>by
 rw[h.val];exact .d IL
theorem AV.Le.agg{cs ds:ak3 AV}(hl:cs.length=ds.length)(h:∀(i:Nat)(c d:AV),cs[i]?=some c→ds[i]?=some d→AV.Le c d):AV.Le (.agg cs) (.agg ds):=fun G w u hu=>by
 cases hu with
 |agg vs _ zS hv=>
  refine .agg vs ds (zS.trans hl) fun i u d hui hd=> ?_;have a7:i<cs.length:=by rw[hl];exact(akf.1 hd).1
  exact h i _ d (akj a7) hd G w u (hv i u _ hui (akj a7))
set_option linter.unusedSimpArgs false
set_option linter.unusedVariables false
def rn:ak3 Nat→Nat→Nat→Nat
 |[],base,i=>base+i
 |j::_,_,0=>j
 |_::l,base,i+1=>rn l base i
theorem Au:∀(l:ak3 Nat)(base i:Nat)(j:Nat),l[i]?=some j→rn l base i=j
 |[],_,i,j,h=>by simp at h
 |a::l,base,0,j,h=>by simpa [rn]using h
 |a::l,base,i+1,j,h=>by rw[rn];exact Au l base i j (by simpa using h)
theorem JL:∀(l:ak3 Nat)(base i:Nat),l.length≤i→rn l base i=base+(i-l.length)
 |[],base,i,_=>by simp [rn]
 |a::l,base,0,h=>by simp at h
 |a::l,base,i+1,h=>by rw[rn,JL l base i (by simpa using h)];simp
mutual
def AV.aP(σ:Nat→Nat):AV→AV
 | .ptr n off=> .ptr (σ n) off
 | .own n xs=> .own (σ n) xs
 | .row n off len cap k=> .row (σ n) off len cap k
 | .mp n=> .mp (σ n)
 | .cH n=> .cH (σ n)
 | .vec n o len L k=> .vec (σ n) o len L k
 | .cQ n i j L k=> .cQ (σ n) i j L k
 | .agg cs=> .agg (AV.eN σ cs)
 | .bk cs=> .bk (AV.eN σ cs)
 | .fn f cs=> .fn f (AV.eN σ cs)
 | .d x=> .d x
 | .bE xs i off=> .bE xs i off
 | .full xs=> .full xs
 | .hid c=> .hid c
 | .dead=> .dead
def AV.eN(σ:Nat→Nat):ak3 AV→ak3 AV
 |[]=>[]
 |x::l=>x.aP σ::AV.eN σ l
end
theorem fW(σ:Nat→Nat):∀l,AV.eN σ l=l.map (AV.aP σ)
 |[]=>by simp [AV.eN]
 |x::l=>by simp [AV.eN,fW σ l]
def aq.aP(σ:Nat→Nat):aq→aq
 | .cells cs=> .cells (AV.eN σ cs)
 | .lp ls p as bd cs=> .lp ls p as bd (AV.eN σ cs)
 | .it sn cs=> .it sn (AV.eN σ cs)
 | .vec e k cs=> .vec e k (cs.map (AV.eN σ))
 | .front e k len=> .front e k len
 | .map kv=> .map kv
 | .gone=> .gone
def fB:ak3 Nat→ak3 aq→ak3 aq→ak3 aq
 |[],Bs,h=>h++Bs
 |_::_,[],h=>h
 |i::l,B::Bs,h=>fB l Bs (h.set i B)
structure pF(σ:Nat→Nat)(G G2:Gh):Prop where
 lt:∀n,n<G.N→σ n<G2.N
 bm:∀n,n<G.N→G2.bm (σ n)=G.bm n
 sg:∀n,n<G.N→G2.sg (σ n)=G.sg n
 fl:∀n,n<G.N→G2.fl (σ n)=G.fl n
 ow:∀n,n<G.N→G2.ow (σ n)=G.ow n
 S:∀b o,G2.S b o↔G.S b o
theorem dc.tf{S S':Nat→Nat→Prop}{w:ak8}(hS:∀b o,S b o→S' b o){u:ak7}{x:D}(h:dc S w u x):dc S' w u x:=h.bo hS (fun _ _ _=>rfl)
theorem aN.aP{σ:Nat→Nat}{G G2:Gh}{w:ak8}(hR:pF σ G G2){u:ak7}{x:AV}(h:aN G w u x):aN G2 w u (x.aP σ):=by
 have hS:∀b o,G.S b o→G2.S b o:=fun b o h=>(hR.S b o).2 h;have fq:∀(vs:Array ak7)(cs:ak3 AV),(∀(i:Nat)(u:ak7)(c:AV),vs[i]?=some u→cs[i]?=some c→aN G2 w u (c.aP σ))→∀(i:Nat)(u:ak7)(c:AV),vs[i]?=some u→(AV.eN σ cs)[i]?=some c→aN G2 w u c:=by
  intro vs cs ih i u c hu hc;rw[fW,akm]at hc;cases hx:cs[i]? with
  |none=>rw[hx]at hc;cases hc
  |some x=>rw[hx]at hc;cases hc;exact ih i u x hu hx
 induction h with
 |agg vs cs hl _ ih=>rw[AV.aP];exact .agg vs _ (by rw[fW,akk];exact hl) (fq vs cs ih)
 |bk vs cs hl _ ih=>rw[AV.aP];exact .bk vs _ (by rw[fW,akk];exact hl) (fq vs cs ih)
 |fn f vs cs hl _ ih=>rw[AV.aP];exact .fn f vs _ (by rw[fW,akk];exact hl) (fq vs cs ih)
 |d h=>rw[AV.aP];exact .d (h.tf hS)
 |full xs hp hf=>rw[AV.aP];exact .full xs (hp.tf hS) hf
 |ptr n off h=>rw[AV.aP,←hR.bm n h];exact .ptr _ off (hR.lt n h)
 |row n off len cap k h hl hm=>rw[AV.aP,←hR.bm n h];exact .row _ off len cap k (hR.lt n h) hl hm
 |mp n h=>rw[AV.aP,←hR.bm n h];exact .mp _ (hR.lt n h)
 |cH n h=>rw[AV.aP,←hR.bm n h];exact .cH _ (hR.lt n h)
 |own n xs h hp hle hf=>rw[AV.aP];exact .own _ xs (hR.lt n h) (hp.tf hS) (by rw[hR.fl n h];exact hle) (by rw[hR.fl n h,hR.sg n h];exact hf)
 |vec n o len L k h hs hL hf=>rw[AV.aP];exact .vec _ o len L k (hR.lt n h) hs (by rw[hR.fl n h];exact hL) (by rw[hR.fl n h,hR.sg n h];exact hf)
 |cQ n i j L k h hs hL hf=>rw[AV.aP];exact .cQ _ i j L k (hR.lt n h) hs (by rw[hR.fl n h];exact hL) (by rw[hR.fl n h,hR.sg n h];exact hf)
 |bE xs i off b o u x hx oG hu=>rw[AV.aP];exact .bE xs i off b o u x hx (fun j hj=>⟨hS _ _ (oG j hj).1,(oG j hj).2⟩) (fun j d hd=>(hu j d hd).tf hS)
 |hid h h1=>rw[AV.aP];exact .hid (h.bo hS (fun _ _ _=>rfl)) h1
 |dead u=>rw[AV.aP];exact .dead u
theorem aN.ua{σ:Nat→Nat}{G G2:Gh}{w:ak8}(hR:pF σ G G2){u:ak7}{y:AV}(h:aN G2 w u y):∀x:AV,x.aP σ=y→x.aT G.N=true→aN G w u x:=by
 have hS:∀b o,G2.S b o→G.S b o:=fun b o h=>(hR.S b o).1 h;have lt:∀n,(!cf G.N n)=true→n<G.N:=fun n h=>by rw[Bool.not_eq_true',←Bool.not_eq_true,dk]at h;omega
 have fq:∀(vs:Array ak7)(cs xs:ak3 AV),(∀(i:Nat)(u:ak7)(c:AV),vs[i]?=some u→cs[i]?=some c→∀x:AV,x.aP σ=c→x.aT G.N=true→aN G w u x)→AV.eN σ xs=cs→AV.lS G.N xs=true→∀(i:Nat)(u:ak7)(c:AV),vs[i]?=some u→xs[i]?=some c→aN G w u c:=by
  intro vs cs xs ih e hb i u c hu hc;subst e;rw[l0,akF]at hb;exact ih i u (c.aP σ) hu (by rw[fW,akm,hc];rfl) c rfl (hb c (aks hc))
 induction h with
 |agg vs cs hl _ ih=>
  intro x e hb;cases x<;>simp only[AV.aP,AV.agg.injEq,reduceCtorEq]at e
  next xs=>
   rw[AV.aT]at hb;exact .agg vs xs (by rw[hl,←e,fW,akk]) (fq vs cs xs ih e hb)
 |bk vs cs hl _ ih=>
  intro x e hb;cases x<;>simp only[AV.aP,AV.bk.injEq,reduceCtorEq]at e
  next xs=>
   rw[AV.aT]at hb;exact .bk vs xs (by rw[hl,←e,fW,akk]) (fq vs cs xs ih e hb)
 |fn f vs cs hl _ ih=>
  intro x e hb;cases x<;>simp only[AV.aP,AV.fn.injEq,reduceCtorEq]at e
  next g xs=>
   obtain⟨rfl,e⟩:=e;rw[AV.aT]at hb;exact .fn _ vs xs (by rw[hl,←e,fW,akk]) (fq vs cs xs ih e hb)
 |d h=>
  intro x e hb;cases x<;>simp only[AV.aP,AV.d.injEq,reduceCtorEq]at e
  next y=>subst e;exact .d (h.tf hS)
 |full xs hp hf=>
  intro x e hb;cases x<;>simp only[AV.aP,AV.full.injEq,reduceCtorEq]at e
  next y=>subst e;exact .full y (hp.tf hS) hf
 |ptr n off h=>
  intro x e hb;cases x<;>simp only[AV.aP,AV.ptr.injEq,reduceCtorEq]at e
  next m o=>
   obtain⟨e1,rfl⟩:=e;rw[AV.aT]at hb;have hm:=lt _ hb;rw[←e1,hR.bm _ hm];exact .ptr _ _ hm
 |row n off len cap k h hl jT=>
  intro x e hb;cases x<;>simp only[AV.aP,AV.row.injEq,reduceCtorEq]at e
  next m o l c q=>
   obtain⟨e1,rfl,rfl,rfl,rfl⟩:=e;rw[AV.aT]at hb;have hm:=lt _ hb;rw[←e1,hR.bm _ hm];exact .row _ _ _ _ _ hm hl jT
 |mp n h=>
  intro x e hb;cases x<;>simp only[AV.aP,AV.mp.injEq,reduceCtorEq]at e
  next m=>
   rw[AV.aT]at hb;have hm:=lt _ hb;rw[←e,hR.bm _ hm];exact .mp _ hm
 |cH n h=>
  intro x e hb;cases x<;>simp only[AV.aP,AV.cH.injEq,reduceCtorEq]at e
  next m=>
   rw[AV.aT]at hb;have hm:=lt _ hb;rw[←e,hR.bm _ hm];exact .cH _ hm
 |own n xs h hp hle hf=>
  intro x e hb;cases x<;>simp only[AV.aP,AV.own.injEq,reduceCtorEq]at e
  next m l=>
   obtain⟨e1,rfl⟩:=e;rw[AV.aT]at hb;have hm:=lt _ hb;rw[←e1]at hle hf;exact .own _ _ hm (hp.tf hS) (by rw[←hR.fl _ hm];exact hle) (by rw[←hR.fl _ hm,←hR.sg _ hm];exact hf)
 |vec n o len L k h hs hL hf=>
  intro x e hb;cases x<;>simp only[AV.aP,AV.vec.injEq,reduceCtorEq]at e
  next m a1 a2 a3 a4=>
   obtain⟨e1,rfl,rfl,rfl,rfl⟩:=e;rw[AV.aT]at hb;have hm:=lt _ hb;rw[←e1]at hL hf;exact .vec _ _ _ _ _ hm hs (by rw[←hR.fl _ hm];exact hL) (by rw[←hR.fl _ hm,←hR.sg _ hm];exact hf)
 |cQ n i j L k h hs hL hf=>
  intro x e hb;cases x<;>simp only[AV.aP,AV.cQ.injEq,reduceCtorEq]at e
  next m a1 a2 a3 a4=>
   obtain⟨e1,rfl,rfl,rfl,rfl⟩:=e;rw[AV.aT]at hb;have hm:=lt _ hb;rw[←e1]at hL hf;exact .cQ _ _ _ _ _ hm hs (by rw[←hR.fl _ hm];exact hL) (by rw[←hR.fl _ hm,←hR.sg _ hm];exact hf)
 |bE xs i off b o u y hx oG hu=>
  intro x e hb;cases x<;>simp only[AV.aP,AV.bE.injEq,reduceCtorEq]at e
  next a1 a2 a3=>
   obtain⟨rfl,rfl,rfl⟩:=e;exact .bE _ _ _ b o u y hx (fun j hj=>⟨hS _ _ (oG j hj).1,(oG j hj).2⟩) (fun j d hd=>(hu j d hd).tf hS)
 |hid h h1=>
  intro x e hb;cases x<;>simp only[AV.aP,AV.hid.injEq,reduceCtorEq]at e
  next c=>subst e;exact .hid (h.bo hS (fun _ _ _=>rfl)) h1
 |dead u=>
  intro x e hb;cases x<;>simp only[AV.aP,reduceCtorEq]at e
  exact .dead u
theorem N2{σ:Nat→Nat}{G G2:Gh}(hR:pF σ G G2){n:Nat}(hn:n<G.N)(B:aq):(B.aP σ).dy G2 (σ n)=B.dy G n:=by
 cases B<;>simp only[aq.aP,aq.dy,hR.bm n hn,hR.ow n hn]
theorem dE.aP{σ:Nat→Nat}{G G2:Gh}{w:ak8}(hR:pF σ G G2){n:Nat}(hn:n<G.N){B:aq}(hz:∀b,B.dy G n=some b→¬G2.Z b)(h:dE G w n B):dE G2 w (σ n) (B.aP σ):=by
 have hS:∀b o,¬G.S b o→¬G2.S b o:=fun b o h h2=>h ((hR.S b o).1 h2);cases B with
 |gone=>trivial
 |cells cs=>
  obtain⟨h1,h2,vs,T,h3,h4,h5⟩:=h;rw[aq.aP];refine⟨by rw[hR.bm n hn];exact hz _ rfl,by rw[hR.bm n hn];exact fun o=>hS _ _ (h2 o),vs,T,by rw[hR.bm n hn];exact h3,by rw[fW,akk];exact h4,fun i u c hu hc=> ?_⟩;rw[fW,akm]at hc;cases hx:cs[i]? with
  |none=>rw[hx]at hc;cases hc
  |some x=>rw[hx]at hc;cases hc;exact(h5 i u x hu hx).aP hR
 |lp ls p as bd cs=>
  obtain⟨h1,h2,fn,vs,T,h3,h4,h5⟩:=h;rw[aq.aP];refine⟨by rw[hR.bm n hn];exact hz _ rfl,by rw[hR.bm n hn];exact fun o=>hS _ _ (h2 o),fn,vs,T,by rw[hR.bm n hn];exact h3,by rw[fW,akk];exact h4,fun i u c hu hc=> ?_⟩;rw[fW,akm]at hc;cases hx:cs[i]? with
  |none=>rw[hx]at hc;cases hc
  |some x=>rw[hx]at hc;cases hc;exact(h5 i u x hu hx).aP hR
 |it sn cs=>
  obtain⟨h1,h2,fn,vs,T,h3,h4,h5⟩:=h;rw[aq.aP];refine⟨by rw[hR.bm n hn];exact hz _ rfl,by rw[hR.bm n hn];exact fun o=>hS _ _ (h2 o),fn,vs,T,by rw[hR.bm n hn];exact h3,by rw[fW,akk];exact h4,fun i u c hu hc=> ?_⟩;rw[fW,akm]at hc;cases hx:cs[i]? with
  |none=>rw[hx]at hc;cases hc
  |some x=>rw[hx]at hc;cases hc;exact(h5 i u x hu hx).aP hR
 |map kv=>
  obtain⟨h1,h2,es,c,h3,h4⟩:=h;exact⟨by rw[hR.bm n hn];exact hz _ rfl,by rw[hR.bm n hn];exact fun o=>hS _ _ (h2 o),es,c,by rw[hR.bm n hn];exact h3,h4.bo (fun b o h=>(hR.S b o).2 h) (fun _ _ _=>rfl)⟩
 |front e k len=>
  obtain⟨h1,hm,h2⟩:=h;refine⟨(hR.fl n hn).trans h1,hm,?_⟩;rcases h2 with⟨h2,A,h3⟩|⟨g,cap,cur,h2,h3,h4,h5,h6,h7,h8,h9⟩
  ·exact .inl ⟨(hR.ow n hn).trans h2,A,(hR.sg n hn).trans h3⟩
  ·exact .inr ⟨g,cap,cur,(hR.ow n hn).trans h2,(hR.sg n hn).trans h3,hz g h2,h5,h6,h7,h8,fun o ho=>hS _ _ (h9 o ho)⟩
 |vec e k cs=>
  obtain⟨h1,hm,hk,h2⟩:=h;rw[aq.aP];refine⟨by rw[akk];exact(hR.fl n hn).trans h1,by rw[akk];exact hm,fun c hc=> ?_,?_⟩
  ·obtain⟨x,hx,rfl⟩:=List.mem_map.1 hc;rw[fW,akk];exact hk x hx
  ·rcases h2 with⟨h2,e2,A,h3⟩|⟨g,cap,cur,h2,h3,h4,h5,h6,h7,h8,h9,az⟩
   ·exact .inl ⟨(hR.ow n hn).trans h2,by rw[e2];rfl,A,(hR.sg n hn).trans h3⟩
   ·refine .inr ⟨g,cap,cur,(hR.ow n hn).trans h2,by rw[akk];exact(hR.sg n hn).trans h3,hz g h2,h5,by rw[akk];exact h6,h7,h8,fun o=>hS _ _ (h9 o),fun i j c x u hc hx hu=> ?_⟩;rw[akm]at hc;cases hy:cs[i]? with
    |none=>rw[hy]at hc;cases hc
    |some y=>
     rw[hy]at hc;cases hc
     rw[fW,akm]at hx;cases hw:y[j]? with
     |none=>rw[hw]at hx;cases hx
     |some z=>rw[hw]at hx;cases hx;exact(az i j y z u hy hw hu).aP hR
theorem dE.ua{σ:Nat→Nat}{G G2:Gh}{w:ak8}(hR:pF σ G G2){n:Nat}(hn:n<G.N){B:aq}(hb:B.aT G.N=true)(hz:∀b,B.dy G n=some b→¬G.Z b)(h:dE G2 w (σ n) (B.aP σ)):dE G w n B:=by
 have hS:∀b o,¬G2.S b o→¬G.S b o:=fun b o h h2=>h ((hR.S b o).2 h2);cases B with
 |gone=>trivial
 |cells cs=>
  rw[aq.aP]at h;obtain⟨h1,h2,vs,T,h3,h4,h5⟩:=h;rw[hR.bm n hn]at h2 h3;rw[fW,akk]at h4;simp only[aq.aT,akF]at hb;exact⟨hz _ rfl,fun o=>hS _ _ (h2 o),vs,T,h3,h4,fun i u c hu hc=>aN.ua hR (h5 i u (c.aP σ) hu (by rw[fW,akm,hc];rfl)) c rfl (hb c (aks hc))⟩
 |lp ls p as bd cs=>
  rw[aq.aP]at h;obtain⟨h1,h2,fn,vs,T,h3,h4,h5⟩:=h;rw[hR.bm n hn]at h2 h3;rw[fW,akk]at h4;simp only[aq.aT,akF]at hb;exact⟨hz _ rfl,fun o=>hS _ _ (h2 o),fn,vs,T,h3,h4,fun i u c hu hc=>aN.ua hR (h5 i u (c.aP σ) hu (by rw[fW,akm,hc];rfl)) c rfl (hb c (aks hc))⟩
 |it sn cs=>
  rw[aq.aP]at h;obtain⟨h1,h2,fn,vs,T,h3,h4,h5⟩:=h;rw[hR.bm n hn]at h2 h3;rw[fW,akk]at h4;simp only[aq.aT,akF]at hb;exact⟨hz _ rfl,fun o=>hS _ _ (h2 o),fn,vs,T,h3,h4,fun i u c hu hc=>aN.ua hR (h5 i u (c.aP σ) hu (by rw[fW,akm,hc];rfl)) c rfl (hb c (aks hc))⟩
 |map kv=>
  obtain⟨h1,h2,es,c,h3,h4⟩:=h;rw[hR.bm n hn]at h2 h3;exact⟨hz _ rfl,fun o=>hS _ _ (h2 o),es,c,h3,h4.bo (fun b o h=>(hR.S b o).1 h) (fun _ _ _=>rfl)⟩
 |front e k len=>
  obtain⟨h1,hm,h2⟩:=h;rw[hR.fl n hn]at h1;rw[hR.ow n hn,hR.sg n hn]at h2;refine⟨h1,hm,?_⟩;rcases h2 with⟨h2,A,h3⟩|⟨g,cap,cur,h2,h3,h4,h5,h6,h7,h8,h9⟩
  ·exact .inl ⟨h2,A,h3⟩
  ·exact .inr ⟨g,cap,cur,h2,h3,hz g h2,h5,h6,h7,h8,fun o ho=>hS _ _ (h9 o ho)⟩
 |vec e k cs=>
  rw[aq.aP]at h;obtain⟨h1,hm,hk,h2⟩:=h;rw[hR.fl n hn,akk]at h1;rw[akk]at hm;rw[hR.ow n hn,hR.sg n hn,akk]at h2;simp only[aq.aT,akF]at hb;refine⟨h1,hm,fun c hc=> ?_,?_⟩
  ·have:=hk _ (List.mem_map.2 ⟨c,hc,rfl⟩)
   rwa [fW,akk]at this
  ·rcases h2 with⟨h2,e2,A,h3⟩|⟨g,cap,cur,h2,h3,h4,h5,h6,h7,h8,h9,az⟩
   ·exact .inl ⟨h2,List.map_eq_nil_iff.1 e2,A,h3⟩
   ·refine .inr ⟨g,cap,cur,h2,h3,hz g h2,h5,h6,h7,h8,fun o=>hS _ _ (h9 o),fun i j c x u hc hx hu=> ?_⟩;exact aN.ua hR (az i j (AV.eN σ c) (x.aP σ) u (by rw[akm,hc];rfl) (by rw[fW,akm,hx];rfl) hu) x rfl (hb c (aks hc) x (aks hx))
theorem SP:∀(l:ak3 Nat)(Bs h:ak3 aq),l.length≤Bs.length→(fB l Bs h).length=h.length+(Bs.length-l.length)
 |[],Bs,h,_=>by simp [fB]
 |j::l,[],h,hl=>by simp at hl
 |j::l,B::Bs,h,hl=>by rw[fB,SP l Bs _ (by simpa using hl),List.length_set];simp
theorem MW:∀(l:ak3 Nat)(Bs h:ak3 aq)(n:Nat),l.length≤Bs.length→n<h.length→n ∉ l→(fB l Bs h)[n]?=h[n]?
 |[],Bs,h,n,_,hn,_=>by rw[fB,akp hn]
 |j::l,[],h,n,hl,_,_=>by simp at hl
 |j::l,B::Bs,h,n,hl,hn,hm=>by
  simp only[akJ,not_or]at hm;rw[fB,MW l Bs _ n (by simpa using hl) (by rw[List.length_set];exact hn) hm.2,akN (Ne.symm hm.1)]
theorem Vm:∀(l:ak3 Nat)(Bs h:ak3 aq)(i:Nat),l.length≤Bs.length→l.Nodup→(∀j∈l,j<h.length)→i<Bs.length→(fB l Bs h)[rn l h.length i]?=Bs[i]?
 |[],Bs,h,i,_,_,_,hi=>by rw[fB,rn,akv (akU _ _),Nat.add_sub_cancel_left]
 |j::l,[],h,i,hl,_,_,_=>by simp at hl
 |j::l,B::Bs,h,0,hl,hd,a7,_=>by
  rw[List.nodup_cons]at hd;rw[fB,rn,MW l Bs _ j (by simpa using hl) (by rw[List.length_set];exact a7 j (by simp)) hd.1,akI (a7 j (by simp))];rfl
 |j::l,B::Bs,h,i+1,hl,hd,a7,hi=>by
  rw[List.nodup_cons]at hd;have:=Vm l Bs (h.set j B) i (by simpa using hl) hd.2 (fun x hx=>by rw[List.length_set];exact a7 x (by simp [hx])) (by simpa using hi);rw[List.length_set]at this;rw[fB,rn,this];simp
def xk(l:ak3 Nat)(base n:Nat):ak5 Nat:=if n∈l then some (l.idxOf n)else if base≤n then some (l.length+(n-base))else none
theorem OH{l:ak3 Nat}{base:Nat}(hd:l.Nodup)(a7:∀j∈l,j<base)(i:Nat):xk l base (rn l base i)=some i:=by
 unfold xk;by_cases hi:i<l.length
 ·have e:l[i]?=some l[i]:=akj hi;rw[Au l base i _ e,if_pos (List.getElem_mem _),List.Nodup.idxOf_getElem hd i hi]
 ·rw[JL l base i (by omega),if_neg (fun h=>by have:=a7 _ h;omega),if_pos (akU _ _)]
  congr 1;omega
theorem OR{l:ak3 Nat}{base n i:Nat}(h:xk l base n=some i):rn l base i=n:=by
 unfold xk at h;split at h
 ·rename_i hm
  cases h
  have a7:=List.idxOf_lt_length_of_mem hm;refine Au l base _ n ?_;rw[akj a7,List.getElem_idxOf]
 ·split at h
  ·cases h
   rw[JL _ _ _ (by omega)];omega
  ·cases h
theorem abk{l:ak3 Nat}{base n:Nat}(h:xk l base n=none):n<base∧n ∉ l:=by
 unfold xk at h;split at h
 ·cases h
 ·split at h
  ·cases h
  ·rename_i h1 h2;exact⟨by omega,h1⟩
def rz{α:Type}(o:ak5 Nat)(f:Nat→α)(d:α):α:=match o with|some i=>f i|none=>d
theorem Ru{H:ak3 aq}{l:ak3 Nat}{h:ak3 aq}
 (hd:l.Nodup) (a7:∀j∈l,j<h.length) (hH:∀(i j:Nat),l[i]?=some j→h[j]?=(H[i]?).map (aq.aP (rn l h.length))) (hk:l.length=H.length)
 (hb:H.all (aq.aT H.length)=true) {G:Gh} {w:ak8} (hi:bW G w h):
 ∃G0:Gh,G0.N=H.length∧bW G0 w H∧pF (rn l h.length) G0 G∧∀(G1:Gh)(w':ak8)(H':ak3 aq),bR H.length G0 w G1 w'→H.length≤G1.N→bW G1 w' H'→
  ∃G2:Gh,bR G.N G w G2 w'∧G.N≤G2.N∧bW G2 w' (fB l (H'.map (aq.aP (rn l h.length))) h)∧pF (rn l h.length) G1 G2:=by
 obtain⟨σ,hσ⟩:∃σ,σ=rn l h.length:=⟨_,rfl⟩;rw[←hσ]at hH ⊢;have Js:h.length=G.N:=hi.len;obtain⟨own,dB⟩:∃own:Nat→Prop,own=fun b=>∃j∈l,b6 h G j=some b:=⟨_,rfl⟩;obtain⟨G0,je⟩:∃G0:Gh,G0={N:=H.length,Z:=fun b=>b<w.heap.size∧¬own b,S:=G.S,bm:=fun i=>G.bm (σ i),sg:=fun i=>G.sg (σ i),ow:=fun i=>G.ow (σ i),fl:=fun i=>G.fl (σ i),M:=G.M}:=⟨_,rfl⟩;have Gu:∀i,i<H.length→∃j,l[i]?=some j∧σ i=j∧j∈l:=fun i di=>by
  have iX:i<l.length:=by rw[hk];exact di
  exact⟨l[i],akj iX,by rw[hσ];exact Au l _ i _ (akj iX),List.getElem_mem _⟩
 have qW:pF σ G0 G:=by
  subst je;refine⟨fun n hn=> ?_,fun _ _=>rfl,fun _ _=>rfl,fun _ _=>rfl,fun _ _=>rfl,fun _ _=>Iff.rfl⟩;obtain⟨j,_,e,hj⟩:=Gu n hn;rw[e,←Js];exact a7 j hj
 have cn:G0.N=H.length:=by rw[je]
 have Ti:∀(i:Nat)(B:aq),H[i]?=some B→h[σ i]?=some (B.aP σ):=fun i B hB=>by
  obtain⟨j,e1,e2,_⟩:=Gu i (akf.1 hB).1;rw[e2,hH i j e1,hB];rfl
 have Lk:∀(i:Nat)(B:aq)(b:Nat),H[i]?=some B→B.dy G0 i=some b→b6 h G (σ i)=some b:=fun i B b hB eW=>by
  rw[dm (Ti i B hB),N2 qW (by rw[cn];exact(akf.1 hB).1) B];exact eW
 have vV:∀(i:Nat)(B:aq)(b:Nat),H[i]?=some B→B.dy G0 i=some b→¬G0.Z b:=fun i B b hB eW hz=>by
  rw[je]at hz;refine hz.2 ?_;rw[dB];obtain⟨j,_,e2,hj⟩:=Gu i (akf.1 hB).1;exact⟨j,hj,by rw[←e2];exact Lk i B b hB eW⟩
 have afj:∀i i',σ i=σ i'→i=i':=fun i i' e=>by
  have h1:=OH hd a7 i;have h2:=OH hd a7 i';rw[hσ]at e;rw[e,h2]at h1;exact(aky h1).symm
 have ql:bW G0 w H:=by
  refine⟨cn.symm,fun b hz=> ?_,fun b o hs=> ?_,fun i B hB=> ?_,fun m n b h1 h2=> ?_,by rw[je];exact hi.gl⟩
  ·rw[je]at hz;exact hz.1
  ·rw[je]at hs;exact hi.S b o hs
  ·have hiN:i<G0.N:=by rw[cn];exact(akf.1 hB).1
   rw[akF]at hb;exact dE.ua qW hiN (by rw[cn];exact hb B (aks hB)) (fun b eW=>vV i B b hB eW) (hi.cW (σ i) _ (Ti i B hB))
  ·obtain⟨B1,tI,iH⟩:=m4 h1;obtain⟨B2,Ni,j9⟩:=m4 h2;exact afj m n (hi.inj _ _ b (Lk m B1 b tI iH) (Lk n B2 b Ni j9))
 refine⟨G0,cn,ql,qW,fun G1 w' H' hE eZ ik=> ?_⟩;have C1:H'.length=G1.N:=ik.len;obtain⟨ps,Fs⟩:∃ps,ps=xk l h.length:=⟨_,rfl⟩;obtain⟨G2,fV⟩:∃G2:Gh,G2={N:=G.N+(G1.N-H.length),Z:=G.Z,S:=G1.S,bm:=fun n=>rz (ps n) G1.bm (G.bm n),sg:=fun n=>rz (ps n) G1.sg (G.sg n),ow:=fun n=>rz (ps n) G1.ow (G.ow n),fl:=fun n=>rz (ps n) G1.fl (G.fl n),M:=G.M}:=⟨_,rfl⟩;have Hd:∀i,ps (σ i)=some i:=fun i=>by rw[Fs,hσ];exact OH hd a7 i
 have Hi:∀i,H.length≤i→σ i=G.N+(i-H.length):=fun i jc=>by rw[hσ,JL l _ i (by omega),Js,hk]
 have ag3:∀i,i<H.length→σ i<G.N:=fun i JG=>by
  obtain⟨j,_,e,hj⟩:=Gu i JG;rw[e,←Js];exact a7 j hj
 have OU:pF σ G1 G2:=by
  subst fV;refine⟨fun n hn=> ?_,fun n _=>by simp only[Hd];rfl,fun n _=>by simp only[Hd];rfl,fun n _=>by simp only[Hd];rfl,fun n _=>by simp only[Hd];rfl,fun _ _=>Iff.rfl⟩;show σ n<G.N+(G1.N-H.length);by_cases eG:n<H.length
  ·have:=ag3 n eG;omega
  ·rw[Hi n (by omega)];omega
 have VG:∀b,G0.Z b→G1.Z b:=hE.Z.1.1;have Mo:∀b,G.Z b→G0.Z b:=fun b hz=>by
  rw[je];refine⟨hi.z b hz,fun ho=> ?_⟩;rw[dB]at ho;obtain⟨j,_,ho⟩:=ho;obtain⟨B,hB,eW⟩:=m4 ho;exact(hi.cW j B hB).lI eW hz
 have jl:bR G.N G w G2 w':=by
  refine⟨hE.size,fun b o hs=> ?_,fun b o hs=> ?_,fun n hn=> ?_,fun n hn=> ?_,fZ (by rw[fV]) (by rw[fV]),fun b hz=>hE.old b (Mo b hz),hE.os,hE.tape,hE.output,fun b o hs=> ?_⟩
  ·rw[fV];exact hE.S b o (by rw[je];exact hs)
  ·exact hE.cell b o (by rw[je];exact hs)
  ·rw[fV];show rz (ps n) G1.bm (G.bm n)=G.bm n;cases hp:ps n with
   |none=>rfl
   |some i=>
    have e:σ i=n:=by rw[hσ];rw[Fs]at hp;exact OR hp
    have di:i<H.length:=Nat.lt_of_not_le fun jc=>by rw[Hi i jc]at e;omega
    show G1.bm i=G.bm n;rw[hE.bm i di,je,←e]
  ·rw[fV];show(rz (ps n) G1.fl (G.fl n)=G.fl n∧rz (ps n) G1.sg (G.sg n)=G.sg n)∨G.fl n<rz (ps n) G1.fl (G.fl n);cases hp:ps n with
   |none=>exact .inl ⟨rfl,rfl⟩
   |some i=>
    have e:σ i=n:=by rw[hσ];rw[Fs]at hp;exact OR hp
    have di:i<H.length:=Nat.lt_of_not_le fun jc=>by rw[Hi i jc]at e;omega
    have:=hE.fr i di;rw[je]at this;simp only[e]at this;exact this
  ·rw[fV]at hs;rcases hE.new b o hs with h1|h1
   ·rw[je]at h1;exact .inl h1
   ·exact .inr fun hz=>h1 (Mo b hz)
 have hlen:(fB l (H'.map (aq.aP σ)) h).length=G2.N:=by
  rw[SP _ _ _ (by rw[akk,hk,C1];omega),akk,C1,hk,Js,fV]
 have afY:∀i,i<G1.N→(fB l (H'.map (aq.aP σ)) h)[σ i]?=(H'[i]?).map (aq.aP σ):=fun i di=>by
  rw[←akm,hσ];exact Vm l _ h i (by rw[akk,hk,C1];omega) hd a7 (by rw[akk,C1];exact di)
 have J0:∀(n:Nat)(B:aq),(fB l (H'.map (aq.aP σ)) h)[n]?=some B→(∃i B',i<G1.N∧n=σ i∧H'[i]?=some B'∧B=B'.aP σ)∨(ps n=none∧n ∉ l∧h[n]?=some B):=fun n B hB=>by
  have RS:n<G2.N:=by rw[←hlen];exact(akf.1 hB).1
  cases hp:ps n with
  |none=>
   rw[Fs]at hp;obtain⟨h1,h2⟩:=abk hp;exact .inr ⟨rfl,h2,by rw[←MW l (H'.map (aq.aP σ)) h n (by rw[akk,hk,C1];omega) h1 h2];exact hB⟩
  |some i=>
   have e:σ i=n:=by rw[hσ];rw[Fs]at hp;exact OR hp
   have di:i<G1.N:=Nat.lt_of_not_le fun jc=>by
    rw[Hi i (by omega)]at e;rw[fV]at RS;have:n<G.N+(G1.N-H.length):=RS;omega
   rw[←e,afY i di]at hB;cases hx:H'[i]? with
   |none=>rw[hx]at hB;cases hB
   |some B'=>rw[hx]at hB;cases hB;exact .inl ⟨i,B',di,e.symm,hx,rfl⟩
 have hold:∀(n b:Nat),n ∉ l→b6 h G n=some b→G0.Z b:=fun n b hn eW=>by
  rw[je];refine⟨hi.ia eW,fun ho=> ?_⟩;rw[dB]at ho;obtain⟨j,hj,ho⟩:=ho;exact hn ((hi.inj n j b eW ho)▸hj)
 have ED:∀(n b:Nat),b6 (fB l (H'.map (aq.aP σ)) h) G2 n=some b→(∃i,n=σ i∧b6 H' G1 i=some b∧¬G0.Z b)∨(n ∉ l∧b6 h G n=some b∧G0.Z b):=fun n b eW=>by
  obtain⟨B,hB,iH⟩:=m4 eW;rcases J0 n B hB with⟨i,B',di,rfl,dD,rfl⟩|⟨hp,hn,dD⟩
  ·rw[N2 OU di]at iH;exact .inl ⟨i,rfl,(dm dD).trans iH,fun hz=>(ik.cW i B' dD).lI iH (VG _ hz)⟩
  ·have e:B.dy G2 n=B.dy G n:=by
    subst fV;cases B<;>simp only[aq.dy,hp,rz]
   have:=(dm dD).trans (e▸iH);exact .inr ⟨hn,this,hold n b hn this⟩
 refine⟨G2,jl,by rw[fV];exact akU _ _,⟨hlen,fun b hz=> ?_,fun b o hs=> ?_,fun n B hB=> ?_,fun m n b h1 h2=> ?_,hi.gl.bo jl⟩,OU⟩
 ·rw[fV]at hz;exact akD (hi.z b hz) hE.size
 ·rw[fV]at hs;exact ik.S b o hs
 ·rcases J0 n B hB with⟨i,B',di,rfl,dD,rfl⟩|⟨hp,hn,dD⟩
  ·refine dE.aP OU di (fun b eW hz=> ?_) (ik.cW i B' dD);have:=(ik.cW i B' dD).lI eW;rw[fV]at hz;exact this (VG b (Mo b hz))
  ·have mI:n<G.N:=by rw[←hi.len];exact(akf.1 dD).1
   refine dE.bo mI jl (by rw[fV];exact akU _ _) (by rw[fV];simp only[hp];exact⟨rfl,rfl,rfl⟩) (fun b eW=> ?_) (hi.cW n B dD);have hz:=hold n b hn ((dm dD).trans eW);refine⟨hE.old b hz,fun o jx hs=> ?_⟩;rw[fV]at hs;rcases hE.new b o hs with h1|h1
   ·rw[je]at h1;exact jx h1
   ·exact h1 hz
 ·rcases ED m b h1 with⟨i,rfl,a1,a2⟩|⟨a0,a1,a2⟩<;>rcases ED n b h2 with⟨j,rfl,b1,b2⟩|⟨b0,b1,b2⟩
  ·rw[ik.inj i j b a1 b1]
  ·exact absurd b2 a2
  ·exact absurd a2 b2
  ·exact hi.inj m n b a1 b1
theorem bQ.US{P:ak6}{f:FuncId}{args:ak3 AV}{H:ak3 aq}{K:AV→ak3 aq→Prop}(hc:bQ P f args H K){l:ak3 Nat}{h:ak3 aq}
 (hd:l.Nodup) (a7:∀j∈l,j<h.length) (hH:∀(i j:Nat),l[i]?=some j→h[j]?=(H[i]?).map (aq.aP (rn l h.length))) (hk:l.length=H.length)
 (ha:args.all (AV.aT H.length)=true) (hb:H.all (aq.aT H.length)=true):
 bQ P f (args.map (AV.aP (rn l h.length))) h fun r' h'=>∃r H',K r H'∧r'=r.aP (rn l h.length)∧h'=fB l (H'.map (aq.aP (rn l h.length))) h:=by
 refine⟨hc.1,fun G w vs hi wW hvr=> ?_⟩;obtain⟨G0,cn,ql,qW,Pk⟩:=Ru hd a7 hH hk hb hi;refine(hc.2 G0 w vs ql (by rw[wW,akk]) fun i u c hu hx=> ?_).mono fun e w' hp=> ?_
 ·rw[akF]at ha;exact aN.ua qW (hvr i u (c.aP (rn l h.length)) hu (by rw[akm,hx];rfl)) c rfl (by rw[cn];exact ha c (aks hx))
 ·obtain⟨v,G1,r,H',rfl,hE,eZ,ik,hv,hK⟩:=hp;rw[cn]at eZ hE;obtain⟨G2,e1,e2,e3,e4⟩:=Pk G1 w' H' hE eZ ik;exact⟨v,G2,r.aP _,_,rfl,e1,e2,e3,hv.aP e4,r,H',hK,rfl,rfl⟩
mutual
theorem wg{σ τ:Nat→Nat}{k:Nat}(h:∀i,i<k→σ i=τ i):∀x:AV,x.aT k=true→x.aP σ=x.aP τ
 | .ptr n off,hb=>by rw[AV.aT]at hb;rw[AV.aP,AV.aP,h n (by rw[Bool.not_eq_true',←Bool.not_eq_true,dk]at hb;omega)]
 | .own n xs,hb=>by rw[AV.aT]at hb;rw[AV.aP,AV.aP,h n (by rw[Bool.not_eq_true',←Bool.not_eq_true,dk]at hb;omega)]
 | .row n off len cap q,hb=>by rw[AV.aT]at hb;rw[AV.aP,AV.aP,h n (by rw[Bool.not_eq_true',←Bool.not_eq_true,dk]at hb;omega)]
 | .mp n,hb=>by rw[AV.aT]at hb;rw[AV.aP,AV.aP,h n (by rw[Bool.not_eq_true',←Bool.not_eq_true,dk]at hb;omega)]
 | .cH n,hb=>by rw[AV.aT]at hb;rw[AV.aP,AV.aP,h n (by rw[Bool.not_eq_true',←Bool.not_eq_true,dk]at hb;omega)]
 | .vec n o len L q,hb=>by rw[AV.aT]at hb;rw[AV.aP,AV.aP,h n (by rw[Bool.not_eq_true',←Bool.not_eq_true,dk]at hb;omega)]
 | .cQ n i j L q,hb=>by rw[AV.aT]at hb;rw[AV.aP,AV.aP,h n (by rw[Bool.not_eq_true',←Bool.not_eq_true,dk]at hb;omega)]
 | .agg cs,hb=>by rw[AV.aT]at hb;rw[AV.aP,AV.aP,ux h cs hb]
 | .bk cs,hb=>by rw[AV.aT]at hb;rw[AV.aP,AV.aP,ux h cs hb]
 | .fn f cs,hb=>by rw[AV.aT]at hb;rw[AV.aP,AV.aP,ux h cs hb]
 | .d x,_=>by rw[AV.aP,AV.aP]
 | .bE xs i off,_=>by rw[AV.aP,AV.aP]
 | .full xs,_=>by rw[AV.aP,AV.aP]
 | .hid c,_=>by rw[AV.aP,AV.aP]
 | .dead,_=>by rw[AV.aP,AV.aP]
theorem ux{σ τ:Nat→Nat}{k:Nat}(h:∀i,i<k→σ i=τ i):∀l:ak3 AV,AV.lS k l=true→AV.eN σ l=AV.eN τ l
 |[],_=>by rw[AV.eN,AV.eN]
 |x::l,hb=>by
  rw[AV.lS,akh]at hb;rw[AV.eN,AV.eN,wg h x hb.1,ux h l hb.2]
end
theorem Nq{σ τ:Nat→Nat}{k:Nat}(h:∀i,i<k→σ i=τ i)(B:aq)(hb:B.aT k=true):B.aP σ=B.aP τ:=by
 cases B with
 |cells cs=>rw[aq.aP,aq.aP,ux h cs (by rw[l0];exact hb)]
 |lp ls p as bd cs=>rw[aq.aP,aq.aP,ux h cs (by rw[l0];exact hb)]
 |it sn cs=>rw[aq.aP,aq.aP,ux h cs (by rw[l0];exact hb)]
 |vec e q cs=>
  rw[aq.aP,aq.aP]
  congr 1
  refine akK fun c hc=>ux h c ?_;simp only[aq.aT,akF]at hb;rw[l0,akF];exact hb c hc
 |_=>rfl
theorem Xj:∀(l:ak3 Nat)(b c i:Nat),i<l.length→rn l b i=rn l c i
 |[],b,c,i,h=>by simp at h
 |a::l,b,c,0,_=>by rw[rn,rn]
 |a::l,b,c,i+1,h=>by rw[rn,rn];exact Xj l b c i (by simpa using h)
def nN:ak3 Nat→Bool
 |[]=>true
 |a::l=> !l.any (·==a)&&nN l
theorem R6:∀{l:ak3 Nat},nN l=true→l.Nodup
 |[],_=>List.nodup_nil
 |a::l,h=>by
  rw[nN,akh,Bool.not_eq_true',←Bool.not_eq_true]at h;rw[List.nodup_cons];exact⟨fun hm=>h.1 (List.any_eq_true.2 ⟨a,hm,by simp⟩),R6 h.2⟩
theorem SX:∀(l:ak3 Nat)(h Bs:ak3 aq),l.map (fun j=>h[j]?)=Bs.map some→fB l Bs h=h
 |[],h,Bs,e=>by
  cases Bs with
  |nil=>rw[fB,akA]
  |cons=>simp at e
 |j::l,h,Bs,e=>by
  cases Bs with
  |nil=>simp at e
  |cons B Bs=>
   rw[akE,akE]at e;injection e with e1 e2;have hs:h.set j B=h:=by
     refine List.ext_getElem? fun m=> ?_;by_cases em:j=m
     ·subst em;rw[akI (akf.1 e1).1,e1]
     ·rw[akN em]
   rw[fB,hs];exact SX l h Bs e2
section
variable {P:ak6} {f:FuncId} {dF:ak3 AV} {H:ak3 aq} {l:ak3 Nat} {h:ak3 aq}
theorem Xw{l:ak3 Nat}{h H:ak3 aq}{σ:Nat→Nat}(hb:l.map (fun j=>h[j]?)=H.map fun B=>some (B.aP σ)):l.length=H.length∧(∀j∈l,j<h.length)∧∀(i j:Nat),l[i]?=some j→h[j]?=(H[i]?).map (aq.aP σ):=by
 have h1:l.length=H.length:=by simpa using congrArg List.length hb
 have key:∀(i j:Nat),l[i]?=some j→∃B,H[i]?=some B∧h[j]?=some (B.aP σ):=fun i j e=>by
  have a7:i<H.length:=by rw[←h1];exact(akf.1 e).1
  have:=congrArg (·[i]?) hb;simp only[akm,e,akj a7,Option.map_some,Option.some.injEq]at this;exact⟨_,akj a7,this⟩
 refine⟨h1,fun j hj=> ?_,fun i j e=> ?_⟩
 ·obtain⟨i,hi⟩:=List.mem_iff_getElem?.1 hj;obtain⟨B,_,h2⟩:=key i j hi;exact(akf.1 h2).1
 ·obtain⟨B,h2,h3⟩:=key i j e;rw[h2,h3];rfl
theorem bQ.lX{r:AV}{H':ak3 aq}(hc:bQ P f dF H fun r1 h1=>r1=r∧h1=H')(hd:nN l=true)(hb:l.map (fun j=>h[j]?)=H.map fun B=>some (B.aP (rn l h.length)))(hl:(dF.all (AV.aT H.length)&&H.all (aq.aT H.length))=true):
 bQ P f (dF.map (AV.aP (rn l h.length))) h fun r1 h1=>r1=r.aP (rn l h.length)∧h1=fB l (H'.map (aq.aP (rn l h.length))) h:=by
 rw[akh]at hl;obtain⟨h1,h2,h3⟩:=Xw hb;exact(hc.US (R6 hd) h2 h3 h1 hl.1 hl.2).mono fun r1 h1 ⟨r2,H2,⟨e1,e2⟩,e3,e4⟩=>by subst e1;subst e2;exact⟨e3,e4⟩
theorem bQ.rq{r:AV}(hc:bQ P f dF H fun r1 h1=>r1=r∧h1=H)(hd:nN l=true)(hb:l.map (fun j=>h[j]?)=H.map fun B=>some (B.aP (rn l 0)))(hl:(dF.all (AV.aT H.length)&&H.all (aq.aT H.length)&&r.aT H.length)=true)(e:ak3 aq):
 bQ P f (dF.map (AV.aP (rn l 0))) (h++e) fun r1 h1=>r1=r.aP (rn l 0)∧h1=h++e:=by
 rw[akh,akh]at hl;obtain⟨⟨l1,l2⟩,l3⟩:=hl;obtain⟨h1,h2,_⟩:=Xw hb;have M7:∀i,i<H.length→rn l (h++e).length i=rn l 0 i:=fun i hi=>Xj l _ _ i (by rw[h1];exact hi);have iH:H.map (fun B=>some (B.aP (rn l (h++e).length)))=H.map fun B=>some (B.aP (rn l 0)):=by
   refine akK fun B hB=> ?_;rw[akF]at l2;rw[Nq M7 B (l2 B hB)]
 have j9:l.map (fun j=>(h++e)[j]?)=H.map fun B=>some (B.aP (rn l (h++e).length)):=by
  rw[iH,←hb];refine akK fun j hj=> ?_;rw[akp (h2 j hj)]
 have:=hc.lX hd j9 (by rw[l1,l2];rfl);have ha:dF.map (AV.aP (rn l (h++e).length))=dF.map (AV.aP (rn l 0)):=by
  refine akK fun x hx=> ?_;rw[akF]at l1;exact wg M7 x (l1 x hx)
 rw[ha,wg M7 r l3]at this;refine this.mono fun r1 h1 ⟨e1,e2⟩=>⟨e1,?_⟩;rw[e2];refine SX l _ _ ?_;rw[j9,List.map_map];rfl
end
end Go.Proofs.YtpgmcallngdceaaGreatDoor
namespace Go.Proofs.YtpgmcallngdceaaGreatDoor
open Go.RowKit
def aq.vd:aq→Prop
 | .vec _ _ cs=>(∀f,cs.map (AV.eN f)=cs)∧∀m,cs.all (·.all (AV.aT m))=true
 |_=>True
theorem aio(f:Nat→Nat)(c:ak3 D):AV.eN f (c.map AV.d)=c.map AV.d:=by
 induction c with
 |nil=>simp [AV.eN]
 |cons x c ih=>simp only[akE,AV.eN,AV.aP,ih]
theorem abQ(xs:ak3 (ak3 D)):(∀f,(bq xs).map (AV.eN f)=bq xs)∧∀m,(bq xs).all (·.all (AV.aT m))=true:=by
 refine⟨fun f=> ?_,fun m=>by simp [bq,AV.aT]⟩;unfold bq;rw[List.map_map];exact akK fun c _=>aio f c
def VD:ak3 aq→Prop
 |[]=>True
 |B::l=>B.vd∧VD l
theorem pf:VD []:=trivial
theorem xE{e k:Nat}{xs:ak3 (ak3 D)}{l:ak3 aq}(h:VD l):VD (.vec e k (bq xs)::l):=⟨abQ xs,h⟩
theorem VD.mem:∀{l:ak3 aq},VD l→∀B∈l,B.vd
 |[],_,B,hB=>by cases hB
 |_::_,h,B,hB=>by
  rcases akJ.1 hB with rfl|hB
  ·exact h.1
  ·exact VD.mem h.2 B hB
def aq.pE(f:Nat→Nat):aq→aq
 | .vec e k cs=> .vec e k cs
 |B=>B.aP f
theorem Ua{f:Nat→Nat}{B:aq}(h:B.vd):B.pE f=B.aP f:=by
 cases B with
 |vec e k cs=>simp only[aq.pE,aq.aP];rw[h.1 f]
 |_=>rfl
theorem aak{f:Nat→Nat}{l:ak3 aq}(h:VD l):l.map (aq.pE f)=l.map (aq.aP f):=akK fun B hB=>Ua (h.mem B hB)
def aq.tQ(m:Nat):aq→Bool
 | .vec .. =>true
 |B=>B.aT m
theorem Yi{m:Nat}{B:aq}(h:B.vd)(hl:B.tQ m=true):B.aT m=true:=by
 cases B with
 |vec e k cs=>exact h.2 m
 |_=>exact hl
theorem acw{m:Nat}{l:ak3 aq}(h:VD l)(hl:l.all (aq.tQ m)=true):l.all (aq.aT m)=true:=by
 rw[akF]at hl ⊢;exact fun B hB=>Yi (h.mem B hB) (hl B hB)
theorem agU{f:Nat→Nat}{l:ak3 aq}(h:VD l):(l.map fun B=>some (B.pE f))=l.map fun B=>some (B.aP f):=akK fun B hB=>congrArg some (Ua (h.mem B hB))
inductive In
 |none
 |bit (x:AV)
 |eq (x:AV)
 |el (xs:List (List D)) (i:Int)
 |lt (z:Int) (n:Nat)
 |len (xs:List (List D))
 |sub (xs:List (List D)) (lo:Int) (hi:Option Int) (k:Nat)
 |app (xs ys:List (List D)) (len k ct:Nat)
 |nz (b:Int)
 |nn (b:Int)
 |str (b:ByteArray) (lo hi:Int)
 |cat (n:Nat)
 |pr (p:Prop)
 |sd (p:Sd)
 |JR (xs:List (List D))
 |Hf (c:List D) (z:Int) (n:Nat)
 |ch (b:ByteArray) (i:Int)
 |call (f:FuncId) (args:List AV)
 |jd (f:FuncId) (args:List AV) (h:List aq)
 |Fp (c:fQ) (args:List AV)
 |lX (f:FuncId) (args:List AV) (h:List aq)
def MT(P:ak6)(c:fQ)(args:ak3 AV)(r:AV):Prop:=∃g cs,c= .fn g cs∧aG P g (args++cs.map fQ.av) (·=r)
inductive bZ
 |none
 |bit (b:Bool)
 |Dz
 |eq (y:AV)
 |el (c:List D)
 |ok
 |nat (n:Nat)
 |list (ys:List (List D))
 |Ss (ys:List (List D)) (n:Nat)
 |byte (c:UInt8)
 |bytes (s:ByteArray)
 |one (d:D)
 |va (a:VA)
 |ret (r:AV)
 |Na (r:AV) (h:List aq)
 |L9 (l:List Nat) (dF:List AV) (H:List aq) (r:AV) (H':List aq)
 |rq (l:List Nat) (dF:List AV) (H:List aq) (r:AV)
 |BO (l:List Nat) (dF:List AV) (H:List aq) (r:AV) (H':List aq)
inductive OK(P:Program):In→bZ→Prop
 |none {o:bZ}:OK P .none o
 |bit {e b:Bool} (h:e=b):OK P (.bit (.d (.v (.bool e)))) (.bit b)
 |Dz:OK P (.bit (.d (.v undef))) .Dz
 |eq {x y:AV} (h:x=y):OK P (.eq x) (.eq y)
 |el {xs:List (List D)} {i:Int} {c:List D} (h0:0≤i) (h:xs[i.toNat]?=some c):OK P (.el xs i) (.el c)
 |lt {z:Int} {n:Nat} (h0:0≤z) (h:z<n):OK P (.lt z n) .ok
 |len {xs:List (List D)} {n:Nat} (h:xs.length=n):OK P (.len xs) (.nat n)
 |sub {xs ys:List (List D)} {lo hi:Int} {k:Nat} (h0:0≤lo) (h1:lo.toNat≤hi.toNat) (h2:0≤hi) (h3:hi.toNat≤xs.length) (hk:∀c∈xs,c.length=k) (h:(xs.take hi.toNat).drop lo.toNat=ys):OK P (.sub xs lo (some hi) k) (.list ys)
 |FA {xs ys:List (List D)} {lo:Int} {k:Nat} (h0:0≤lo) (h1:lo.toNat≤xs.length) (hk:∀c∈xs,c.length=k) (h:xs.drop lo.toNat=ys):OK P (.sub xs lo .none k) (.list ys)
 |app {xs ys zs:List (List D)} {len k ct n:Nat} (hl:len=xs.length) (hx:∀c∈xs,c.length=k) (hy:∀c∈ys,c.length=k) (hm:xs.length+ys.length≤maxLen) (hb:(xs.length+ys.length)*ct≤140737488355328) (hz:xs++ys=zs) (hn:xs.length+ys.length=n):OK P (.app xs ys len k ct) (.Ss zs n)
 |nz {b:Int} (h:b≠0):OK P (.nz b) .ok
 |nn {b:Int} (h:0≤b):OK P (.nn b) .ok
 |str {b:ByteArray} {lo hi:Int} (h0:0≤lo) (h1:lo.toNat≤hi.toNat) (h2:0≤hi) (h3:hi.toNat≤b.size):OK P (.str b lo hi) .ok
 |ch {b:ByteArray} {i:Int} {c:UInt8} (h0:0≤i) (h:b[i.toNat]?=some c):OK P (.ch b i) (.byte c)
 |cat {n:Nat} (h:n≤maxLen):OK P (.cat n) .ok
 |pr {p:Prop} (a:VA) (h:p):OK P (.pr p) (.va a)
 |sd {p:Sd} {o:bZ} (h:p.ok):OK P (.sd p) o
 |JR {xs:List (List D)} {s:ByteArray} (h:∃ns:List Int,xs=ns.map (fun n=>[.v (.int .u8 n)])∧s=⟨(ns.map fun n=>UInt8.ofNat n.toNat).toArray⟩):OK P (.JR xs) (.bytes s)
 |Hf {c:List D} {z:Int} {n:Nat} {d:D} (h0:0≤z) (h1:z<n) (h:c[z.toNat]?=some d):OK P (.Hf c z n) (.one d)
 |call {f:FuncId} {args:List AV} {r:AV} (h:aG P f args (·=r)):OK P (.call f args) (.ret r)
 |Fp {c:fQ} {args:List AV} {r:AV} (h:MT P c args r):OK P (.Fp c args) (.ret r)
 |lX {f:FuncId} {lC dF:List AV} {h H H':List aq} {l:List Nat} {r:AV} (ha:lC=dF.map (AV.aP (rn l h.length))) (hd:nN l=true) (hb:l.map (fun j=>h[j]?)=H.map fun B=>some (B.aP (rn l h.length))) (hl:(dF.all (AV.aT H.length)&&H.all (aq.aT H.length))=true)
  (hc:bQ P f dF H fun r1 h1=>r1=r∧h1=H'):OK P (.lX f lC h) (.L9 l dF H r H')
 |WY {f:FuncId} {lC dF:List AV} {h H H':List aq} {l:List Nat} {r:AV} (mX:VD H) (hv:VD H') (ha:lC=dF.map (AV.aP (rn l h.length))) (hd:nN l=true) (hb:l.map (fun j=>h[j]?)=H.map fun B=>some (B.pE (rn l h.length))) (hl:(dF.all (AV.aT H.length)&&H.all (aq.tQ H.length))=true)
  (hc:bQ P f dF H fun r1 h1=>r1=r∧h1=H'):OK P (.lX f lC h) (.BO l dF H r H')
 |rq {f:FuncId} {lC dF:List AV} {h H:List aq} {l:List Nat} {r:AV} (ha:lC=dF.map (AV.aP (rn l 0))) (hd:nN l=true) (hb:l.map (fun j=>h[j]?)=H.map fun B=>some (B.aP (rn l 0))) (hl:(dF.all (AV.aT H.length)&&H.all (aq.aT H.length)&&r.aT H.length)=true)
    (hc:bQ P f dF H fun r1 h1=>r1=r∧h1=H):OK P (.lX f lC h) (.rq l dF H r)
 |jd {f:FuncId} {args:List AV} {h h':List aq} {r:AV} (hc:bQ P f args h fun r1 h1=>r1=r∧h1=h'):OK P (.jd f args h) (.Na r h')
def xY(P:ak6)(t:TypeId)(cs:ak3 AV)(off:Nat):ak5 AV:=
 match kW P t,eJ P t with
 |some true,some k=>bif cf (off+k) cs.length then some (.agg ((cs.drop off).take k))else none
 |some false,some _=>cs[off]?
 |_,_=>none
def vD(h:ak3 aq)(p:AV):ak5 (ak3 AV×Nat):=
 match p with
 | .ptr n off=>match h[n]? with
   |some (.cells cs)=>some (cs,off)
   |_=>none
 | .bE xs i off=>match xs[i]? with
   |some c=>some (c.map .d,off)
   |none=>none
 |_=>none
def L8(x:AV)(i:ak5 Int)(k:Nat)(a:bZ):ak5 (AV×In):=
 match x.er,i,a with
 |some xs,some z, .el c=>bif c.length==k then some (.bE [c] 0 0, .el xs z)else none
 |_,_,_=>none
def Nt(P:ak6)(T:TypeId)(x i:AV)(a:bZ):ak5 (AV×In):=
 match dG P T with
 |some (_,k)=>
  match x with
  | .row n off len _ k'=>match i.int? with
    |some z=>bif k'==k then some (.ptr n (off+z.toNat*k), .lt z len)else none
    |none=>none
  |x=>L8 x i.int? k a
 |none=>match sU P T,x,i.int? with
  |some (n,_,k), .ptr b off,some z=>some (.ptr b (off+z.toNat*k), .lt z n)
  |some (n,_,k), .bE [c] 0 0,some z=>match a with
   | .one d=>bif k==1 then some (.bE [[d]] 0 0, .Hf c z n)else none
   |_=>none
  |_,_,_=>none
def Lj(P:ak6)(T:TypeId)(x:AV)(a:bZ):ak5 (AV×In):=
 match x with
 | .d (.v (.string s))=>bif fK P T then some (.d (.v (.int .i64 s.size)), .none)else none
 | .row _ _ len _ _=>bif (dG P T).isSome then some (.d (.v (.int .i64 len)), .none)else none
 |x=>match x.er,a with
  |some xs, .nat n=>bif (dG P T).isSome then some (.d (.v (.int .i64 n)), .len xs)else none
  |_,_=>none
def oN(l:ak5 Int)(d:Nat):Nat:=match l with|some z=>z.toNat|none=>d
def Dm(ρ:Operand→AV):ak5 Operand→ak5 (ak5 Int)
 |none=>some none
 |some y=>match (ρ y).int? with
  |some z=>some (some z)
  |none=>none
def Lq(P:ak6)(T:TypeId)(ρ:Operand→AV)(x:AV)(lo hi mx:ak5 Operand)(a:bZ):ak5 (AV×In):=
 match mx with
 |none=>match Dm ρ lo,Dm ρ hi with
  |some l,some h=>match x with
   | .d (.v (.string b))=>bif fK P T then some (.d (.v (.string (b.extract (oN l 0) (oN h b.size)))), .str b (l.getD 0) (h.getD b.size))else none
   | .ptr n off=>match sU P T,l,h with
     |some (m,_,k),none,none=>bif cf m 4096&& !cf m 0 then some (.row n off m m k, .none)else none
     |_,_,_=>none
   |x=>match x.er,dG P T,a with
    |some xs,some (_,k), .list ys=>some (.d (.sl ys), .sub xs (l.getD 0) h k)
    |_,_,_=>none
  |_,_=>none
 |some m=>match lo,hi,ρ m with
  |none,some y, .d (.v (.int _ 0))=>match x.er,dG P T,ρ y,a with
   |some xs,some (_,k), .d (.v (.int _ 0)), .list _=>some (.full [], .sub xs 0 (some 0) k)
   |_,_,_,_=>none
  |_,_,_=>none
def Ik(h:ak3 aq)(k:Nat)(x:AV):ak5 (ak3 (ak3 D)):=
 match x with
 | .row n off len _ k'=>match h[n]? with
   |some (.cells cs)=>match lY ((cs.drop off).take (len*k))with
    |some ds=>bif k'==k&&cf (off+len*k) cs.length&&((cs.drop off).take (len*k)).all AV.ji then some (mh k len ds)else none
    |none=>none
   |_=>none
 |x=>x.er
def OX(P:ak6)(T:TypeId)(h:ak3 aq)(x y:AV)(a:bZ):ak5 (AV×ak3 aq×In):=
 match dG P T,a with
 |some (e,k), .Ss zs n'=>match gH P e,rR P e with
  |some z,some ct=>bif cf 1 k&&z.cells.toList.length==k then
   match Ik h k y with
   |some ys=>match x with
    | .own n xs=>match h[n]? with
      |some (.front e' k' len)=>bif e'==e&&k'==k then some (.own n zs,h.set n (.front e k n'), .app xs ys len k ct)else none
      |_=>none
    | .d (.v (.slice none 0 0))=>some (.own h.length zs,h++[.front e k n'], .app [] ys 0 k ct)
    | .full xs=>some (.own h.length zs,h++[.front e k n'], .app xs ys xs.length k ct)
    |_=>none
   |none=>none
   else none
  |_,_=>none
 |_,_=>none
def Kz(P:ak6)(T:TypeId)(ps:ak3 (Nat×AV)):ak5 AV:=
 match MH P T,gH P T with
 |some places,some z=>match nU places (z.cells.toList.map fun u=> .d (.v u)) ps with
  |some cs=>bif (ps.all fun p=>p.2.gZ)&&z.cells.toList.all Value.oneCell' then some (.agg cs)else none
  |none=>none
 |_,_=>none
def MC(P:ak6)(T:TypeId)(len:Nat)(ps:ak3 (Nat×AV)):ak5 AV:=
 match dG P T with
 |some (e,k)=>match gH P e with
  |some z=>match nU (tJ k 0 len) (rK len (z.cells.toList.map fun u=> .d (.v u))) ps with
   |some cs=>match lY cs with
    |some ds=>bif cf 1 k&&cf (len*k) 16777216&&z.cells.toList.length==k&&z.cells.toList.all Value.oneCell'&&(ps.all fun p=>p.2.gZ)then some (.full (mh k len ds))else none
    |none=>none
   |none=>none
  |none=>none
 |none=>none
def HV(P:ak6)(T:TypeId)(op:BinOp)(x y:AV):ak5 (AV×In):=
 match x,y with
 | .d (.v (.int k a)), .d (.v (.int k' b))=>
   match Lx op k a b with
   |some v=>bif uX k k' then some (.d (.v v), .nz b)else none
   |none=>match NU op k a b with
    |some v=>some (.d (.v v), .nn b)
    |none=>match MY op k a b with
     |some v=>bif uX k k' then some (.d (.v v), .none)else none
     |none=>none
 | .d (.v (.string a)), .d (.v (.string b))=>match NO op a b with
   |some v=>some (.d (.v v), .none)
   |none=>match op with
    | .add=>some (.d (.v (.string (a++b))), .cat (a.size+b.size))
    |_=>none
 | .d (.v (.bool a)), .d (.v (.bool b))=>match OW op a b with
   |some v=>bif zA P T then some (.d (.v v), .none)else none
   |none=>none
 | .agg xs, .agg ys=>match J9 P T xs ys with
   |some b=>match xA op b with
    |some v=>some (.d (.v v), .none)
    |none=>none
   |none=>none
 |_,_=>none
def JB(P:ak6)(src dst:TypeId)(x:AV)(a:bZ):ak5 (AV×In):=
 match x with
 | .d (.v (.int _ n))=>match qZ P src,qZ P dst with
   |some _,some k=>some (.d (.v (.int k (k.wrap n))), .none)
   |_,_=>none
 | .d (.v (.string b))=>bif fK P src&&fK P dst then some (.d (.v (.string b)), .none)else none
 |x=>match x.er,dG P src,a with
  |some xs,some (e,_), .bytes s=>bif Ca P e&&fK P dst then some (.d (.v (.string s)), .JR xs)else none
  |_,_,_=>none
def I6(P:ak6)(T:TypeId)(x:AV)(f:Nat):ak5 AV:=
 match qC P T f,x with
 |some (off,k,true), .agg cs=>bif cf (off+k) cs.length then some (.agg ((cs.drop off).take k))else none
 |some (off,_,false), .agg cs=>cs[off]?
 |_,_=>none
def Ic(h:ak3 aq):ak5 AV→ak5 (AV×ak3 aq×In)
 |some x=>some (x,h, .none)
 |none=>none
def zR(h:ak3 aq):ak5 (AV×In)→ak5 (AV×ak3 aq×In)
 |some (x,i)=>some (x,h,i)
 |none=>none
mutual
def AV.nrm:AV→AV
 | .full xs=> .d (.sl xs)
 | .d (.v (.slice none 0 0))=> .d (.sl [])
 | .agg cs=> .agg (AV.xS cs)
 | .bk cs=> .bk (AV.xS cs)
 |x=>x
def AV.xS:ak3 AV→ak3 AV
 |[]=>[]
 |x::l=>x.nrm::AV.xS l
end
mutual
def AV.cap:AV→ak5 fQ
 | .d x=>some (.d x)
 | .own _ xs=>some (.d (.sl xs))
 | .full xs=>some (.d (.sl xs))
 | .bE xs i off=>match xs[i]? with
   |some c=>some (.bE c off)
   |none=>none
 | .fn f cs=>match AV.y8 cs with
   |some l=>some (.fn f l)
   |none=>none
 | .hid c=>some c
 |_=>none
def AV.y8:ak3 AV→ak5 (ak3 fQ)
 |[]=>some []
 |x::l=>match x.cap,AV.y8 l with
  |some c,some l=>some (c::l)
  |_,_=>none
end
def AV.CV:AV→AV
 | .fn f cs=>match AV.y8 cs with
   |some l=> .hid (.fn f l)
   |none=> .fn f cs
 |x=>x
def AV.arg(x:AV):AV:=((x.bA 0).nrm).CV
def AV.kZ(x:AV):AV:=(x.bA 0).nrm
def sdI:Sd→In
 | .no=> .none
 |p=> .sd p
def xR:ak5 (AV×ak3 aq×Sd)→ak5 (AV×ak3 aq×In)
 |some (x,h,p)=>some (x,h,sdI p)
 |none=>none
def xd(P:ak6)(op:Op)(ρ:Operand→AV)(h:ak3 aq)(a:bZ):ak5 (AV×ak3 aq×In):=
 match op with
 | .move x| .assign x=>some (ρ x,h, .none)
 | .pick c x y=>match a with
   | .bit b=>some (bif b then ρ x else ρ y,h, .bit (ρ c))
   |_=>none
 | .alloc e=>match gH P e with
   |some z=>some (.ptr h.length 0,h++[aq.cells (z.cells.toList.map fun u=> .d (.v u))], .none)
   |none=>none
 | .box _ x=>bif (ρ x).gZ then some (.ptr h.length 0,h++[aq.cells (ρ x).cells], .none)else none
 | .load t p=>match vD h (ρ p)with
   |some (cs,off)=>match xY P t cs off with
    |some x=>some (x,h, .none)
    |none=>none
   |none=>none
 | .store t p x=>match ρ p with
   | .ptr n off=>match h[n]? with
     |some (.cells cs)=>match eJ P t with
      |some k=>bif k==(ρ x).cells.length&&(ρ x).gZ&&cf (off+(ρ x).cells.length) cs.length then some (.d (.v undef),h.set n (.cells (fO cs off (ρ x).cells)), .none)else none
      |none=>none
     |_=>none
   |_=>none
 | .nilCheck x=>match ρ x with
   | .ptr n off=>some (.ptr n off,h, .none)
   | .bE xs i off=>some (.bE xs i off,h, .none)
   | .fn f cs=>some (.fn f cs,h, .none)
   |_=>none
 | .fieldAddr S x f=>match qC P S f with
   |some (fo,_,_)=>match ρ x with
    | .ptr n off=>some (.ptr n (off+fo),h, .none)
    | .bE xs i off=>some (.bE xs i (off+fo),h, .none)
    |_=>none
   |none=>none
 | .field T x f=>Ic h (I6 P T (ρ x) f)
 | .indexAddr T x i=>zR h (Nt P T (ρ x) (ρ i) a)
 | .index T x i=>match ρ x,(ρ i).int?,a with
   | .d (.v (.string b)),some z, .byte c=>bif fK P T then some (.d (.v (.int .u8 c.toNat)),h, .ch b z)else none
   |_,_,_=>none
 | .build T ps=>Ic h (Kz P T (ps.toList.map fun p=>(p.1,ρ p.2)))
 | .buildSlice T len ps=>Ic h (MC P T len (ps.toList.map fun p=>(p.1,ρ p.2)))
 | .slice T x lo hi mx=>zR h (Lq P T ρ (ρ x) lo hi mx a)
 | .extract x i=>match ρ x with
   | .bk cs=>match cs[i]? with
     |some c=>some (c,h, .none)
     |none=>none
   |_=>none
 | .makeFunc (.func f) first cY=>match first.toList with
   |[]=>some (.fn f (cY.toList.map ρ),h, .none)
   |_=>none
 | .binOp op T x y _=>zR h (HV P T op (ρ x) (ρ y))
 | .unOp op _ x=>match ρ x with
   | .d (.v u)=>match F1 op u with
     |some v=>some (.d (.v v),h, .none)
     |none=>none
   |_=>none
 | .convert s t x=>zR h (JB P s t (ρ x) a)
 | .call c=>match c.callee with
   | .builtin .len=>match c.args.toList,c.argTypes.toList with
     |[x],[T]=>zR h (Lj P T (ρ x) a)
     |_,_=>none
   | .builtin .append=>match c.args.toList,c.argTypes.toList with
     |[x,y],[T,U]=>bif (dG P U).isSome then OX P T h (ρ x) (ρ y) a else none
     |_,_=>none
   | .builtin .max=>match Bp true (c.args.toList.map ρ)with
     |some (k,a)=>some (.d (.v (.int k a)),h, .none)
     |none=>none
   | .builtin .min=>match Bp false (c.args.toList.map ρ)with
     |some (k,a)=>some (.d (.v (.int k a)),h, .none)
     |none=>none
   | .value f=>match ρ f,a with
     | .fn g cY, .ret r=>bif ((c.args.toList.map ρ++cY).map AV.arg).all (AV.aT 0)&&r.aT 0 then some (r,h, .call g ((c.args.toList.map ρ++cY).map AV.arg))else none
     | .fn g cY, .Na r h'=>some (r,h', .jd g (c.args.toList.map ρ++cY) h)
     | .fn g cY, .L9 l _ _ r H'=>some (r.aP (rn l h.length),fB l (H'.map (aq.aP (rn l h.length))) h, .lX g ((c.args.toList.map ρ++cY).map AV.kZ) h)
     | .fn g cY, .BO l _ _ r H'=>some (r.aP (rn l h.length),fB l (H'.map (aq.pE (rn l h.length))) h, .lX g ((c.args.toList.map ρ++cY).map AV.kZ) h)
     | .fn g cY, .rq l _ _ r=>some (r.aP (rn l 0),h, .lX g ((c.args.toList.map ρ++cY).map AV.kZ) h)
     | .hid q, .ret r=>bif ((c.args.toList.map ρ).map AV.arg).all (AV.aT 0)&&r.aT 0 then some (r,h, .Fp q ((c.args.toList.map ρ).map AV.arg))else none
     |_,_=>none
   |_=>none
 |op=>xR (nL P op ρ h)
theorem Jc:∀l,AV.xS l=l.map AV.nrm
 |[]=>by simp [AV.xS]
 |x::l=>by simp [AV.xS,Jc l]
theorem aN.nrm{G:Gh}{w:ak8}{u:ak7}{x:AV}(h:aN G w u x):aN G w u x.nrm:=by
 have fq:∀(vs:Array ak7)(cs:ak3 AV),(∀(i:Nat)(u:ak7)(c:AV),vs[i]?=some u→cs[i]?=some c→aN G w u c.nrm)→∀(i:Nat)(u:ak7)(c:AV),vs[i]?=some u→(AV.xS cs)[i]?=some c→aN G w u c:=by
  intro vs cs ih i u c hu hc;rw[Jc,akm]at hc;cases hx:cs[i]? with
  |none=>rw[hx]at hc;cases hc
  |some x=>rw[hx]at hc;cases hc;exact ih i u x hu hx
 induction h with
 |agg vs cs hl _ ih=>rw[AV.nrm];exact .agg vs _ (by rw[Jc,akk];exact hl) (fq vs cs ih)
 |bk vs cs hl _ ih=>rw[AV.nrm];exact .bk vs _ (by rw[Jc,akk];exact hl) (fq vs cs ih)
 |full xs hp hf=>rw[AV.nrm];exact .d hp
 | @d u x h=>
   by_cases hx:x= .v (.slice none 0 0)
   ·subst hx;cases h with|v=>simp only[AV.nrm];exact .d IL
   ·have:(AV.d x).nrm= .d x:=by
     unfold AV.nrm;split<;>simp_all
    rw[this];exact .d h
 |own n xs h hp hle hf=>simp only[AV.nrm];exact .own n xs h hp hle hf
 |ptr n off h=>simp only[AV.nrm];exact .ptr n off h
 |bE xs i off b o u x hx hS hu=>simp only[AV.nrm];exact .bE xs i off b o u x hx hS hu
 |row n off len cap k h hl hm=>simp only[AV.nrm];exact .row n off len cap k h hl hm
 |fn f vs cs hl h=>simp only[AV.nrm];exact .fn f vs cs hl h
 |mp n h=>simp only[AV.nrm];exact .mp n h
 |cH n h=>simp only[AV.nrm];exact .cH n h
 |vec n o len L k h hs hL hf=>simp only[AV.nrm];exact .vec n o len L k h hs hL hf
 |cQ n i j L k h hs hL hf=>simp only[AV.nrm];exact .cQ n i j L k h hs hL hf
 |hid h h1=>simp only[AV.nrm];exact .hid h h1
 |dead u=>simp only[AV.nrm];exact .dead u
theorem SE:∀(cs:ak3 AV)(l:ak3 fQ),AV.y8 cs=some l→cs.length=l.length∧∀(i:Nat)(x:AV)(c:fQ),cs[i]?=some x→l[i]?=some c→x.cap=some c
 |[],l,h=>by
  unfold AV.y8 at h;cases h;exact⟨rfl,fun i x c hx=>by simp at hx⟩
 |x::cs,l,h=>by
  unfold AV.y8 at h;split at h
  ·next c l' e1 e2=>
   cases h
   obtain⟨h1,h2⟩:=SE cs l' e2;refine⟨by simp [h1],fun i y d hy hd=> ?_⟩
   match i with
   |0=>simp only[List.getElem?_cons_zero,Option.some.injEq]at hy hd;subst hy;subst hd;exact e1
   |i+1=>exact h2 i y d (by simpa using hy) (by simpa using hd)
  ·cases h
theorem aN.cap{G:Gh}{w:ak8}{u:ak7}{x:AV}(h:aN G w u x):∀c,x.cap=some c→nu G.S w u c:=by
 induction h with
 |d h=>intro c hc;simp only[AV.cap]at hc;cases hc;exact .d h
 |own n xs h hp hle hf=>intro c hc;simp only[AV.cap]at hc;cases hc;exact .d hp
 |full xs hp hf=>intro c hc;simp only[AV.cap]at hc;cases hc;exact .d hp
 |bE xs i off b o u x hx hS hu=>
  intro c hc;simp only[AV.cap,hx]at hc;cases hc
  exact .bE x off b o u hS hu
 |fn f vs cs hl h ih=>
  intro c hc;simp only[AV.cap]at hc;split at hc
  ·next l e=>
   cases hc
   obtain⟨h1,h2⟩:=SE cs l e;refine .fn f vs l (hl.trans h1) fun i v d hv hd=> ?_;have a7:i<cs.length:=by rw[h1];exact(akf.1 hd).1
   exact ih i v _ hv (akj a7) d (h2 i _ d (akj a7) hd)
  ·cases hc
 |hid h h1=>intro c hc;simp only[AV.cap]at hc;cases hc;exact h
 |agg=>intro c hc;simp [AV.cap]at hc
 |bk=>intro c hc;simp [AV.cap]at hc
 |ptr=>intro c hc;simp [AV.cap]at hc
 |row=>intro c hc;simp [AV.cap]at hc
 |mp=>intro c hc;simp [AV.cap]at hc
 |cH=>intro c hc;simp [AV.cap]at hc
 |vec=>intro c hc;simp [AV.cap]at hc
 |cQ=>intro c hc;simp [AV.cap]at hc
 |dead=>intro c hc;simp [AV.cap]at hc
theorem AV.Le.CV(x:AV):AV.Le x x.CV:=fun G w u h=>by
 unfold AV.CV;split
 ·next f cs=>
  split
  ·next l e=>
   have:=h.cap (.fn f l) (by simp only[AV.cap,e]);cases h with|fn=>exact .hid this rfl
  ·exact h
 ·exact h
theorem AV.Le.arg(x:AV):AV.Le x x.arg:=fun _ _ _ h=>AV.Le.CV _ _ _ _ (h.bA 0).nrm
theorem bQ.args{P:ak6}{f:FuncId}{as:ak3 AV}{h:ak3 aq}{K:AV→ak3 aq→Prop}(hc:bQ P f as h K)(bs:ak3 AV)(hl:as.length=bs.length)(hle:∀(i:Nat)(c d:AV),bs[i]?=some c→as[i]?=some d→AV.Le c d):bQ P f bs h K:=
 ⟨hc.1,fun G w vs hi hs hr=>hc.2 G w vs hi (hs.trans hl.symm) fun i u d hu hd=>by
  have a7:i<bs.length:=by rw[←hl];exact(akf.1 hd).1
  exact hle i _ d (akj a7) hd G w u (hr i u _ hu (akj a7))⟩
theorem bQ.U0{P:ak6}{f:FuncId}{as:ak3 AV}{h:ak3 aq}{K:AV→ak3 aq→Prop}(hc:bQ P f (as.map AV.arg) h K):bQ P f as h K:=
 hc.args as (by rw[akk]) fun i c d hc hd=>by
  rw[akm,hc]at hd;cases hd;exact AV.Le.arg c
theorem AV.Le.kZ(x:AV):AV.Le x x.kZ:=fun _ _ _ h=>(h.bA 0).nrm
theorem bQ.G4{P:ak6}{f:FuncId}{as:ak3 AV}{h:ak3 aq}{K:AV→ak3 aq→Prop}(hc:bQ P f (as.map AV.kZ) h K):bQ P f as h K:=
 hc.args as (by rw[akk]) fun i c d hc hd=>by
  rw[akm,hc]at hd;cases hd;exact AV.Le.kZ c
theorem ahf(l:ak3 fQ):(l.map fQ.av).all (AV.aT 0)=true:=by
 rw[akF];intro x hx;obtain⟨c,_,rfl⟩:=List.mem_map.1 hx;cases c<;>rfl
theorem MT.use{P:ak6}{q:fQ}{args:ak3 AV}{r:AV}{h:ak3 aq}{C:AV→ak3 aq→Prop}(hc:MT P q (args.map AV.arg) r)(ha:(args.map AV.arg).all (AV.aT 0)=true)(hr:r.aT 0=true)(hC:C r h):∃g cs,q= .fn g cs∧bQ P g (args++cs.map fQ.av) h C:=by
 obtain⟨g,cs,rfl,hc⟩:=hc;refine⟨g,cs,rfl,bQ.args (hc.use (h:=h) (C:=C) (by rw[List.all_append,ha,ahf];rfl) hr hC) _ (by simp) fun i c d h1 h2=> ?_⟩;by_cases hi:i<args.length
 ·rw[akp hi]at h1;rw[akp (by simpa using hi),akm,h1]at h2;cases h2;exact AV.Le.arg c
 ·rw[akv (by omega)]at h1;rw[akv (by simpa using hi),akk,h1]at h2;cases h2;exact AV.Le.refl c
theorem dt{α:Type}{b:Bool}{x y:α}(h:(bif b then some x else none)=some y):b=true∧x=y:=by
 cases b with
 |true=>exact⟨rfl,aky h⟩
 |false=>cases h
theorem mP{α:Type}{b:Bool}{x:ak5 α}{y:α}(h:(bif b then x else none)=some y):b=true∧x=some y:=by
 cases b with
 |true=>exact⟨rfl,h⟩
 |false=>cases h
section
variable {P:ak6} {ρ:Operand→AV} {h h':ak3 aq} {a:bZ} {i:In} {x:AV} {C:AV→ak3 aq→Prop}
theorem OK.FR{x:AV}{b:Bool}(h:OK P (.bit x) (.bit b)):x= .d (.v (.bool b)):=by
 cases h with|bit h=>subst h;rfl
theorem O1{t:TypeId}{p:AV}{cs:ak3 AV}{off:Nat}{K:AV→Prop}(h1:vD h p=some (cs,off))(h2:xY P t cs off=some x)(hK:K x):ml P t h p K:=by
 have key:(match kW P t,eJ P t with
     |some true,some k=>dZ (cf (off+k) cs.length) (K (.agg ((cs.drop off).take k)))
     |some false,some _=>match cs[off]? with
      |some c=>K c
      |none=>False
     |_,_=>False):=by
  unfold xY at h2;split at h2
  ·next k e1 e2=>
   obtain⟨h3,rfl⟩:=dt h2;exact bO.2 ⟨h3,hK⟩
  ·next k e1 e2=>rw[h2];exact hK
  ·cases h2
 unfold ml qO;unfold vD at h1;split at h1
 ·split at h1
  ·next b7 e=>cases h1;simp only[e];exact key
  ·cases h1
 ·split at h1
  ·next c e=>cases h1;simp only[e];exact key
  ·cases h1
 ·cases h1
theorem agy{y:AV}{z:ak5 Int}{k:Nat}(h1:L8 y z k a=some (x,i))(b4:OK P i a):∃xs w c,y.er=some xs∧z=some w∧0≤w∧xs[w.toNat]?=some c∧c.length=k∧x= .bE [c] 0 0:=by
 unfold L8 at h1;split at h1
 ·next xs w c hx=>
  obtain⟨hk,he⟩:=dt h1;cases he
  cases b4 with
  |el h0 hc=>exact⟨_,_,_,hx,rfl,h0,hc,by simpa using hk,rfl⟩
 ·cases h1
theorem ahS{T:TypeId}{y z:AV}{K:AV→Prop}(h1:Nt P T y z a=some (x,i))(b4:OK P i a)(hK:K x):qP P T y z K:=by
 unfold Nt at h1;unfold qP;cases hT:dG P T with
 |some p=>
  obtain⟨e,k⟩:=p;simp only[hT]at h1 ⊢;cases y with
  |row n off len cap k'=>
   simp only at h1 ⊢;split at h1
   ·next w hw=>
    obtain⟨hk,he⟩:=dt h1;cases he
    cases b4 with|lt h0 hl=>simp only[hw];exact bO.2 ⟨hk,h0,hl,hK⟩
   ·cases h1
  |_=>
   obtain⟨xs,w,c,e1,e2,e3,e4,e5,rfl⟩:=agy h1 b4;simp only[e1,e2,e4,e5];exact⟨e3,trivial,hK⟩
 |none=>
  simp only[hT]at h1 ⊢;split at h1
  ·next n e k b off w hA hw=>
   cases h1
   simp only[hA,hw];cases b4 with|lt h0 hl=>exact⟨h0,hl,hK⟩
  ·next n e k c w hA hw=>
   split at h1
   ·next d=>
    obtain⟨hb,he⟩:=dt h1;cases he;simp only[hA,hw];cases b4 with|Hf h0 hl h=>exact bO.2 ⟨hb,h0,hl,by simp only[List.getElem?_cons_zero,akz,h];exact hK⟩
   ·cases h1
  ·cases h1
theorem agd{T:TypeId}{y:AV}{K:Nat→Prop}{C:AV→Prop}(h1:Lj P T y a=some (x,i))(b4:OK P i a)(hK:C x)(hc:∀n:Nat,C (.d (.v (.int .i64 n)))→K n):qE P T y K:=by
 unfold Lj at h1;unfold qE;split at h1
 ·obtain⟨hb,he⟩:=dt h1;cases he;exact bO.2 ⟨hb,hc _ hK⟩
 ·obtain⟨hb,he⟩:=dt h1;cases he;exact bO.2 ⟨hb,hc _ hK⟩
 ·next n1 n2=>
  split at h1
  ·next xs n hx=>
   obtain⟨hb,he⟩:=dt h1;cases he;cases b4 with
   |len hl=>
    subst hl;split
    ·next s=>exact absurd rfl (n1 s)
    ·next a b c d e=>exact absurd rfl (n2 a b c d e)
    ·simp only[hx];exact bO.2 ⟨hb,hc _ hK⟩
  ·cases h1
theorem aib{y:ak5 Operand}{l:ak5 Int}(h1:Dm ρ y=some l):(y=none∧l=none)∨∃o z,y=some o∧l=some z∧(ρ o).int?=some z:=by
 unfold Dm at h1;cases y with
 |none=>cases h1;exact .inl ⟨rfl,rfl⟩
 |some o=>
  simp only at h1;split at h1
  ·next z hz=>cases h1;exact .inr ⟨o,z,rfl,rfl,hz⟩
  ·cases h1
theorem uu{y:ak5 Operand}{l:ak5 Int}{d:Nat}{K:Nat→Prop}(h1:Dm ρ y=some l)(h0:∀z,l=some z→0≤z)(hK:K (oN l d)):iw ρ y d K:=by
 rcases aib h1 with⟨rfl,rfl⟩|⟨o,z,rfl,rfl,hz⟩
 ·exact hK
 ·simp only[iw,hz];exact⟨h0 z rfl,hK⟩
theorem aiO{T:TypeId}{y:AV}{lo hi mx:ak5 Operand}{K:AV→Prop}(h1:Lq P T ρ y lo hi mx a=some (x,i))(b4:OK P i a)(hK:K x):tE P T ρ y lo hi mx K:=by
 unfold Lq at h1;unfold tE;split at h1
 ·split at h1
  ·next l hh hl pM=>
   split at h1
   ·next b=>
    obtain⟨hb,he⟩:=dt h1;cases he;cases b4 with
    |str h0 h2 h3 h4=>
     refine bO.2 ⟨hb,uu pM (fun z e=>by subst e;exact h3) ?_⟩;have e1:oN hh b.size=(hh.getD b.size).toNat:=by cases hh<;>simp [oN]
     have e2:oN l 0=(l.getD 0).toNat:=by cases l<;>simp [oN]
     rw[e1];refine⟨h4,uu hl (fun z e=>by subst e;exact h0) ?_⟩;rw[e2];rw[e1,e2]at hK;exact⟨h2,hK⟩
   ·next n off=>
    split at h1
    ·next m e k hT=>
     obtain⟨hb,he⟩:=dt h1;cases he;simp only[hT];generalize cf m 4096=q at hb ⊢;rw[akh]at hb;refine bO.2 ⟨hb.1,uu pM (fun z e=>by cases e) (bO.2 ⟨dk.2 (akq _),uu hl (fun z e=>by cases e) (bO.2 ⟨?_,?_⟩)⟩)⟩
     ·rw[akh];exact⟨dk.2 (Nat.zero_le _),hb.2⟩
     ·show K (.row n (off+0*k) (m-0) (m-0) k);rw[Nat.zero_mul,Nat.add_zero,Nat.sub_zero];exact hK
    ·cases h1
   ·next CT l4=>
    split at h1
    ·next xs e k ys hx hT=>
     cases h1
     dsimp only;split
     ·next b=>exact absurd rfl (CT b)
     ·next n off=>exact absurd rfl (l4 n off)
     ·simp only[hx,hT];cases hh with
      |none=>
       cases b4 with
       |FA h0 h2 hk he=>
        refine⟨hk,uu pM (fun z e=>by cases e) ⟨akq _,uu hl (fun z e=>by subst e;exact h0) ?_⟩⟩;have e2:oN l 0=(l.getD 0).toNat:=by cases l<;>simp [oN]
        rw[e2];refine⟨h2,?_⟩;rw[show oN none xs.length=xs.length from rfl,List.take_length,he];exact hK
      |some z=>
       cases b4 with
       |sub h0 h2 h3 h4 hk he=>
        refine⟨hk,uu pM (fun z e=>by cases e;exact h3) ⟨h4,uu hl (fun z e=>by subst e;exact h0) ?_⟩⟩;have e2:oN l 0=(l.getD 0).toNat:=by cases l<;>simp [oN]
        rw[e2];refine⟨h2,?_⟩;rw[show oN (some z) xs.length=z.toNat from rfl,he];exact hK
    ·cases h1
  ·cases h1
 ·split at h1
  ·next m _ _ y' _ hm=>
   split at h1
   ·next xs e k _ _ ys hx hT hy=>
    cases h1
    cases b4 with
    |sub h0 h2 h3 h4 hk he=>
     simp only[hx,hT];refine⟨hk,?_⟩;simp only[iw,hm,hy,AV.int?];refine⟨Int.le_refl _,Nat.zero_le _,Int.le_refl _,?_,by simpa using hK⟩;first|rfl|trivial
   ·cases h1
  ·cases h1
theorem NR{k:Nat}{y:AV}{ys:ak3 (ak3 D)}{K:ak3 (ak3 D)→Prop}(h1:Ik h k y=some ys)(hy:∀c∈ys,c.length=k)(hK:K ys):ug h k y K:=by
 unfold Ik at h1;unfold ug;split at h1
 ·split at h1
  ·next cs e=>
   split at h1
   ·next ds e2=>
    obtain⟨hb,rfl⟩:=dt h1;simp only[e,e2];exact bO.2 ⟨hb,hK⟩
   ·cases h1
  ·cases h1
 ·next hn=>
  split
  ·next n off len cap k'=>exact absurd rfl (hn n off len cap k')
  ·simp only[h1];exact⟨hy,hK⟩
theorem adN{T:TypeId}{y z:AV}(h1:OX P T h y z a=some (x,h',i))(b4:OK P i a)(hC:C x h'):sX P T h y z C:=by
 unfold OX at h1;unfold sX;split at h1
 ·next e k zs n' hT=>
  simp only[hT];split at h1
  ·next zv ct hz n9=>
   simp only[hz,n9];obtain⟨hb,h1⟩:=mP h1;refine bO.2 ⟨hb,?_⟩;split at h1
   ·next ys iC=>
    split at h1
    ·next n xs=>
     split at h1
     ·next e' k' len hn=>
      obtain⟨hc,he⟩:=dt h1;cases he;cases b4 with
      |app hl hx hy hm jX hY BC=>
       subst hY;subst BC;refine NR iC hy ?_;simp only[hn];exact bO.2 ⟨hc,hl,hx,hm,jX,hC⟩
     ·cases h1
    ·cases h1
     cases b4 with
     |app hl hx hy hm jX hY BC=>
      subst hY;subst BC;refine NR iC hy ?_;simp only[List.nil_append,akr,akz]at hC hm jX ⊢;exact⟨hm,jX,hC⟩
    ·cases h1
     cases b4 with
     |app hl hx hy hm jX hY BC=>
      subst hY;subst BC;exact NR iC hy ⟨hx,hm,jX,hC⟩
    ·cases h1
   ·cases h1
  ·cases h1
 ·cases h1
theorem aht{T:TypeId}{ps:ak3 (Nat×AV)}{K:AV→Prop}(h1:Kz P T ps=some x)(hK:K x):xI P T ps K:=by
 unfold Kz at h1;unfold xI;split at h1
 ·next pl z e1 e2=>
  simp only[e1,e2];split at h1
  ·next cs e3=>obtain⟨hb,rfl⟩:=dt h1;simp only[e3];exact bO.2 ⟨hb,hK⟩
  ·cases h1
 ·cases h1
theorem ah5{T:TypeId}{len:Nat}{ps:ak3 (Nat×AV)}{K:AV→Prop}(h1:MC P T len ps=some x)(hK:K x):vv P T len ps K:=by
 unfold MC at h1;unfold vv;split at h1
 ·next e k hT=>
  simp only[hT];split at h1
  ·next z hz=>
   simp only[hz];split at h1
   ·next cs fi=>
    simp only[fi];split at h1
    ·next ds s7=>obtain⟨hb,rfl⟩:=dt h1;simp only[s7];exact bO.2 ⟨hb,hK⟩
    ·cases h1
   ·cases h1
  ·cases h1
 ·cases h1
theorem Tq{T:TypeId}{op:BinOp}{y z:AV}{K:AV→Prop}(h1:HV P T op y z=some (x,i))(b4:OK P i a)(hK:K x):w8 P T op y z K:=by
 unfold HV at h1;unfold w8;split at h1
 ·split at h1
  ·next v e=>
   obtain⟨hb,he⟩:=dt h1;cases he;cases b4 with|nz h0=>simp only[e];exact bO.2 ⟨hb,h0,hK⟩
  ·next e=>
   simp only[e];split at h1
   ·next v e2=>
    cases h1
    cases b4 with|nn h0=>simp only[e2];exact⟨h0,hK⟩
   ·next e2=>
    simp only[e2];split at h1
    ·next v e3=>obtain⟨hb,he⟩:=dt h1;cases he;simp only[e3];exact bO.2 ⟨hb,hK⟩
    ·cases h1
 ·split at h1
  ·next v e=>cases h1;simp only[e];exact hK
  ·next e=>
   simp only[e];split at h1
   ·cases h1;cases b4 with|cat h=>exact⟨h,hK⟩
   ·cases h1
 ·split at h1
  ·next v e=>obtain⟨hb,he⟩:=dt h1;cases he;simp only[e];exact bO.2 ⟨hb,hK⟩
  ·cases h1
 ·split at h1
  ·next b e=>
   simp only[e];split at h1
   ·next v e2=>cases h1;simp only[e2];exact hK
   ·cases h1
  ·cases h1
 ·cases h1
theorem abn{s t:TypeId}{y:AV}{K:AV→Prop}(h1:JB P s t y a=some (x,i))(b4:OK P i a)(hK:K x):vq P s t y K:=by
 unfold JB at h1;unfold vq;split at h1
 ·split at h1
  ·next e1 e2=>cases h1;simp only[e1,e2];exact hK
  ·cases h1
 ·obtain⟨hb,he⟩:=dt h1;cases he;exact bO.2 ⟨hb,hK⟩
 ·next h8 h9=>
  split at h1
  ·next xs e k s' e1 e2=>
   obtain⟨hb,he⟩:=dt h1;cases he;cases b4 with
   |JR h=>
    obtain⟨ns,k1,k2⟩:=h;subst k2;split
    ·next k' n=>exact absurd rfl (h8 k' n)
    ·next b'=>exact absurd rfl (h9 b')
    ·simp only[e1,e2];exact bO.2 ⟨hb,ns,k1,hK⟩
  ·cases h1
theorem TD{T:TypeId}{y:AV}{f:Nat}{K:AV→Prop}(h1:I6 P T y f=some x)(hK:K x):uO P T y f K:=by
 unfold I6 at h1;unfold uO;split at h1
 ·next e=>obtain⟨hb,rfl⟩:=dt h1;simp only[e];exact bO.2 ⟨hb,hK⟩
 ·next e=>simp only[e,h1];exact hK
 ·cases h1
theorem Ll{y:ak5 AV}(h1:Ic h y=some (x,h',i)):y=some x∧h'=h:=by
 cases y with
 |none=>cases h1
 |some y=>cases h1;exact⟨rfl,rfl⟩
theorem By{y:ak5 (AV×In)}(h1:zR h y=some (x,h',i)):y=some (x,i)∧h'=h:=by
 cases y with
 |none=>cases h1
 |some y=>cases h1;exact⟨rfl,rfl⟩
theorem Ac{o:Oper}(h1:xd P o.op ρ h a=some (x,h',i))(b4:OK P i a)(hC:C x h'):cp P o ρ h C:=by
 obtain⟨dst,op,type,pos,after,guard⟩:=o;simp only at h1;unfold xd at h1;unfold cp;split at h1
 ·cases h1;exact hC
 ·cases h1;exact hC
 ·next c y z=>
  split at h1
  ·next b=>
   cases h1
   simp only[OK.FR b4];cases b<;>simp_all
  ·cases h1
 ·split at h1
  ·next z e=>cases h1;simp only[e];exact hC
  ·cases h1
 ·obtain⟨hb,he⟩:=dt h1;cases he;exact bO.2 ⟨hb,hC⟩
 ·split at h1
  ·next cs off e=>
   split at h1
   ·next y e2=>cases h1;exact O1 e e2 hC
   ·cases h1
  ·cases h1
 ·split at h1
  ·next n off e=>
   split at h1
   ·next cs e2=>
    split at h1
    ·next k e3=>obtain⟨hb,he⟩:=dt h1;cases he;simp only[e,vw,e2,e3];exact bO.2 ⟨hb,hC⟩
    ·cases h1
   ·cases h1
  ·cases h1
 ·split at h1
  ·next e=>cases h1;simp only[e];exact hC
  ·next e=>cases h1;simp only[e];exact hC
  ·next e=>cases h1;simp only[e];exact hC
  ·cases h1
 ·split at h1
  ·next e=>
   simp only[e];split at h1
   ·next e2=>cases h1;simp only[e2];exact hC
   ·next e2=>cases h1;simp only[e2];exact hC
   ·cases h1
  ·cases h1
 ·obtain⟨e,rfl⟩:=Ll h1;exact TD e hC
 ·obtain⟨e,rfl⟩:=By h1;exact ahS e b4 hC
 ·split at h1
  ·next b z c e1 e2=>
   obtain⟨hb,he⟩:=dt h1;cases he;cases b4 with
   |ch h0 hc=>simp only[e1,e2];refine bO.2 ⟨hb,h0,?_⟩;simp only[hc];exact hC
  ·cases h1
 ·obtain⟨e,rfl⟩:=Ll h1;exact aht e hC
 ·obtain⟨e,rfl⟩:=Ll h1;exact ah5 e hC
 ·obtain⟨e,rfl⟩:=By h1;exact aiO e b4 hC
 ·split at h1
  ·next e=>
   split at h1
   ·next e2=>cases h1;simp only[e,e2];exact hC
   ·cases h1
  ·cases h1
 ·split at h1
  ·next e=>cases h1;simp only[e];exact hC
  ·cases h1
 ·obtain⟨e,rfl⟩:=By h1;exact Tq e b4 hC
 ·unfold wZ;split at h1
  ·next e=>
   split at h1
   ·next e2=>cases h1;simp only[e,e2];exact hC
   ·cases h1
  ·cases h1
 ·obtain⟨e,rfl⟩:=By h1;exact abn e b4 hC
 ·next c=>
  split at h1
  ·next hc=>
   simp only[hc];split at h1
   ·next e1 e2=>obtain⟨e,rfl⟩:=By h1;simp only[e1,e2];exact agd (C:=fun x=>C x _) e b4 hC (fun n hn=>hn)
   ·cases h1
  ·next hc=>
   simp only[hc];split at h1
   ·next e1 e2=>obtain⟨hb,h1⟩:=mP h1;simp only[e1,e2];exact bO.2 ⟨hb,adN h1 b4 hC⟩
   ·cases h1
  ·next hc=>
   simp only[hc];split at h1
   ·next e1=>cases h1;simp only[e1];exact hC
   ·cases h1
  ·next hc=>
   simp only[hc];split at h1
   ·next e1=>cases h1;simp only[e1];exact hC
   ·cases h1
  ·next f hc=>
   simp only[hc];split at h1
   ·next g cY r e=>
    obtain⟨hb,he⟩:=dt h1;cases he;simp only[akh]at hb;simp only[e];cases b4 with|call jd=>exact(jd.use hb.1 hb.2 hC).U0
   ·next g cY r h2 e=>
    cases h1
    simp only[e];cases b4 with|jd jd=>exact jd.mono fun r1 h1 ⟨e1,e2⟩=>by subst e1;subst e2;exact hC
   ·next g cY l dF H r H' e=>
    cases h1
    simp only[e];cases b4 with|lX ha hd hb hl hc=>exact(ha▸(hc.lX hd hb hl).mono fun r1 h1 ⟨e1,e2⟩=>by subst e1;subst e2;exact hC:bQ P g _ _ _).G4
   ·next g cY l dF H r H' e=>
    cases h1
    simp only[e];cases b4 with|WY mX hv ha hd hb hl hc=>exact(ha▸(hc.lX hd (by rw[hb,agU mX]) (by rw[akh]at hl ⊢;exact⟨hl.1,acw mX hl.2⟩)).mono fun r1 h1 ⟨e1,e2⟩=>by subst e1;subst e2;rw[←aak hv];exact hC:bQ P g _ _ _).G4
   ·next g cY l dF H r e=>
    cases h1
    simp only[e];cases b4 with|rq ha hd hb hl hc=>exact(ha▸(by have:=hc.rq hd hb hl [];rw[akA]at this;exact this.mono fun r1 h1 ⟨e1,e2⟩=>by subst e1;subst e2;exact hC):bQ P g _ _ _).G4
   ·next q r e=>
    obtain⟨hb,he⟩:=dt h1;cases he;simp only[akh]at hb;simp only[e];cases b4 with|Fp hq=>exact hq.use hb.1 hb.2 hC
   ·cases h1
  ·cases h1
 ·next op _=>
  unfold xR at h1;split at h1
  ·next y h2 p e=>
   cases h1
   simp only[e];refine⟨?_,hC⟩;cases p with
   |no=>trivial
   |lt n=>cases b4 with|sd h=>exact h
  ·cases h1
end
def gR:ak3 (Nat×bZ)→Nat→bZ
 |[],_=> .none
 |(k,x)::l,i=>bif k==i then x else gR l i
def s6(i:In)(a:bZ)(r:ak5 (St×ak3 (In×bZ))):ak5 (St×ak3 (In×bZ)):=
 match i with
 | .none=>r
 |i=>match r with
  |some (s,l)=>some (s,(i,a)::l)
  |none=>none
def Fc:bZ→Bool
 | .Na .. | .L9 .. | .BO .. =>true
 |_=>false
def zp(o:Oper):bZ→Bool
 | .BO [] .. =>cg o==6
 |_=>false
def Ib(P:ak6)(dr vk:Bool)(op:Op)(ρ:Operand→AV)(h:ak3 aq)(a:bZ):ak5 (AV×ak3 aq×In):=
 match a with
 | .va va=>bif dr&& !vk then none else match gC P op ρ h va with
   |some (x,h',p)=>some (x,h', .pr p)
   |none=>none
 |a=>xd P op ρ h a
def o6(P:ak6)(dr:Bool)(o:Oper)(j:Nat)(as:ak3 (Nat×bZ))(s:St):ak5 (St×ak3 (In×bZ)):=
 bif dr&&Fc (gR as (3*j+1))&& !zp o (gR as (3*j+1))then none else
 match Ib P dr (iD o) o.op (ev s) s.h (gR as (3*j+1))with
 |some (x,h',i)=>match gR as (3*j+2)with
  | .eq y=>s6 i (gR as (3*j+1)) (some ((s.wh h').put o.dst y,[(.eq x, .eq y)]))
  |_=>s6 i (gR as (3*j+1)) (some ((s.wh h').put o.dst x,[]))
 |none=>none
def Cv(o:Oper)(s:St):St:=s.put o.dst (.d (.v undef))
def oS(l:ak3 (In×bZ)):ak5 (St×ak3 (In×bZ))→ak5 (St×ak3 (In×bZ))
 |some (s,m)=>some (s,l++m)
 |none=>none
def mo(P:ak6)(ops:Array Oper)(dr:Bool)(o:Oper)(j:Nat)(as:ak3 (Nat×bZ))(s:St):ak5 (St×ak3 (In×bZ)):=
 match o.guard with
 |none=>o6 P dr o j as s
 |some (g,want)=>match gR as (3*j)with
  | .bit b=>oS [(.bit (sN ops g s.t), .bit b)] (bif b==want then o6 P dr o j as s else some (Cv o s,[]))
  | .Dz=>oS [(.bit (sN ops g s.t), .Dz)] (some (Cv o s,[]))
  |_=>none
def mu(P:ak6)(ops:Array Oper)(dr:Bool):ak3 Oper→Nat→ak3 (Nat×bZ)→St→ak5 (St×ak3 (In×bZ))
 |[],_,_,s=>some (s,[])
 |o::rest,j,as,s=>match mo P ops dr o j as s with
  |some (s1,l)=>oS l (mu P ops dr rest (j+1) as s1)
  |none=>none
def fU(P:ak6)(l:ak3 (In×bZ)):Prop:=∀p∈l,OK P p.1 p.2
section
variable {P:ak6} {ops:Array Oper} {dr:Bool} {o:Oper} {j:Nat} {as:ak3 (Nat×bZ)} {s s1:St} {l:ak3 (In×bZ)} {K:St→Prop}
theorem Gq{i:In}{a:bZ}{r:ak5 (St×ak3 (In×bZ))}(h:s6 i a r=some (s1,l))(b4:fU P l):∃m,r=some (s1,m)∧fU P m∧OK P i a:=by
 unfold s6 at h;split at h
 ·exact⟨l,h,b4, .none⟩
 ·split at h
  ·next s2 m=>
   cases h
   exact⟨m,rfl,fun p hp=>b4 p (ako _ hp),b4 (i,a) akl⟩
  ·cases h
theorem Az{r:ak5 (St×ak3 (In×bZ))}{m:ak3 (In×bZ)}(h:oS m r=some (s1,l))(b4:fU P l):∃n,r=some (s1,n)∧fU P n∧fU P m:=by
 unfold oS at h;split at h
 ·next s2 n=>
  cases h
  exact⟨n,rfl,fun p hp=>b4 p (List.mem_append_right _ hp),fun p hp=>b4 p (List.mem_append_left _ hp)⟩
 ·cases h
def GS(P:ak6)(dr:Bool)(o:Oper)(K:St→Prop)(s:St):Prop:=bif dr then XH P o K s else oJ P o K s
theorem Yu{x:AV}{h':ak3 aq}{i:In}{a:bZ}(h1:xd P o.op (ev s) s.h a=some (x,h',i))(b4:OK P i a)(hh:Fc a=false)(hK:K ((s.wh h').put o.dst x)):XH P o K s:=by
 refine .inl ?_;unfold yn;split
 ·next c fm=>
  split
  ·next f hc=>
   rw[fm]at h1;unfold xd at h1;simp only[hc]at h1;split at h1
   ·next g cY r e=>
    obtain⟨hb,he⟩:=dt h1;cases he;simp only[akh]at hb;simp only[e];cases b4 with
    |call jd=>exact⟨_,hK,fun e=>(jd.use hb.1 hb.2 ⟨rfl,rfl⟩).U0⟩
   ·cases hh
   ·cases hh
   ·cases hh
   ·next g cY l dF H r e=>
    cases h1
    simp only[e];cases b4 with|rq ha hd hb hl hc=>exact⟨_,hK,fun e=>(ha▸hc.rq hd hb hl e:bQ P g _ _ _).G4⟩
   ·next q r e=>
    obtain⟨hb,he⟩:=dt h1;cases he;simp only[akh]at hb;simp only[e];cases b4 with
    |Fp hq=>
     have:=fun h=>hq.use (h:=h) (C:=fun r' h'=>r'=x∧h'=h) hb.1 hb.2 ⟨rfl,rfl⟩;obtain⟨g,cs,e1,_⟩:=this [];refine⟨g,cs,e1,x,hK,fun e=> ?_⟩;obtain⟨g',b7,e2,h9⟩:=this (s.h++e);rw[e1]at e2;cases e2
     exact h9
   ·cases h1
  ·exact Ac (C:=fun x h'=>K ((s.wh h').put o.dst x)) h1 b4 hK
 ·exact Ac (C:=fun x h'=>K ((s.wh h').put o.dst x)) h1 b4 hK
theorem acK{o:Oper}{ρ:Operand→AV}{h h':ak3 aq}{dF:ak3 AV}{H H':ak3 aq}{r x:AV}{i:In}(hk:cg o=6)(hr:xd P o.op ρ h (.BO [] dF H r H')=some (x,h',i)):h'=h++H'.map (aq.pE (rn [] h.length)):=by
 unfold cg at hk;split at hk
 all_goals first|(cases hk;done)|skip
 next c fm=>
  split at hk
  all_goals first|(cases hk;done)|skip
  next f hc=>
   rw[fm]at hr;unfold xd at hr;simp only[hc]at hr;generalize ρ f=v at hr;cases v<;>first|(cases hr;rfl)|cases hr
theorem Ta(h:o6 P dr o j as s=some (s1,l))(b4:fU P l)(hK:K s1):GS P dr o K s:=by
 unfold o6 at h;cases hd:dr&&Fc (gR as (3*j+1))&& !zp o (gR as (3*j+1))with
 |true=>rw[hd]at h;cases h
 |false=>
  rw[hd]at h;simp only[cond_false]at h;split at h
  ·next x h' i hr=>
   have fin:OK P i (gR as (3*j+1))→K ((s.wh h').put o.dst x)→GS P dr o K s:=fun h1 h2=>by
    unfold GS;cases dr with
    |true=>
     unfold Ib at hr;split at hr
     ·next va e=>
      cases hv:iD o with
      |false=>rw[hv]at hr;cases hr
      |true=>
       rw[hv]at hr;simp only[Bool.not_true,Bool.and_false,cond_false]at hr;split at hr
       ·next x2 Dg p e2=>
        cases hr
        rw[e]at h1;cases h1 with|pr _ hp=>exact .inr (.inr (.inl ⟨hv,va,x,h',p,e2,hp,h2⟩))
       ·cases hr
     ·by_cases hx:zp o (gR as (3*j+1))=true
      ·refine .inr (.inr (.inr ?_));generalize gR as (3*j+1)=a at hx h1 hr;unfold zp at hx;split at hx
       ·next dF H r H'=>
        have DU:cg o=6:=by simpa using hx
        have this:h'=s.h++H'.map (aq.pE (rn [] s.h.length)):=acK DU hr;refine⟨DU,x,H'.map (aq.pE (rn [] s.h.length)),?_,fun C hC=> ?_⟩
        ·rw[←this];exact h2
        ·rw[←this]at hC;exact Ac hr h1 hC
       ·cases hx
      ·exact Yu hr h1 (by simpa [hx]using hd) h2
    |false=>
     unfold Ib at hr;split at hr
     ·next va e=>
      simp only[Bool.false_and,cond_false]at hr;split at hr
      ·next x2 Dg p e2=>
       cases hr
       rw[e]at h1;cases h1 with|pr _ hp=>exact .inl ⟨va,x,h',p,e2,hp,h2⟩
      ·cases hr
     ·exact .inr (.inr (.inl (Ac (C:=fun x h'=>K ((s.wh h').put o.dst x)) hr h1 h2)))
   split at h
   ·next y hy=>
    obtain⟨m,e,h2,h3⟩:=Gq h b4;cases e
    have:=h2 (.eq x, .eq y) akl;cases this with|eq e=>subst e;exact fin h3 hK
   ·obtain⟨m,e,h2,h3⟩:=Gq h b4;cases e
    exact fin h3 hK
  ·cases h
theorem Mr(h:mo P ops dr o j as s=some (s1,l))(b4:fU P l)(hK:K s1):gW ops o s (GS P dr o K s) (K (s.put o.dst (.d (.v undef)))):=by
 unfold mo at h;split at h
 ·next hg=>unfold gW;rw[hg];exact Ta h b4 hK
 ·next g want hg=>
  obtain⟨dst,op,ty,pos,after,guard⟩:=o;simp only at hg;subst hg;split at h
  ·next b hb=>
   obtain⟨n,e,h2,h3⟩:=Az h b4;have h4:=OK.FR (h3 (_,_) akl);rw[Ir,h4];refine⟨fun e2=> ?_,fun e2=> ?_⟩
   ·subst e2;simp only[BEq.rfl,cond_true]at e;exact Ta e h2 hK
   ·subst e2;have:((!want)==want)=false:=by cases want<;>rfl
    rw[this]at e;simp only[cond_false]at e;cases e
    exact hK
  ·next hb=>
   obtain⟨n,e,h2,h3⟩:=Az h b4;cases e
   have h4:=h3 (_,_) akl;have h5:sN ops g s.t= .d (.v undef):=by
    generalize sN ops g s.t=z at h4;cases h4;rfl
   rw[Ir,h5];exact hK
  ·cases h
theorem zY:∀(ol:ak3 Oper)(j:Nat)(s:St)(l:ak3 (In×bZ)),mu P ops dr ol j as s=some (s1,l)→fU P l→K s1→(bif dr then Ez P ops ol K s else qJ P ops ol K s)
 |[],_,s,l,h,_,hK=>by cases h;cases dr<;>exact hK
 |o::rest,j,s,l,h,b4,hK=>by
  unfold mu at h;split at h
  ·next s2 m hg=>
   obtain⟨n,e,h2,h3⟩:=Az h b4;have ih:=zY rest (j+1) s2 n e h2 hK;cases dr with
   |true=>exact Mr (K:=Ez P ops rest K) hg h3 ih
   |false=>exact Mr (K:=qJ P ops rest K) hg h3 ih
  ·cases h
theorem PF(s:St)(d:ak5 Nat)(x:AV):∃pre,(s.put d x).t=pre++s.t:=by
 cases d with
 |none=>exact⟨[],rfl⟩
 |some k=>
  by_cases hk:k<s.n
  ·exact⟨[(k,x)],by rw[tT hk];rfl⟩
  ·exact⟨[],by rw[CB hk];rfl⟩
theorem Ri(h:mo P ops dr o j as s=some (s1,l)):(∃pre,s1.t=pre++s.t)∧s1.n=s.n:=by
 have cI:∀{i a r l},s6 i a r=some (s1,l)→∃m,r=some (s1,m):=fun{i a r l} h=>by
  unfold s6 at h;split at h
  ·exact⟨_,h⟩
  ·split at h
   ·cases h;exact⟨_,rfl⟩
   ·cases h
 have cR:∀{m r l},oS m r=some (s1,l)→∃m,r=some (s1,m):=fun{m r l} h=>by
  unfold oS at h;split at h
  ·cases h;exact⟨_,rfl⟩
  ·cases h
 have st:∀l,o6 P dr o j as s=some (s1,l)→(∃pre,s1.t=pre++s.t)∧s1.n=s.n:=fun l h=>by
  unfold o6 at h;cases hd:dr&&Fc (gR as (3*j+1))&& !zp o (gR as (3*j+1))with
  |true=>rw[hd]at h;cases h
  |false=>
   rw[hd]at h;simp only[cond_false]at h;split at h
   ·split at h<;>(obtain⟨m,e⟩:=cI h;cases e;exact⟨PF _ _ _,by rw[oU];rfl⟩)
   ·cases h
 unfold mo at h;split at h
 ·exact st _ h
 ·split at h
  ·obtain⟨m,e⟩:=cR h;revert e;generalize ((_:Bool)==_)=q;intro e;cases q with
   |true=>exact st _ e
   |false=>cases e;exact⟨PF _ _ _,by unfold Cv;rw[oU]⟩
  ·obtain⟨m,e⟩:=cR h;cases e;exact⟨PF _ _ _,by unfold Cv;rw[oU]⟩
  ·cases h
theorem NF:∀(ol:ak3 Oper)(j:Nat)(s:St)(l:ak3 (In×bZ)),mu P ops dr ol j as s=some (s1,l)→(∃pre,s1.t=pre++s.t)∧s1.n=s.n
 |[],_,s,l,h=>by cases h;exact⟨⟨[],rfl⟩,rfl⟩
 |o::rest,j,s,l,h=>by
  unfold mu at h;split at h
  ·next s2 m hg=>
   unfold oS at h;split at h
   ·next s3 n e=>
    cases h
    obtain⟨⟨p1,e1⟩,n1⟩:=Ri hg;obtain⟨⟨p2,e2⟩,n2⟩:=NF rest (j+1) s2 n e;exact⟨⟨p2++p1,by rw[e2,e1,akw]⟩,n2.trans n1⟩
   ·cases h
  ·cases h
end
def S8:AV→Bool
 | .dead=>true
 |_=>false
def od(P:ak6)(dr:Bool)(l:ak3 Oper)(as:ak3 (Nat×bZ))(bo:ak3 Nat)(s:St):ak5 (ak3 (Nat×AV)×ak3 aq×ak3 (In×bZ)):=
 match mu P l.toArray dr l 0 as s with
 |some (s1,ps)=>bif (s1.t.take (s1.t.length-s.t.length)).all (fun p=>bo.any (·==p.1)||S8 (bB s.t p.1))then some (bo.map fun k=>(k,bB s1.t k),s1.h,ps)else none
 |none=>none
theorem Eh:∀(a b:ak3 (Nat×AV))(i:Nat),(i∈a.map (·.1)∧bB (a++b) i=bB a i)∨(i ∉ a.map (·.1)∧bB (a++b) i=bB b i)
 |[],b,i=> .inr ⟨by simp,rfl⟩
 |(k,x)::a,b,i=>by
  by_cases e:i=k
  ·subst e;exact .inl ⟨by simp,by simp [kN]⟩
  ·rcases Eh a b i with⟨h1,h2⟩|⟨h1,h2⟩
   ·exact .inl ⟨by simp at h1 ⊢;exact .inr h1,by rw[List.cons_append,kN,if_neg e,h2,kN,if_neg e]⟩
   ·exact .inr ⟨by simp at h1 ⊢;exact⟨e,h1⟩,by rw[List.cons_append,kN,if_neg e,h2]⟩
section
variable {P:ak6} {dr:Bool} {as:ak3 (Nat×bZ)} {s s1 s':St} {ps:ak3 (In×bZ)} {bo:ak3 Nat} {ol:ak3 Oper} {Δ:ak3 (Nat×AV)} {h':ak3 aq}
theorem Gy(h:od P dr ol as bo s=some (Δ,h',ps)):∃s1,mu P ol.toArray dr ol 0 as s=some (s1,ps)∧s1.n=s.n∧s1.h=h'∧∀i,bB (Δ++s.t) i=bB s1.t i∨bB (Δ++s.t) i= .dead:=by
 unfold od at h;split at h
 ·next s1 YE hr=>
  obtain⟨hb,he⟩:=dt h;cases he
  obtain⟨⟨pre,e1⟩,n1⟩:=NF _ _ _ _ hr;refine⟨s1,hr,n1,rfl,fun i=> ?_⟩;have Da:∀(f:Nat→AV),(bo.map fun k=>(k,f k)).map (·.1)=bo:=fun f=>by rw[List.map_map];exact List.map_id _
  rcases Eh (bo.map fun k=>(k,bB s1.t k)) s.t i with⟨h1,h2⟩|⟨h1,h2⟩
  ·rw[Da]at h1;rw[h2,oV (fun k=>bB s1.t k),if_pos h1];exact .inl rfl
  ·rw[Da]at h1;rw[h2];rw[e1,akg,Nat.add_sub_cancel,List.take_left']at hb
   ·rw[e1];rcases Eh pre s.t i with⟨h3,h4⟩|⟨h3,h4⟩
    ·right
     obtain⟨p,hp,rfl⟩:=List.mem_map.1 h3;have:=akF.1 hb p hp;rw[Bool.or_eq_true]at this;rcases this with this|this
     ·exfalso;obtain⟨k,hk,e⟩:=List.any_eq_true.1 this;rw[beq_iff_eq]at e;exact h1 (e▸hk)
     ·generalize bB s.t p.1=z at this;cases z<;>first|rfl|cases this
    ·exact .inl h4.symm
   ·rfl
 ·cases h
theorem cx.less{G:Gh}{w:ak8}{a:Act}(hs:cx G w a s1)(hn:s'.n=s1.n)(hh:s'.h=s1.h)(ht:∀i,bB s'.t i=bB s1.t i∨bB s'.t i= .dead):cx G w a s':=
 ⟨hs.size.trans hn.symm,fun i=>by
  rcases ht i with e|e
  ·rw[e];exact hs.tmp i
  ·rw[e];exact .dead _,by rw[hh];exact hs.inv,hs.df⟩
end
structure Ob(P:Program) where
 i:In
 o:bZ
 ok:OK P i o
def bT{P:ak6}{e:Bool}(h:e=true):Ob P:=⟨_,_, .bit (b:=true) h⟩
def bF{P:ak6}{e:Bool}(h:e=false):Ob P:=⟨_,_, .bit (b:=false) h⟩
def uN{P:ak6}:Ob P:=⟨_,_, .Dz⟩
def cL{P:ak6}{f:FuncId}{args:ak3 AV}{r:AV}(h:aG P f args (·=r)):Ob P:=⟨_,_, .call h⟩
def kg{P:ak6}(l:ak3 (Nat×Ob P)):ak3 (Nat×bZ):=l.map fun b=>(b.1,b.2.o)
def jC{P:ak6}(l:ak3 (Nat×Ob P)):ak3 (In×bZ):=l.map fun b=>(b.2.i,b.2.o)
theorem xO{P:ak6}(l:ak3 (Nat×Ob P)):fU P (jC l):=fun p hp=>by
 obtain⟨b,_,rfl⟩:=List.mem_map.1 hp;exact b.2.ok
section
variable {P:ak6} {r:ak5 Nat} {N0 id:Nat} {ol:ak3 Oper} {y:Code} {s:St} {Q Q':Exit→St→Prop} {aW:ak3 (Nat×Ob P)} {Δ:ak3 (Nat×AV)} {h':ak3 aq}
theorem Gl{c:Code}{s':St}(hn:s'.n=s.n)(hh:s'.h=s.h)(ht:∀i,bB s'.t i=bB s.t i∨bB s'.t i= .dead)(h:bJ P r N0 c Q s'):bJ P r N0 c Q s:=
 ⟨fun G w a n hs hN=>h.run G w a n (hs.less hn hh ht) hN⟩
theorem Sa(aW:ak3 (Nat×Ob P))(Δ:ak3 (Nat×AV))(h':ak3 aq)(h:od P false ol (kg aW) (Δ.map (·.1)) s=some (Δ,h',jC aW))(k:bJ P r N0 y Q' ⟨s.n,Δ++s.t,h'⟩):bJ P r N0 (.region id ol.toArray false) (gy (fun s=>bJ P r N0 y Q' s) Q) s:=by
 obtain⟨s1,h1,h2,h3,h4⟩:=Gy h;refine fg ?_;exact zY (dr:=false) ol 0 s _ h1 (xO aW) (Gl (s:=s1) (s':=⟨s.n,Δ++s.t,h'⟩) h2.symm h3.symm h4 k)
theorem ajx(hm:P.follows .mixedOrders=true)(hl:rB ol.toArray=true)(aW:ak3 (Nat×Ob P))(Δ:ak3 (Nat×AV))(h':ak3 aq)(h:od P true ol (kg aW) (Δ.map (·.1)) s=some (Δ,h',jC aW))(k:bJ P r N0 y Q' ⟨s.n,Δ++s.t,h'⟩):bJ P r N0 (.region id ol.toArray true) (gy (fun s=>bJ P r N0 y Q' s) Q) s:=by
 obtain⟨s1,h1,h2,h3,h4⟩:=Gy h;refine O2 hm hl ?_;exact zY (dr:=true) ol 0 s _ h1 (xO aW) (Gl (s:=s1) (s':=⟨s.n,Δ++s.t,h'⟩) h2.symm h3.symm h4 k)
def Hk(P:ak6)(dr:Bool)(l:ak3 Oper)(as:ak3 (Nat×bZ))(s:St):ak5 (ak3 (Nat×AV)×ak3 aq×ak3 (In×bZ)):=
 match mu P l.toArray dr l 0 as s with
 |some (s1,ps)=>some (s1.t,s1.h,ps)
 |none=>none
theorem agN{dr:Bool}{as:ak3 (Nat×bZ)}{t:ak3 (Nat×AV)}{ps:ak3 (In×bZ)}(h:Hk P dr ol as s=some (t,h',ps)):mu P ol.toArray dr ol 0 as s=some (⟨s.n,t,h'⟩,ps):=by
 unfold Hk at h;split at h
 ·next s1 YE hr=>
  cases h
  obtain⟨_,n1⟩:=NF _ _ _ _ hr;rw[hr,←n1]
 ·cases h
theorem ZP(aW:ak3 (Nat×Ob P))(Δ:ak3 (Nat×AV))(h':ak3 aq)(h:Hk P false ol (kg aW) s=some (Δ++s.t,h',jC aW))(k:Q .normal ⟨s.n,Δ++s.t,h'⟩):bJ P r N0 (.region id ol.toArray false) Q s:=
 fg (zY (dr:=false) ol 0 s _ (agN h) (xO aW) k)
end
def AV.fin(m:Nat)(x:AV):AV:=(x.bA m).nrm
def aq.nE:aq→aq
 | .cells cs=> .cells (cs.map AV.nrm)
 | .lp ls p as bd cs=> .lp ls p as bd (cs.map AV.nrm)
 | .it sn cs=> .it sn (cs.map AV.nrm)
 | .vec e k cs=> .vec e k (cs.map (·.map AV.nrm))
 |B=>B
def iu(s:St)(live:ak3 Nat)(m:Nat):ak5 St:=
 bif cf m s.h.length&&(live.all fun k=>((bB s.t k).bA m).aT m)&&(((s.h.take m).map (aq.bA m)).all (aq.aT m))then some ⟨s.n,live.map fun k=>(k,(bB s.t k).fin m),((s.h.take m).map (aq.bA m)).map aq.nE⟩else none
theorem Pr{G:Gh}{w:ak8}{h:ak3 aq}(hi:bW G w h):bW G w (h.map aq.nE):=by
 have dV:∀(n:Nat)(B:aq),(h.map aq.nE)[n]?=some B→∃B',h[n]?=some B'∧B=B'.nE:=fun n B hB=>by
  rw[akm]at hB;cases hx:h[n]? with
  |none=>rw[hx]at hB;cases hB
  |some B'=>rw[hx]at hB;cases hB;exact⟨B',rfl,rfl⟩
 have dB:∀n b,b6 (h.map aq.nE) G n=some b→b6 h G n=some b:=fun n b hb=>by
  obtain⟨B,hB,hb⟩:=m4 hb;obtain⟨B',h1,rfl⟩:=dV n B hB;rw[dm h1,←hb];cases B'<;>rfl
 refine⟨by rw[akk];exact hi.len,hi.z,hi.S,fun n B hB=> ?_,fun i j b h1 h2=>hi.inj i j b (dB i b h1) (dB j b h2),hi.gl⟩;obtain⟨B',h1,rfl⟩:=dV n B hB;have dD:=hi.cW n B' h1;cases B' with
 |gone=>trivial
 |front e k len=>exact dD
 |map kv=>exact dD
 |vec e k cs=>
  obtain⟨c1,c2,c3,c4⟩:=dD;refine⟨by rw[akk];exact c1,by rw[akk];exact c2,fun c hc=> ?_,?_⟩
  ·obtain⟨x,hx,rfl⟩:=List.mem_map.1 hc;rw[akk];exact c3 x hx
  ·rcases c4 with⟨d1,d2,A,d3⟩|⟨g,cap,cur,d1,d2,d3,d4,d5,d6,d7,d8,d9⟩
   ·exact .inl ⟨d1,by rw[d2];rfl,A,d3⟩
   ·refine .inr ⟨g,cap,cur,d1,by rw[akk];exact d2,d3,d4,by rw[akk];exact d5,d6,d7,d8,fun i j c x u hc hx hu=> ?_⟩;rw[akm]at hc;cases hy:cs[i]? with
    |none=>rw[hy]at hc;cases hc
    |some y=>
     rw[hy]at hc;cases hc
     rw[akm]at hx;cases hw:y[j]? with
     |none=>rw[hw]at hx;cases hx
     |some z=>rw[hw]at hx;cases hx;exact(d9 i j y z u hy hw hu).nrm
 |cells cs=>
  obtain⟨c1,c2,vs,T,c3,c4,c5⟩:=dD;refine⟨c1,c2,vs,T,c3,by rw[akk];exact c4,fun i u c hu hc=> ?_⟩;rw[akm]at hc;cases hx:cs[i]? with
  |none=>rw[hx]at hc;cases hc
  |some x=>rw[hx]at hc;cases hc;exact(c5 i u x hu hx).nrm
 |lp ls p as bd cs=>
  obtain⟨c1,c2,fn,vs,T,c3,c4,c5⟩:=dD;refine⟨c1,c2,fn,vs,T,c3,by rw[akk];exact c4,fun i u c hu hc=> ?_⟩;rw[akm]at hc;cases hx:cs[i]? with
  |none=>rw[hx]at hc;cases hc
  |some x=>rw[hx]at hc;cases hc;exact(c5 i u x hu hx).nrm
 |it sn cs=>
  obtain⟨c1,c2,fn,vs,T,c3,c4,c5⟩:=dD;refine⟨c1,c2,fn,vs,T,c3,by rw[akk];exact c4,fun i u c hu hc=> ?_⟩;rw[akm]at hc;cases hx:cs[i]? with
  |none=>rw[hx]at hc;cases hc
  |some x=>rw[hx]at hc;cases hc;exact(c5 i u x hu hx).nrm
section
variable {P:ak6} {r:ak5 Nat} {n N0:Nat} {G:Gh} {w:ak8} {a:Act} {s s':St} {Q Q':Exit→St→Prop} {live:ak3 Nat} {m:Nat}
theorem X4(h:iu s live m=some s'):s.Ao live m∧s'.n=s.n∧s'.t=(live.map fun k=>(k,(bB s.t k).fin m))∧s'.h=((s.h.take m).map (aq.bA m)).map aq.nE:=by
 unfold iu at h;obtain⟨hb,rfl⟩:=dt h;rw[akh,akh]at hb;exact⟨⟨dk.1 hb.1.1,hb.1.2,hb.2⟩,rfl,rfl,rfl⟩
theorem cx.iu(hs:cx G w a s)(h:iu s live m=some s'):cx (G.cut m) w a s':=by
 obtain⟨h1,h2,h3,h4⟩:=X4 h;have hm:=hs.mask h1;refine⟨hs.size.trans h2.symm,fun i=> ?_,by rw[h4];exact Pr hm.inv,hs.df⟩;have:=hm.tmp i
 change aN _ _ _ (bB (live.map fun k=>(k,(bB s.t k).bA m)) i)at this
 rw[oV (fun k=>(bB s.t k).bA m)]at this;rw[h3,oV (fun k=>(bB s.t k).fin m)];split at this
 ·rename_i hi;rw[if_pos hi];exact this.nrm
 ·rename_i hi;rw[if_neg hi];exact .dead _
theorem adz{c:Code}{ι:Type}(live:ak3 Nat)(m:Nat)(st:ι→St)(I:ι→Prop)(μ:ι→Nat)(i0:ι)(hm:N0≤m)(h0:Go.Proofs.YtpgmcallngdceaaGreatDoor.iu s live m=some (st i0))(hI:I i0)
 (round:∀i,I i→bJ P r N0 c (gy (fun s'=>∃i',Go.Proofs.YtpgmcallngdceaaGreatDoor.iu s' live m=some (st i')∧I i'∧μ i'<μ i) Q) (st i)):bJ P r N0 (.loop c) Q s:=by
 constructor
 intro G w a n hs _;refine NP (fun(i:ι) a' w'=>∃G',I i∧bR N0 G w G' w'∧N0≤G'.N∧cx G' w' a' (st i)) μ i0 ⟨G.cut m,hI,nT _ _ _ _,hm,hs.iu h0⟩ ?_;rintro i a' w' ⟨G',hi,hE,hN,ck⟩;refine wpIn_mono ((round i hi).run G' w' a' n ck hN) fun e a1 w1 hn=> ?_;obtain⟨G1,s1,iV,eZ,dO,hq⟩:=hn;cases e with
 |normal=>
  obtain⟨i',h1,h2,h3⟩:=hq;exact⟨i',⟨G1.cut m,h2,(hE.trans iV).trans (nT _ _ _ _),hm,dO.iu h1⟩,h3⟩
 |_=>exact⟨G1,s1,hE.trans iV,eZ,dO,hq⟩
theorem jf{c:Code}(live:ak3 Nat)(m:Nat)(hm:N0≤m)(h0:Go.Proofs.YtpgmcallngdceaaGreatDoor.iu s live m=some s')(h:bJ P r N0 c Q s'):bJ P r N0 c Q s:=by
 constructor
 intro G w a n hs _;exact wpIn_mono (h.run (G.cut m) w a n (hs.iu h0) hm) fun _ _ _ hn=>hn.trans (nT N0 G w m)
theorem adj{c y:Code}{ι:Type}(live:ak3 Nat)(m:Nat)(st:ι→St)(I:ι→Prop)(hm:N0≤m)(hc:bJ P r N0 c (gy (fun s'=>∃i,Go.Proofs.YtpgmcallngdceaaGreatDoor.iu s' live m=some (st i)∧I i) Q) s)(hy:∀i,I i→bJ P r N0 y Q' (st i)):bJ P r N0 c (gy (fun s=>bJ P r N0 y Q' s) Q) s:=by
 refine hc.mono fun e s' h=> ?_;cases e with
 |normal=>obtain⟨i,h1,h2⟩:=h;exact jf live m hm h1 (hy i h2)
 |_=>exact h
def p6(P:ak6)(s:St):ak3 ResultVar→ak5 (ak3 AV)
 |[]=>some []
 | .tmp t::l=>match p6 P s l with
   |some xs=>some (bB s.t t::xs)
   |none=>none
 | .cell p t::l=>match vD s.h (bB s.t p)with
   |some (cs,off)=>match xY P t cs off,p6 P s l with
    |some x,some xs=>some (x::xs)
    |_,_=>none
   |none=>none
def wo(P:ak6)(rs:ak3 ResultVar)(s:St):ak5 AV:=
 match p6 P s rs with
 |some l=>bif ((iE l).bA 0).aT 0 then some ((iE l).fin 0)else none
 |none=>none
def yS(P:ak6)(fn:Func)(R:AV):Exit→St→Prop
 | .normal,s=>wo P fn.results.toList s=some R
 | .ret,s=>wo P fn.results.toList s=some R
 |_,_=>False
theorem Dw:∀(l:ak3 ResultVar)(xs:ak3 AV)(C:ak3 AV→Prop),p6 P s l=some xs→C xs→lu P s l C
 |[],xs,C,h,hC=>by cases h;exact hC
 | .tmp t::l,xs,C,h,hC=>by
   unfold p6 at h;split at h
   ·next ys e=>cases h;exact Dw l ys _ e hC
   ·cases h
 | .cell p t::l,xs,C,h,hC=>by
   unfold p6 at h;split at h
   ·next cs off e=>
    split at h
    ·next x ys e1 e2=>cases h;exact O1 e e1 (Dw l ys _ e2 hC)
    ·cases h
   ·cases h
theorem Ve{fn:Func}{R:AV}(h:wo P fn.results.toList s=some R):oW P fn 0 (fun r h'=>h'=[]∧r.nrm=R) s:=by
 unfold wo at h;split at h
 ·next l e=>
  obtain⟨hb,rfl⟩:=dt h;exact Dw _ l _ e ⟨Nat.zero_le _,hb,by simp,by simp,rfl⟩
 ·cases h
theorem jV{fn:Func}{R:AV}(h:wo P fn.results.toList s=some R):yS P fn R .ret s:=h
theorem AG{f:FuncId}{fn:Func}{c:Code}{args:ak3 AV}{R:AV}(hf:P.funcs[f]?=some fn)(hb:fn.body=some c)(hn:(fn.name== "runtime.NumGoroutine")=false)
 (hw:bJ P none 0 c (yS P fn R) {n:=args.length+(fn.ntmps-args.length),t:=jR 0 args,h:=[]}):aG P f args (·=R):=by
 have h:=zL (P:=P) (f:=f) (args:=args) (h:=[]) (K:=fun r h'=>h'=[]∧r.nrm=R) 0 hf hb hn (akq _) (hw.mono fun e s hq=>by
  cases e with
  |normal=>exact Ve hq
  |ret=>exact Ve hq
  |_=>exact hq.elim)
 refine⟨h.1,fun G w vs hi hl hr=>(h.2 G w vs hi hl hr).mono fun e w' hp=> ?_⟩;obtain⟨v,G',x,h',rfl,hE,hN,di,hv,rfl,rfl⟩:=hp;exact⟨v,G',x.nrm,[],rfl,hE,hN,di,hv.nrm,rfl,rfl⟩
theorem aj2{c:Code}(b i:Nat)(xs:ak3 (ak3 D))(hx:((s.h[b]?).bind fun B=>match B with| .cells cs=>(cs[i]?).bind AV.er|_=>none)=some xs)(h:xs.length≤maxLen→bJ P r N0 c Q s):bJ P r N0 c Q s:=by
 constructor
 intro G w a n hs hN;cases hb:s.h[b]? with
 |none=>rw[hb]at hx;cases hx
 |some B=>
  rw[hb]at hx;cases B with
  |cells cs=>
   simp only[ake]at hx;obtain⟨_,_,vs,T,_,hl,hr⟩:=hs.inv.cW b _ hb;cases hc:cs[i]? with
   |none=>rw[hc]at hx;cases hx
   |some x=>
    rw[hc]at hx;have a7:i<vs.size:=by rw[hl];exact(akf.1 hc).1
    obtain⟨A,b',o,c',k',us,_,_,h1,h2,_⟩:=((hr i _ x (akB a7) hc).list hx).nI;exact(h (akx h1 h2)).run G w a n hs hN
  |_=>cases hx
end
theorem afd{P:ak6}{r:ak5 Nat}{N0 id:Nat}{ol:ak3 Oper}{y:Code}{s:St}{Q Q':Exit→St→Prop}(Δ:ak3 (Nat×AV))(h':ak3 aq)(h:∃aW:ak3 (Nat×Ob P),od P false ol (kg aW) (Δ.map (·.1)) s=some (Δ,h',jC aW))(k:bJ P r N0 y Q' ⟨s.n,Δ++s.t,h'⟩):bJ P r N0 (.region id ol.toArray false) (gy (fun s=>bJ P r N0 y Q' s) Q) s:=
 let ⟨aW,h⟩:=h;Sa aW Δ h' h k
theorem ag8{P:ak6}{r:ak5 Nat}{N0 id:Nat}{ol:ak3 Oper}{y:Code}{s:St}{Q Q':Exit→St→Prop}(hm:P.follows .mixedOrders=true)(hl:rB ol.toArray=true)(Δ:ak3 (Nat×AV))(h':ak3 aq)(h:∃aW:ak3 (Nat×Ob P),od P true ol (kg aW) (Δ.map (·.1)) s=some (Δ,h',jC aW))(k:bJ P r N0 y Q' ⟨s.n,Δ++s.t,h'⟩):bJ P r N0 (.region id ol.toArray true) (gy (fun s=>bJ P r N0 y Q' s) Q) s:=
 let ⟨aW,h⟩:=h;ajx hm hl aW Δ h' h k
theorem eI{α:Type}{c:Bool}{a b:α}(h:c=true):cond c a b=a:=by rw[h];rfl
theorem kd{α:Type}{c:Bool}{a b:α}(h:c=false):cond c a b=b:=by rw[h];rfl
theorem ao{α β:Type}{x:ak5 α}{f:α→ak5 β}{b:β}(h:Option.bind x f=some b):∃a,x=some a∧f a=some b:=by
 cases x with
 |none=>cases h
 |some a=>exact⟨a,rfl,h⟩
theorem jS(b:Bool):b=true∨b=false:=by cases b<;>simp
theorem bG{b:Bool}(h:b=true):(!b)=false:=by rw[h];rfl
theorem bS{b:Bool}(h:b=false):(!b)=true:=by rw[h];rfl
theorem jD{α:Type}{c:Bool}{x:ak5 α}{r:α}(h:(bif c then x else none)=some r):c=true:=by
 cases c with
 |true=>rfl
 |false=>cases h
section
variable {P:ak6} {r:ak5 Nat} {N0 id n:Nat} {ol:ak3 Oper} {y:Code} {t:ak3 (Nat×AV)} {h:ak3 aq} {Q Q':Exit→St→Prop}
theorem rg(aW:ak3 (Nat×Ob P))(Δ:ak3 (Nat×AV))(h':ak3 aq)(e:od P false ol (kg aW) (Δ.map (·.1)) ⟨n,t,h⟩=some (Δ,h',jC aW))(k:bJ P r N0 y Q' ⟨n,Δ++t,h'⟩):bJ P r N0 (.region id ol.toArray false) (gy (fun s=>bJ P r N0 y Q' s) Q) ⟨n,t,h⟩:=Sa aW Δ h' e k
theorem re(aW:ak3 (Nat×Ob P))(Δ:ak3 (Nat×AV))(h':ak3 aq)(e:Hk P false ol (kg aW) ⟨n,t,h⟩=some (Δ++t,h',jC aW))(k:Q .normal ⟨n,Δ++t,h'⟩):bJ P r N0 (.region id ol.toArray false) Q ⟨n,t,h⟩:=ZP aW Δ h' e k
theorem rgE(Δ:ak3 (Nat×AV))(h':ak3 aq)(e:∃aW:ak3 (Nat×Ob P),od P false ol (kg aW) (Δ.map (·.1)) ⟨n,t,h⟩=some (Δ,h',jC aW))(k:bJ P r N0 y Q' ⟨n,Δ++t,h'⟩):bJ P r N0 (.region id ol.toArray false) (gy (fun s=>bJ P r N0 y Q' s) Q) ⟨n,t,h⟩:=afd Δ h' e k
theorem rdE(hm:P.follows .mixedOrders=true)(hl:rB ol.toArray=true)(Δ:ak3 (Nat×AV))(h':ak3 aq)(e:∃aW:ak3 (Nat×Ob P),od P true ol (kg aW) (Δ.map (·.1)) ⟨n,t,h⟩=some (Δ,h',jC aW))(k:bJ P r N0 y Q' ⟨n,Δ++t,h'⟩):bJ P r N0 (.region id ol.toArray true) (gy (fun s=>bJ P r N0 y Q' s) Q) ⟨n,t,h⟩:=ag8 hm hl Δ h' e k
end
def bs(l:ak3 UInt8):ak4:=⟨l.toArray⟩
def tn(x:D):Prop:=∃(S:Nat→Nat→Prop)(w:ak8)(u:ak7),dc S w u x
theorem xq{xs:ak3 (ak3 D)}(h:tn (.sl xs)):xs.length≤maxLen:=by
 obtain⟨S,w,u,h⟩:=h;obtain⟨A,b',o,c',k',us,_,_,h1,h2,_⟩:=h.nI;exact akx h1 h2
theorem On{xs:ak3 (ak3 D)}{i j:Nat}{c:ak3 D}{d:D}(h:tn (.sl xs))(hc:xs[i]?=some c)(hd:c[j]?=some d):tn d:=by
 obtain⟨S,w,u,h⟩:=h;obtain⟨A,b',o,c',k',us,_,_,h1,h2,h3,h4,h5⟩:=h.nI;exact⟨S,w,_,h5 i j c d hc hd⟩
section
variable {P:ak6} {r:ak5 Nat} {n N0:Nat} {s:St} {Q:Exit→St→Prop}
theorem yM{c:Code}(k:Nat)(xs:ak3 (ak3 D))(hx:(bB s.t k).er=some xs)(h:tn (.sl xs)→bJ P r N0 c Q s):bJ P r N0 c Q s:=by
 constructor
 intro G w a n hs hN;exact(h ⟨_,_,_,(hs.tmp k).list hx⟩).run G w a n hs hN
theorem YI{c:Code}(b i:Nat)(xs:ak3 (ak3 D))(hx:((s.h[b]?).bind fun B=>match B with| .cells cs=>(cs[i]?).bind AV.er|_=>none)=some xs)(h:tn (.sl xs)→bJ P r N0 c Q s):bJ P r N0 c Q s:=by
 constructor
 intro G w a n hs hN;cases hb:s.h[b]? with
 |none=>rw[hb]at hx;cases hx
 |some B=>
  rw[hb]at hx;cases B with
  |cells cs=>
   simp only[ake]at hx;obtain⟨_,_,vs,T,_,hl,hr⟩:=hs.inv.cW b _ hb;cases hc:cs[i]? with
   |none=>rw[hc]at hx;cases hx
   |some x=>
    rw[hc]at hx;have a7:i<vs.size:=by rw[hl];exact(akf.1 hc).1
    exact(h ⟨_,_,_,(hr i _ x (akB a7) hc).list hx⟩).run G w a n hs hN
  |_=>cases hx
end
end Go.Proofs.YtpgmcallngdceaaGreatDoor
namespace Go.Proofs.YtpgmcallngdceaaGreatDoor
open Go.RowKit
mutual
def AV.dR(b:Nat)(ds:ak3 D):AV→AV
 | .ptr n off=>bif n==b then .bE [ds] 0 off else .ptr n off
 | .agg cs=> .agg (AV.sP b ds cs)
 | .bk cs=> .bk (AV.sP b ds cs)
 | .fn f cs=> .fn f (AV.sP b ds cs)
 |x=>x
def AV.sP(b:Nat)(ds:ak3 D):ak3 AV→ak3 AV
 |[]=>[]
 |x::l=>x.dR b ds::AV.sP b ds l
end
theorem Cc(b:Nat)(ds:ak3 D):∀l,AV.sP b ds l=l.map (AV.dR b ds)
 |[]=>by simp [AV.sP]
 |x::l=>by simp [AV.sP,Cc b ds l]
def aq.dR(b:Nat)(ds:ak3 D):aq→aq
 | .cells cs=> .cells (cs.map (AV.dR b ds))
 | .lp ls p as bd cs=> .lp ls p as bd (cs.map (AV.dR b ds))
 | .it sn cs=> .it sn (cs.map (AV.dR b ds))
 | .vec e k cs=> .vec e k (cs.map (·.map (AV.dR b ds)))
 |B=>B
def C2(s:St)(b:Nat):ak5 St:=
 match s.h[b]? with
 |some (.cells cs)=>match lY cs with
  |some ds=>some ⟨s.n,s.t.map fun p=>(p.1,p.2.dR b ds),(s.h.map (aq.dR b ds)).set b .gone⟩
  |none=>none
 |_=>none
theorem D7(f:AV→AV)(hf:f .dead= .dead):∀(t:ak3 (Nat×AV))(i:Nat),bB (t.map fun p=>(p.1,f p.2)) i=f (bB t i)
 |[],i=>by simp [bB,hf]
 |(k,x)::l,i=>by
  simp only[akE,kN,D7 f hf l i];split<;>rfl
theorem aN.dR{G G':Gh}{w:ak8}{b:Nat}{ds:ak3 D}(hE:bR G.N G w G' w)(hN:G'.N=G.N)(hp:∀off,aN G' w (.pointer (some ⟨G.bm b,off,none⟩)) (.bE [ds] 0 off)){u:ak7}{x:AV}(h:aN G w u x):aN G' w u (x.dR b ds):=by
 have bo:∀{u:ak7}{x:AV},aN G w u x→aN G' w u x:=fun h=>h.bo hE (Nat.le_of_eq hN.symm);have fq:∀(vs:Array ak7)(cs:ak3 AV),(∀(i:Nat)(u:ak7)(c:AV),vs[i]?=some u→cs[i]?=some c→aN G' w u (c.dR b ds))→∀(i:Nat)(u:ak7)(c:AV),vs[i]?=some u→(AV.sP b ds cs)[i]?=some c→aN G' w u c:=by
  intro vs cs ih i u c hu hc;rw[Cc,akm]at hc;cases hx:cs[i]? with
  |none=>rw[hx]at hc;cases hc
  |some x=>rw[hx]at hc;cases hc;exact ih i u x hu hx
 induction h with
 |agg vs cs hl _ ih=>rw[AV.dR];exact .agg vs _ (by rw[Cc,akk];exact hl) (fq vs cs ih)
 |bk vs cs hl _ ih=>rw[AV.dR];exact .bk vs _ (by rw[Cc,akk];exact hl) (fq vs cs ih)
 |fn f vs cs hl _ ih=>rw[AV.dR];exact .fn f vs _ (by rw[Cc,akk];exact hl) (fq vs cs ih)
 |ptr n off h=>
  rw[AV.dR,cond_eq_ite];split
  ·next e=>rw[beq_iff_eq]at e;subst e;exact hp off
  ·exact bo (.ptr n off h)
 |own n xs h hp hle hf=>simp only[AV.dR];exact bo (.own n xs h hp hle hf)
 |d h=>simp only[AV.dR];exact bo (.d h)
 |bE xs i off b o u x hx hS hu=>simp only[AV.dR];exact bo (.bE xs i off b o u x hx hS hu)
 |full xs hp hf=>simp only[AV.dR];exact bo (.full xs hp hf)
 |row n off len cap k h hl hm=>simp only[AV.dR];exact bo (.row n off len cap k h hl hm)
 |mp n h=>simp only[AV.dR];exact bo (.mp n h)
 |cH n h=>simp only[AV.dR];exact bo (.cH n h)
 |vec n o len L k h hs hL hf=>simp only[AV.dR];exact bo (.vec n o len L k h hs hL hf)
 |cQ n i j L k h hs hL hf=>simp only[AV.dR];exact bo (.cQ n i j L k h hs hL hf)
 |hid h h1=>simp only[AV.dR];exact bo (.hid h h1)
 |dead u=>simp only[AV.dR];exact .dead u
theorem Xd:∀(cs:ak3 AV)(ds:ak3 D),lY cs=some ds→cs.length=ds.length∧∀(i:Nat)(c:AV)(d:D),cs[i]?=some c→ds[i]?=some d→c.wF=some d
 |[],ds,h=>by unfold lY at h;cases h;exact⟨rfl,fun i c d hc=>by simp at hc⟩
 |x::cs,ds,h=>by
  unfold lY at h;split at h
  ·next d l e1 e2=>
   cases h
   obtain⟨h1,h2⟩:=Xd cs l e2;refine⟨by simp [h1],fun i c d' hc hd=> ?_⟩
   match i with
   |0=>simp only[List.getElem?_cons_zero,Option.some.injEq]at hc hd;subst hc;subst hd;exact e1
   |i+1=>exact h2 i c d' (by simpa using hc) (by simpa using hd)
  ·cases h
theorem aN.aeX{G:Gh}{w:ak8}{u:ak7}{x:AV}{d:D}(h:aN G w u x)(hd:x.wF=some d):dc G.S w u d:=by
 cases h with
 |d h=>cases hd;exact h.AI
 |own n xs h hp=>cases hd;exact hp
 |full xs hp=>cases hd;exact hp
 |_=>cases hd
theorem cx.C2{G:Gh}{w:ak8}{a:Act}{s s':St}{b:Nat}(hs:cx G w a s)(h:C2 s b=some s'):∃G',bR G.N G w G' w∧G'.N=G.N∧cx G' w a s':=by
 unfold Go.Proofs.YtpgmcallngdceaaGreatDoor.C2 at h;split at h
 ·next cs hb=>
  split at h
  ·next ds s7=>
   cases h
   obtain⟨z1,z2,vs,T,z3,z4,z5⟩:=hs.inv.cW b _ hb;obtain⟨d1,d2⟩:=Xd cs ds s7;have mQ:b6 s.h G b=some (G.bm b):=dm hb;obtain⟨S,hS⟩:∃S:Nat→Nat→Prop,S=fun b' o=>G.S b' o∨(b'=G.bm b∧o<ds.length):=⟨_,rfl⟩;have hE:bR G.N G w {G with S:=S} w:=⟨akq _,fun b o h=>by show S b o;rw[hS];exact .inl h,fun _ _ _=>rfl,fun _ _=>rfl,fun _ _=> .inl ⟨rfl,rfl⟩,fZ rfl,fun _ _=>rfl,rfl,rfl,rfl,fun b' o hs=>by
    have ck:S b' o:=hs;rw[hS]at ck;rcases ck with h|⟨rfl,_⟩
    ·exact .inl h
    ·exact .inr z1⟩
   have hp:∀off,aN {G with S:=S} w (.pointer (some ⟨G.bm b,off,none⟩)) (.bE [ds] 0 off):=fun off=>by
    have:=aN.bE (G:={G with S:=S}) (w:=w) [ds] 0 off (G.bm b) 0 (fun j=>vs.getD j undef) ds rfl (fun j hj=> ?_) (fun j d hd=> ?_)
    ·rwa [akz]at this
    ·have hX:j<vs.size:=by rw[z4,d1];exact hj
     refine⟨by show S _ _;rw[hS];exact .inr ⟨rfl,by rw[akz];exact hj⟩,?_⟩;rw[akz,cell_of_row w (G.bm b) j vs T (0,0) z3];simp [Array.getD,hX]
    ·have hj:j<ds.length:=(akf.1 hd).1;have hX:j<vs.size:=by rw[z4,d1];exact hj
     have hc:cs[j]?=some cs[j]:=akj (by rw[d1];exact hj);have hv:=z5 j vs[j] _ (akB hX) hc;have e:vs.getD j undef=vs[j]:=by simp [Array.getD,hX]
     rw[e];exact(hv.aeX (d2 j _ d hc hd)).bo hE.S hE.cell
   have hv:∀{u:ak7}{x:AV},aN G w u x→aN {G with S:=S} w u (x.dR b ds):=fun h=>h.dR hE rfl hp;have X7:=(akf.1 hb).1;have dV:∀(n:Nat)(B:aq),((s.h.map (aq.dR b ds)).set b .gone)[n]?=some B→(n=b∧B= .gone)∨(n≠b∧∃B',s.h[n]?=some B'∧B=B'.dR b ds):=fun n B hB=>by
    by_cases e:b=n
    ·subst e;rw[akI (by rw[akk];exact X7)]at hB;cases hB;exact .inl ⟨rfl,rfl⟩
    ·rw[akN e,akm]at hB;cases hx:s.h[n]? with
     |none=>rw[hx]at hB;cases hB
     |some B'=>rw[hx]at hB;cases hB;exact .inr ⟨fun h=>e h.symm,B',rfl,rfl⟩
   have dB:∀n x,b6 ((s.h.map (aq.dR b ds)).set b .gone) {G with S:=S} n=some x→n≠b∧b6 s.h G n=some x:=fun n x hx=>by
    obtain⟨B,hn,hx⟩:=m4 hx;rcases dV n _ hn with⟨_,e⟩|⟨cu,B',h1,rfl⟩
    ·subst e;cases hx
    ·refine⟨cu,?_⟩;rw[dm h1,←hx];cases B'<;>rfl
   refine⟨{G with S:=S},hE,rfl,hs.size,fun i=> ?_,⟨by rw[List.length_set,akk];exact hs.inv.len,hs.inv.z,fun b' o h=> ?_,fun n B hB=> ?_,fun m n x h1 h2=>hs.inv.inj m n x (dB m x h1).2 (dB n x h2).2,hs.inv.gl.bo hE⟩,hs.df⟩
   ·show aN _ _ _ (bB (s.t.map fun p=>(p.1,p.2.dR b ds)) i);rw[D7 (AV.dR b ds) (by simp [AV.dR])];exact hv (hs.tmp i)
   ·have ck:S b' o:=h;rw[hS]at ck;rcases ck with h|⟨rfl,_⟩
    ·exact hs.inv.S b' o h
    ·exact(aku.1 z3).1
   ·rcases dV n B hB with⟨rfl,rfl⟩|⟨cu,B',h1,rfl⟩
    ·trivial
    ·have dD:=hs.inv.cW n B' h1;cases B' with
     |gone=>trivial
     |map kv=>exact dE.bo (G':={G with S:=S}) (hs.inv.lt h1) hE (akq _) ⟨rfl,rfl,rfl⟩ (fun c hc=>⟨rfl,fun o jx hq=>by
      have ck:S c o:=hq;rw[hS]at ck;rcases ck with h|⟨e,_⟩
      ·exact jx h
      ·exact cu (hs.inv.inj n b _ ((dm h1).trans hc) (by rw[e];exact mQ))⟩) dD
     |front e k len=>exact dE.bo (G':={G with S:=S}) (hs.inv.lt h1) hE (akq _) ⟨rfl,rfl,rfl⟩ (fun c hc=>⟨rfl,fun o jx hq=>by
      have ck:S c o:=hq;rw[hS]at ck;rcases ck with h|⟨e,_⟩
      ·exact jx h
      ·exact cu (hs.inv.inj n b _ ((dm h1).trans hc) (by rw[e];exact mQ))⟩) dD
     |cells b7=>
      obtain⟨c1,c2,fh,T',c3,c4,c5⟩:=dD;have lE:b6 s.h G n=some (G.bm n):=dm h1;refine⟨c1,fun o hq=> ?_,fh,T',c3,by rw[akk];exact c4,fun i u c hu hc=> ?_⟩
      ·have ck:S (G.bm n) o:=hq;rw[hS]at ck;rcases ck with h|⟨e,_⟩
       ·exact c2 o h
       ·exact cu (hs.inv.inj n b _ lE (by rw[e];exact mQ))
      ·rw[akm]at hc;cases hx:b7[i]? with
       |none=>rw[hx]at hc;cases hc
       |some x=>rw[hx]at hc;cases hc;exact hv (c5 i u x hu hx)
     |lp ls p as bd b7=>
      obtain⟨c1,c2,fn,fh,T',c3,c4,c5⟩:=dD;have lE:b6 s.h G n=some (G.bm n):=dm h1;refine⟨c1,fun o hq=> ?_,fn,fh,T',c3,by rw[akk];exact c4,fun i u c hu hc=> ?_⟩
      ·have ck:S (G.bm n) o:=hq;rw[hS]at ck;rcases ck with h|⟨e,_⟩
       ·exact c2 o h
       ·exact cu (hs.inv.inj n b _ lE (by rw[e];exact mQ))
      ·rw[akm]at hc;cases hx:b7[i]? with
       |none=>rw[hx]at hc;cases hc
       |some x=>rw[hx]at hc;cases hc;exact hv (c5 i u x hu hx)
     |it sn b7=>
      obtain⟨c1,c2,fn,fh,T',c3,c4,c5⟩:=dD;have lE:b6 s.h G n=some (G.bm n):=dm h1;refine⟨c1,fun o hq=> ?_,fn,fh,T',c3,by rw[akk];exact c4,fun i u c hu hc=> ?_⟩
      ·have ck:S (G.bm n) o:=hq;rw[hS]at ck;rcases ck with h|⟨e,_⟩
       ·exact c2 o h
       ·exact cu (hs.inv.inj n b _ lE (by rw[e];exact mQ))
      ·rw[akm]at hc;cases hx:b7[i]? with
       |none=>rw[hx]at hc;cases hc
       |some x=>rw[hx]at hc;cases hc;exact hv (c5 i u x hu hx)
     |vec e k b7=>
      obtain⟨c1,c2,c3,c4⟩:=dD;refine⟨by rw[akk];exact c1,by rw[akk];exact c2,fun c hc=> ?_,?_⟩
      ·obtain⟨x,hx,rfl⟩:=List.mem_map.1 hc;rw[akk];exact c3 x hx
      ·rcases c4 with⟨d1,d2,A,d3⟩|⟨g,cap,cur,d1,d2,d3,d4,d5,d6,d7,d8,d9⟩
       ·exact .inl ⟨d1,by rw[d2];rfl,A,d3⟩
       ·have lE:b6 s.h G n=some g:=(dm h1).trans d1;refine .inr ⟨g,cap,cur,d1,by rw[akk];exact d2,d3,d4,by rw[akk];exact d5,d6,d7,fun o hq=> ?_,fun i j c x u hc hx hu=> ?_⟩
        ·have ck:S g o:=hq;rw[hS]at ck;rcases ck with h|⟨e,_⟩
         ·exact d8 o h
         ·exact cu (hs.inv.inj n b _ lE (by rw[e];exact mQ))
        ·rw[akm]at hc;cases hy:b7[i]? with
         |none=>rw[hy]at hc;cases hc
         |some y=>
          rw[hy]at hc;cases hc
          rw[akm]at hx;cases hw:y[j]? with
          |none=>rw[hw]at hx;cases hx
          |some z=>rw[hw]at hx;cases hx;exact hv (d9 i j y z u hy hw hu)
  ·cases h
 ·cases h
def D.uf:D→Bool
 | .v u=>u.oneCell'
 | .sl _=>true
mutual
def AV.kill(b:Nat):AV→AV
 | .vec n o len L k=>bif n==b then .dead else .vec n o len L k
 | .cQ n i j L k=>bif n==b then .dead else .cQ n i j L k
 | .agg cs=> .agg (AV.IX b cs)
 | .bk cs=> .bk (AV.IX b cs)
 | .fn f cs=> .fn f (AV.IX b cs)
 |x=>x
def AV.IX(b:Nat):ak3 AV→ak3 AV
 |[]=>[]
 |x::l=>x.kill b::AV.IX b l
end
def aq.jr(f:AV→AV):aq→aq
 | .cells cs=> .cells (cs.map f)
 | .lp ls p as bd cs=> .lp ls p as bd (cs.map f)
 | .it sn cs=> .it sn (cs.map f)
 | .vec e k cs=> .vec e k (cs.map (·.map f))
 |B=>B
theorem abH{G:Gh}{w:ak8}{h:ak3 aq}(hi:bW G w h){b:Nat}{S:Nat→Nat→Prop}{f:AV→AV}(hE:bR G.N G w {G with S:=S} w)(hS:∀c o,S c o→G.S c o∨b6 h G b=some c)(hv:∀{u:ak7}{x:AV},aN G w u x→aN {G with S:=S} w u (f x)):
 bW {G with S:=S} w ((h.map (aq.jr f)).set b .gone):=by
 have dV:∀(n:Nat)(B:aq),((h.map (aq.jr f)).set b .gone)[n]?=some B→(n=b∧B= .gone)∨(n≠b∧∃B',h[n]?=some B'∧B=B'.jr f):=fun n B hB=>by
  by_cases e:b=n
  ·subst e;have a7:=(akf.1 hB).1;rw[List.length_set]at a7;rw[akI a7]at hB;cases hB;exact .inl ⟨rfl,rfl⟩
  ·rw[akN e,akm]at hB;cases hx:h[n]? with
   |none=>rw[hx]at hB;cases hB
   |some B'=>rw[hx]at hB;cases hB;exact .inr ⟨fun h=>e h.symm,B',rfl,rfl⟩
 have dB:∀n x,b6 ((h.map (aq.jr f)).set b .gone) {G with S:=S} n=some x→n≠b∧b6 h G n=some x:=fun n x hx=>by
  obtain⟨B,hn,hx⟩:=m4 hx;rcases dV n _ hn with⟨_,e⟩|⟨cu,B',h1,rfl⟩
  ·subst e;cases hx
  ·refine⟨cu,?_⟩;rw[dm h1,←hx];cases B'<;>rfl
 refine⟨by rw[List.length_set,akk];exact hi.len,hi.z,fun c o hs=> ?_,fun n B hB=> ?_,fun m n x h1 h2=>hi.inj m n x (dB m x h1).2 (dB n x h2).2,hi.gl.bo hE⟩
 ·rcases hS c o hs with h1|h1
  ·exact hi.S c o h1
  ·exact hi.ia h1
 ·rcases dV n B hB with⟨rfl,rfl⟩|⟨cu,B',h1,rfl⟩
  ·trivial
  ·have dD:=hi.cW n B' h1;have fD:∀c,B'.dy G n=some c→∀o,¬G.S c o→¬S c o:=fun c hc o jx hq=>by
    rcases hS c o hq with h2|h2
    ·exact jx h2
    ·exact cu (hi.inj n b c ((dm h1).trans hc) h2)
   cases B' with
   |gone=>trivial
   |map kv=>exact dE.bo (G':={G with S:=S}) (hi.lt h1) hE (akq _) ⟨rfl,rfl,rfl⟩ (fun c hc=>⟨rfl,fD c hc⟩) dD
   |front e k len=>exact dE.bo (G':={G with S:=S}) (hi.lt h1) hE (akq _) ⟨rfl,rfl,rfl⟩ (fun c hc=>⟨rfl,fD c hc⟩) dD
   |cells b7=>
    obtain⟨c1,c2,fh,T',c3,c4,c5⟩:=dD;refine⟨c1,fun o=>fD _ rfl o (c2 o),fh,T',c3,by rw[akk];exact c4,fun i u c hu hc=> ?_⟩;rw[akm]at hc;cases hx:b7[i]? with
    |none=>rw[hx]at hc;cases hc
    |some x=>rw[hx]at hc;cases hc;exact hv (c5 i u x hu hx)
   |lp ls p as bd b7=>
    obtain⟨c1,c2,fn,fh,T',c3,c4,c5⟩:=dD;refine⟨c1,fun o=>fD _ rfl o (c2 o),fn,fh,T',c3,by rw[akk];exact c4,fun i u c hu hc=> ?_⟩;rw[akm]at hc;cases hx:b7[i]? with
    |none=>rw[hx]at hc;cases hc
    |some x=>rw[hx]at hc;cases hc;exact hv (c5 i u x hu hx)
   |it sn b7=>
    obtain⟨c1,c2,fn,fh,T',c3,c4,c5⟩:=dD;refine⟨c1,fun o=>fD _ rfl o (c2 o),fn,fh,T',c3,by rw[akk];exact c4,fun i u c hu hc=> ?_⟩;rw[akm]at hc;cases hx:b7[i]? with
    |none=>rw[hx]at hc;cases hc
    |some x=>rw[hx]at hc;cases hc;exact hv (c5 i u x hu hx)
   |vec e k b7=>
    obtain⟨c1,c2,c3,c4⟩:=dD;refine⟨by rw[akk];exact c1,by rw[akk];exact c2,fun c hc=> ?_,?_⟩
    ·obtain⟨x,hx,rfl⟩:=List.mem_map.1 hc;rw[akk];exact c3 x hx
    ·rcases c4 with⟨d1,d2,A,d3⟩|⟨g,cap,cur,d1,d2,d3,d4,d5,d6,d7,d8,d9⟩
     ·exact .inl ⟨d1,by rw[d2];rfl,A,d3⟩
     ·refine .inr ⟨g,cap,cur,d1,by rw[akk];exact d2,d3,d4,by rw[akk];exact d5,d6,d7,fun o=>fD g d1 o (d8 o),fun i j c x u hc hx hu=> ?_⟩;rw[akm]at hc;cases hy:b7[i]? with
      |none=>rw[hy]at hc;cases hc
      |some y=>
       rw[hy]at hc;cases hc
       rw[akm]at hx;cases hw:y[j]? with
       |none=>rw[hw]at hx;cases hx
       |some z=>rw[hw]at hx;cases hx;exact hv (d9 i j y z u hy hw hu)
mutual
def AV.cw(b kk:Nat)(xs:ak3 (ak3 D)):AV→AV
 | .vec n o len L k=>bif n==b then(bif L==xs.length&&k==kk then .d (.sl ((xs.drop o).take len))else .dead)else .vec n o len L k
 | .cQ n i j L k=>bif n==b then .dead else .cQ n i j L k
 | .agg cs=> .agg (AV.nK b kk xs cs)
 | .bk cs=> .bk (AV.nK b kk xs cs)
 | .fn f cs=> .fn f (AV.nK b kk xs cs)
 |x=>x
def AV.nK(b kk:Nat)(xs:ak3 (ak3 D)):ak3 AV→ak3 AV
 |[]=>[]
 |x::l=>x.cw b kk xs::AV.nK b kk xs l
end
theorem pJ(b kk:Nat)(xs:ak3 (ak3 D)):∀l,AV.nK b kk xs l=l.map (AV.cw b kk xs)
 |[]=>by simp [AV.nK]
 |x::l=>by simp [AV.nK,pJ b kk xs l]
theorem aN.cw{G G':Gh}{w:ak8}{b kk:Nat}{xs:ak3 (ak3 D)}(hE:bR G.N G w G' w)(hN:G'.N=G.N)(hp:∀(u:ak7)(o len:Nat),aN G w u (.vec b o len xs.length kk)→dc G'.S w u (.sl ((xs.drop o).take len))){u:ak7}{x:AV}(h:aN G w u x):aN G' w u (x.cw b kk xs):=by
 have bo:∀{u:ak7}{x:AV},aN G w u x→aN G' w u x:=fun h=>h.bo hE (Nat.le_of_eq hN.symm);have fq:∀(vs:Array ak7)(cs:ak3 AV),(∀(i:Nat)(u:ak7)(c:AV),vs[i]?=some u→cs[i]?=some c→aN G' w u (c.cw b kk xs))→∀(i:Nat)(u:ak7)(c:AV),vs[i]?=some u→(AV.nK b kk xs cs)[i]?=some c→aN G' w u c:=by
  intro vs cs ih i u c hu hc;rw[pJ,akm]at hc;cases hx:cs[i]? with
  |none=>rw[hx]at hc;cases hc
  |some x=>rw[hx]at hc;cases hc;exact ih i u x hu hx
 induction h with
 |agg vs cs hl _ ih=>rw[AV.cw];exact .agg vs _ (by rw[pJ,akk];exact hl) (fq vs cs ih)
 |bk vs cs hl _ ih=>rw[AV.cw];exact .bk vs _ (by rw[pJ,akk];exact hl) (fq vs cs ih)
 |fn f vs cs hl _ ih=>rw[AV.cw];exact .fn f vs _ (by rw[pJ,akk];exact hl) (fq vs cs ih)
 |vec n o len L k h hs hL hf=>
  rw[AV.cw,cond_eq_ite];split
  ·next e=>
   have e:n=b:=by simpa using e
   subst e;rw[cond_eq_ite];split
   ·next e2=>
    rw[akh,beq_iff_eq,beq_iff_eq]at e2;obtain⟨rfl,rfl⟩:=e2;exact .d (hp _ o len (.vec n o len _ _ h hs hL hf))
   ·exact .dead _
  ·exact bo (.vec n o len L k h hs hL hf)
 |cQ n i j L k h hs hL hf=>
  rw[AV.cw,cond_eq_ite];split
  ·exact .dead _
  ·exact bo (.cQ n i j L k h hs hL hf)
 |ptr n off h=>simp only[AV.cw];exact bo (.ptr n off h)
 |own n xs h hp hle hf=>simp only[AV.cw];exact bo (.own n xs h hp hle hf)
 |d h=>simp only[AV.cw];exact bo (.d h)
 |bE xs i off b o u x hx hS hu=>simp only[AV.cw];exact bo (.bE xs i off b o u x hx hS hu)
 |full xs hp hf=>simp only[AV.cw];exact bo (.full xs hp hf)
 |row n off len cap k h hl hm=>simp only[AV.cw];exact bo (.row n off len cap k h hl hm)
 |mp n h=>simp only[AV.cw];exact bo (.mp n h)
 |cH n h=>simp only[AV.cw];exact bo (.cH n h)
 |hid h h1=>simp only[AV.cw];exact bo (.hid h h1)
 |dead u=>simp only[AV.cw];exact .dead u
theorem cx.KB{G:Gh}{w:ak8}{a:Act}{s:St}(hs:cx G w a s)(xs:ak3 (ak3 D)){b e k:Nat}(hb:s.h[b]?=some (.vec e k (bq xs)))(fF:∀c∈xs,c.all D.uf=true)
 :∃G',bR G.N G w G' w∧G'.N=G.N∧cx G' w a ⟨s.n,s.t.map fun p=>(p.1,p.2.cw b k xs),(s.h.map (aq.jr (AV.cw b k xs))).set b .gone⟩:=by
 obtain⟨L,hL⟩:∃L,xs.length=L:=⟨_,rfl⟩;have EX:(bq xs).length=L:=by unfold bq;rw[akk];exact hL
 have gz:=Df hs.inv hb;have lL:∀d∈xs,d.length=k:=fun d hd=>by
  have:=gz (d.map .d) (by unfold bq;exact List.mem_map.2 ⟨d,hd,rfl⟩)
  rwa [akk]at this
 obtain⟨S,hS⟩:∃S:Nat→Nat→Prop,S=fun c o=>G.S c o∨(b6 s.h G b=some c∧o<L*k):=⟨_,rfl⟩;have hE:bR G.N G w {G with S:=S} w:=⟨akq _,fun b o h=>by show S b o;rw[hS];exact .inl h,fun _ _ _=>rfl,fun _ _=>rfl,fun _ _=> .inl ⟨rfl,rfl⟩,fZ rfl,fun _ _=>rfl,rfl,rfl,rfl,fun c o hq=>by
  have ck:S c o:=hq;rw[hS]at ck;rcases ck with h|⟨h,_⟩
  ·exact .inl h
  ·obtain⟨B,hB,eW⟩:=m4 h;exact .inr ((hs.inv.cW b B hB).lI eW)⟩
 have U2:∀(u:ak7)(o len:Nat),aN G w u (.vec b o len xs.length k)→dc S w u (.sl ((xs.drop o).take len)):=fun u o len mX=>by
  rw[hL]at mX;have jU:=mX.zk hs.inv hb EX;obtain⟨JJ,⟨A,cc,q1,q2,q3,q4,q5⟩,_⟩:=jU;generalize hy:(xs.drop o).take len=ys;have xx:ys.length=len:=by rw[←hy,List.length_take,List.length_drop];omega
  rw[q1,←xx];show dc S w _ _;by_cases hh0:True
  ·skip
   by_cases h0:len=0
   ·have:ys=[]:=List.eq_nil_of_length_eq_zero (by omega);subst this;exact .sl A 0 0 cc 0 [] (fun _ _=>undef) (fun h=>absurd rfl h) (Nat.zero_le _) q3 (fun _ h=>absurd h akV) (fun i j hi=>absurd hi (akH _)) (fun i j x d hx=>by simp at hx)
   ·obtain⟨g,cap,s1,rfl,s3⟩:=q5 (by omega);obtain⟨g',KZ,cur,r1,r2,r3,r4,r5,r6,r7,r8,r9⟩:=I9 hs.inv hb (fun e=>by rw[e]at EX;simp at EX;omega);rw[r2]at s1;cases s1
    have mQ:b6 s.h G b=some g:=(dm hb).trans r1;have iC:∀i,i<len→ys[i]?=xs[o+i]?:=fun i di=>by rw[←hy,List.getElem?_take_of_lt di,List.getElem?_drop]
    have gb:∀i j,i<len→j<k→o*k+i*k+j<cur.size:=fun i j hi hj=>by
     have:=lh (i:=o+i) (k:=k) (L:=(bq xs).length) (j:=j) (by omega) hj;rw[Nat.add_mul]at this;have h2:(bq xs).length*k≤cap*k:=Nat.mul_le_mul_right k (by omega);rw[r7];omega
    have lU:∀(i j:Nat)(x:ak3 D)(d:D),i<len→ys[i]?=some x→x[j]?=some d→aN G w (cur.getD (o*k+i*k+j) undef) (.d d):=fun i j x d hi hx hd=>by
     rw[iC i hi]at hx;have hj:j<k:=by rw[←lL x (aks hx)];exact(akf.1 hd).1
     refine r9 (o+i) j (x.map .d) (.d d) _ (by unfold bq;rw[akm,hx];rfl) (by rw[akm,hd];rfl) ?_;have hc:=gb i j hi hj;rw[show(o+i)*k+j=o*k+i*k+j by rw[Nat.add_mul]];simp [Array.getD,hc]
    refine .sl _ g (o*k) cc k ys (fun i j=>cur.getD (o*k+i*k+j) undef) (fun _=>rfl) (by omega) q3 (fun x hx=> ?_) (fun i j hi hj=>⟨?_,?_,?_⟩) (fun i j x d hx hd=> ?_)
    ·rw[←hy]at hx;exact lL x (List.mem_of_mem_drop (List.mem_of_mem_take hx))
    ·rw[hS];refine .inr ⟨mQ,?_⟩;have:=lh (i:=o+i) (k:=k) (L:=(bq xs).length) (j:=j) (by omega) hj;rw[Nat.add_mul]at this;exact this
    ·rw[cell_of_row w g _ cur e (0,0) r4];have hc:=gb i j (by omega) hj;simp [Array.getD,hc]
    ·have di:i<len:=by omega
     obtain⟨x,hx⟩:∃x,ys[i]?=some x:=⟨_,akj hi⟩;have mn:=hx;rw[iC i di]at mn;have mm:=aks mn;obtain⟨d,hd⟩:∃d,x[j]?=some d:=⟨_,akj (by rw[lL x mm];exact hj)⟩;refine(lU i j x d di hx hd).ji ?_;have h1:=fF x mm;rw[akF]at h1;have h2:=h1 d (aks hd);cases d with
     |v u=>exact h2
     |sl l=>rfl
    ·have di:i<len:=by rw[←xx];exact(akf.1 hx).1
     have:=lU i j x d di hx hd;generalize cur.getD (o*k+i*k+j) undef=q at this;cases this with|d h=>exact h.bo hE.S hE.cell
  ·exact(hh0 trivial).elim
 have hinv:=abH (b:=b) (f:=AV.cw b k xs) hs.inv hE (fun c o hq=>by rw[hS]at hq;exact hq.imp id And.left) (fun hq=>hq.cw hE rfl U2);have ck:cx {G with S:=S} w a ⟨s.n,s.t.map fun p=>(p.1,p.2.cw b k xs),(s.h.map (aq.jr (AV.cw b k xs))).set b .gone⟩:=by
  refine⟨hs.size,fun i=> ?_,hinv,hs.df⟩;show aN _ _ _ (bB (s.t.map fun p=>(p.1,p.2.cw b k xs)) i);rw[D7 (AV.cw b k xs) (by simp [AV.cw])];exact(hs.tmp i).cw hE rfl U2
 exact⟨_,hE,rfl,ck⟩
def xm(P:ak6)(rs:ak3 ResultVar)(m:Nat)(s:St):ak5 (AV×ak3 aq):=
 match p6 P s rs with
 |some l=>bif cf m s.h.length&&((iE l).bA m).aT m&&(((s.h.take m).map (aq.bA m)).all (aq.aT m))then some (((iE l).bA m).nrm,((s.h.take m).map (aq.bA m)).map aq.nE)else none
 |none=>none
def zQ(P:ak6)(fn:Func)(m:Nat)(R:AV)(H:ak3 aq):Exit→St→Prop
 | .normal,s=>xm P fn.results.toList m s=some (R,H)
 | .ret,s=>xm P fn.results.toList m s=some (R,H)
 |_,_=>False
theorem W3{P:ak6}{s:St}{fn:Func}{m:Nat}{R:AV}{H:ak3 aq}(h:xm P fn.results.toList m s=some (R,H)):oW P fn m (fun r h'=>r.nrm=R∧h'.map aq.nE=H) s:=by
 unfold xm at h;split at h
 ·next l e=>
  obtain⟨hb,he⟩:=dt h;cases he
  simp only[akh,dk]at hb;exact Dw _ _ _ e ⟨hb.1.1,hb.1.2,hb.2,rfl,rfl⟩
 ·cases h
theorem TV{P:ak6}{s:St}{fn:Func}{m:Nat}{R:AV}{H:ak3 aq}(h:xm P fn.results.toList m s=some (R,H)):zQ P fn m R H .ret s:=h
theorem LH{P:ak6}{f:FuncId}{fn:Func}{c:Code}{args:ak3 AV}{h H:ak3 aq}{R:AV}(m:Nat)(hf:P.funcs[f]?=some fn)(hb:fn.body=some c)(hn:(fn.name== "runtime.NumGoroutine")=false)(hm:h.length≤m)
 (hw:bJ P none h.length c (zQ P fn m R H) {n:=args.length+(fn.ntmps-args.length),t:=jR 0 args,h:=h}):bQ P f args h fun r1 h1=>r1=R∧h1=H:=by
 have h0:=zL (P:=P) (f:=f) (args:=args) (h:=h) (K:=fun r h'=>r.nrm=R∧h'.map aq.nE=H) m hf hb hn hm (hw.mono fun e s hq=>by
  cases e with
  |normal=>exact W3 hq
  |ret=>exact W3 hq
  |_=>exact hq.elim)
 refine⟨h0.1,fun G w vs hi hl hr=>(h0.2 G w vs hi hl hr).mono fun e w' hp=> ?_⟩;obtain⟨v,G',x,h',rfl,hE,hN,di,hv,rfl,rfl⟩:=hp;exact⟨v,G',x.nrm,_,rfl,hE,hN,Pr di,hv.nrm,rfl,rfl⟩
theorem B8{P:ak6}{r:ak5 Nat}{N0:Nat}{c:Code}{s s':St}{Q:Exit→St→Prop}(e:s=s')(h:bJ P r N0 c Q s'):bJ P r N0 c Q s:=e▸h
def gI(g:Nat):ak3 Int:=((yx yc g).getD []).map fun v=>match v with| .int _ n=>n|_=>0
def aiW(l:ak3 Int):ak4:=⟨(l.map fun n=>UInt8.ofNat n.toNat).toArray⟩
end Go.Proofs.YtpgmcallngdceaaGreatDoor
