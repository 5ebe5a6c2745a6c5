/-
  Part 19 of the proof: Top.
-/
import Derived.Test.YtphmhnabilhbgaaGreatDoorPk18
import Derived.Test.YtphmhnabilhbgaaGreatDoorRows
import Derived.ProofKit
import Derived.OpenShut
import Derived.ShutString
import Derived.ChangeOld
import Derived.Lib.LaidTab
import Derived.LaidHandle
import Derived.JoinedOf
import Derived.ChangeVars
namespace Go.Proofs.YtphmhnabilhbgaaGreatDoor
open Go.RowKit
set_option maxRecDepth 100000
theorem ack{P:Program}{W:World}{name:String}{k:IntKind}{zs:List Int}{l:List (String×DataW Unit)}{g:Nat}{t e:TypeId}{n:Nat}
 (hg:P.globalNamed name=some g) (BH:(P.globals[g]?).map (·.type)=some t) (ht:P.underlying t=some (.array n e)) (he:P.underlying e=some (.int k)) (hce:P.cellsOf e=1) (V4:P.cellsOf t=n)
 (h:laidMet P l W) (hm:(name,Lib.tabData k zs)∈l):Lib.TabIs P W name k zs:=by
 obtain⟨ps,hl,hx⟩:=h;clear hx
 induction l generalizing ps with
 |nil=>cases hm
 |cons x r ih=>
  obtain⟨x1,x2⟩:=x;obtain⟨g',t',cs,fuel,p,q,qG,pA,abx,hd,hr,_⟩:=hl;rcases agX.1 hm with hm|hm
  ·cases hm
   obtain rfl:=agM (hg.symm.trans qG);obtain rfl:=agM (BH.symm.trans pA);unfold Lib.TabIs;rw[abx,←Lib.cells_of_tab ht he hce V4 hd]
  ·exact ih hm q hr
def HJ(W:World):Prop:=∀(g:Nat)(l:List Value),(g,l)∈yw→∀(j:Nat)(v:Value),l[j]?=some v→W.cell? ⟨g,j,none⟩=some v
def Hj(W:World):Gh:={N:=0,Z:=fun b=>b<W.heap.size,S:=fun b _=>b<W.heap.size,bo:=fun _=>0,sg:=fun _=>undef,ow:=fun _=>none,fl:=fun _=>0,M:=0}
theorem WC{W:World}(h:HJ W):cf (Hj W) W []:=by
 refine⟨rfl,fun b hb=>hb,fun b _ hb=>hb,fun n B hB=>by simp at hB,fun m n b hm=> ?_,fun g l hm j v hv=>⟨World.block_lt_of_cell? W _ (h g l hm j v hv),h g l hm j v hv⟩,Nat.zero_le _⟩;rw[xm (by simp)]at hm;cases hm
theorem Yx{P:Program}{f:FuncId}{args:List AV}{r:AV}(h:bm P f args (·=r)){W:World}(hT:HJ W)(vs:Array Value)(hl:vs.size=args.length)
 (hv:∀(i:Nat)(u:Value)(c:AV),vs[i]?=some u→args[i]?=some c→aG (Hj W) W u c):
 Calls P f vs W fun e W'=>∃v G',e= .returned v∧aG G' W' v r∧Below W.heap.size W W':=by
 refine(h.2 (Hj W) W vs (WC hT) hl hv).mono fun e W' hp=> ?_;obtain⟨v,G',r',h',rfl,hE,_,_,hr,_,rfl⟩:=hp;exact⟨v,G',rfl,hr,hE.os,hE.tape,hE.output,hE.size,fun k hk=>hE.old k hk⟩
theorem abK{P:Program}{f:FuncId}{args:List AV}(h:bm P f args (·= .d (.v (.bool true)))){W:World}(hT:HJ W)(vs:Array Value)(hl:vs.size=args.length)
 (hv:∀(i:Nat)(u:Value)(c:AV),vs[i]?=some u→args[i]?=some c→aG (Hj W) W u c):
 Calls P f vs W fun e W'=>e= .returned (.bool true)∧Below W.heap.size W W':=
 (Yx h hT vs hl hv).mono fun e W' hp=>by
  obtain⟨v,G',rfl,hr,hb⟩:=hp;cases hr with
  |d h=>cases h;exact⟨rfl,hb⟩
theorem aeH(l:List Nat):Fl l=(l.map Int.ofNat).map (fun z=>Value.int .u8 z):=by simp [Fl,List.map_map,Function.comp_def]
theorem aai{P:Program}{W:World}{name:String}{k:IntKind}{zs:List Int}{g:Nat}(h:Lib.TabIs P W name k zs)(hg:P.globalNamed name=some g)(j:Nat)(v:Value)(hj:(zs.map fun z=>Value.int k z)[j]?=some v):W.cell? ⟨g,j,none⟩=some v:=by
 rw[agA]at hj;cases hz:zs[j]? with
 |none=>rw[hz]at hj;cases hj
 |some z=>
  rw[hz]at hj;cases hj
  have aO:j<zs.length:=(agt.1 hz).1;have:=h.cell hg j aO;rw[List.getD_eq_getElem?_getD,hz]at this;exact this
def sc:List (String×DataW Unit):=Rows.inlineOneRow.laid
theorem aeT:(sc.filter fun x=>x.2.handleName?.isSome)=[]:=by kernel_rfl
theorem W8{W:World}(h:laidMetH Tryz.prog sc W):laidMet Tryz.prog sc W:=by
 unfold laidMetH at h;rw[aeT]at h;exact h
theorem YC{W:World}(h:laidMetH Tryz.prog sc W):HJ W:=by
 have hL:=W8 h;intro g l hm j v hv;unfold yw at hm;simp only[agX,Prod.mk.injEq,ag9,or_false]at hm;rcases hm with⟨rfl,rfl⟩
 ·rw[aeH]at hv;exact aai (ack (by kernel_rfl) (t:=235) (by kernel_rfl) Tryz.underlying235 Tryz.underlying5 (by kernel_rfl) (by kernel_rfl) hL (name:= "strings.asciiSpace") (g:=0) (agG (i:=1) (by kernel_rfl))) (by kernel_rfl) j v hv
theorem aaL:ownKnob Tryz.prog.godebug=none:=by kernel_rfl
def Nr(h:Array Obj)(g:Nat)(l:List Value):Array Obj:=h.modify g fun
 | .cells _ t frozen=> .cells l.toArray t frozen
 |o=>o
def vV(a b c:Nat):List Value:=[.int .u16 (Int.ofNat a), .int .u16 (Int.ofNat b), .int .u16 (Int.ofNat c)]
def Wa:List Value:=vV 9 13 1++(vV 32 133 101++(vV 160 5760 5600++(vV 8192 8202 1++(vV 8232 8233 1++(vV 8239 8287 48++vV 12288 12288 1)))))
noncomputable def Ag(os:Os):World:=
 let w0:=World.holding Tryz.prog os ⟨#[], #[],[]⟩
 {w0 with heap:=((Nr (Nr w0.heap 0 (Fl RJ)) 2 [.pointer (some ⟨w0.heap.size,0,none⟩)]).push
    (.cells #[.slice (some ⟨w0.heap.size+1,0,none⟩) 7 7, .slice none 0 0, .int .i64 2] 251)).push (.cells Wa.toArray 254)}
theorem Vx(os:Os)(args:Array Value):laidMetH Tryz.prog sc ((Ag os).forCall (fun _ _=>0) ⟨#[],args,[]⟩).memory:=
 laidMetH_of_parts (laidMet_of_run' 8 (by kernel_rfl) (by kernel_rfl)) (by kernel_rfl)
def IC(P:Program)(w:World)(t:TypeId)(v:Value):Bool:=
 match P.underlying t,v with
 |some (.pointer e), .pointer (some a)=>a.spot.isNone&&(match w.shape? a.block with
  |some (row,cells)=>liesAt P P.depth row (cells / P.cellsOf row) a.off e 1
  |none=>false)
 |_,v=>Cell.okB P t v
theorem YU{P:Program}{w:World}{t:TypeId}{v:Value}(h:IC P w t v=true):Cell.ok P w .any 0 t v:=by
 unfold IC at h;split at h
 ·next e a ht=>
  rw[agv]at h;unfold Cell.ok;simp only[ht];obtain⟨h1,h2⟩:=h;split at h2
  ·next row cells hs=>exact⟨trivial,by simpa using h1,row,cells,hs,h2⟩
  ·cases h2
 ·exact Cell.ok_of_okB h
def MI(P:Program)(w:World)(t:TypeId)(cs:Array Value):Bool:=
 match P.cellTypes P.depth t with
 |some ts=>cs.size%ts.length==0&&(List.range cs.size).all fun i=>
  match cs[i]?,ts[i%ts.length]? with
  |some v,some u=>IC P w u v
  |_,_=>false
 |none=>false
theorem Yc{P:Program}{w:World}{t:TypeId}{cs:Array Value}(h:MI P w t cs=true):Row.ok P w .any 0 t cs:=by
 unfold MI at h;split at h
 ·rename_i ts rR
  simp only[agv,beq_iff_eq,agT,List.mem_range]at h;refine⟨ts,rR,⟨cs.size / ts.length,(Nat.div_mul_cancel (Nat.dvd_of_mod_eq_zero h.1)).symm⟩,fun i v hv=> ?_⟩;have hi:i<cs.size:=(agI.1 hv).1;have:=h.2 i hi;rw[hv]at this;cases hu:ts[i%ts.length]? with
  |none=>simp [hu]at this
  |some u=>simp only[hu]at this;exact⟨u,rfl,YU this⟩
 ·cases h
def Ot(P:Program)(w:World):Bool:=
 let w₀:=(begin P (fun _ _=>0) default).world
 (List.range P.globals.size).all fun g=>
  match (w₀.heap[g]?).bind Obj.row? with
  |none=>true
  |some (zero,t)=>
   match w.heap[g]? with
   |some (.cells cs t' frozen)=>decide (t'=t)&&decide (frozen=(0,0))&&cs.size==zero.size&&(!P.buildable t||MI P w t cs)
   |_=>false
theorem XY{P:Program}{w:World}(hv:Ot P w=true)
 (hr:(w.heap.toList.drop P.globals.size).take ((begin P (fun _ _=>0) default).world.heap.size-P.globals.size)=
  (begin P (fun _ _=>0) default).world.heap.toList.drop P.globals.size):w.Shaped P:=by
 refine⟨fun g zero t hg hz=> ?_,fun k h1 h2=> ?_⟩
 case refine_2=>
  have:=congrArg (·[k-P.globals.size]?) hr;simp only[List.getElem?_take,List.getElem?_drop,agQ]at this;rw[if_pos (by omega),Nat.add_sub_cancel' h1]at this;exact this
 unfold Ot at hv;simp only[agT,List.mem_range]at hv;have:=hv g hg;rw[hz]at this;simp only at this;split at this
 ·rename_i cs t' fr hw
  simp only[agv,decide_eq_true_eq,beq_iff_eq,Bool.or_eq_true,Bool.not_eq_true']at this;obtain⟨⟨⟨rfl,rfl⟩,hs⟩,hb⟩:=this;refine⟨cs,hw,hs,fun afN=> ?_⟩;rcases hb with hb|hb
  ·rw[afN]at hb;cases hb
  ·exact Yc hb
 ·cases this
theorem VF(os:Os)(args:Array Value):((Ag os).forCall (fun _ _=>0) ⟨#[],args,[]⟩).Shaped Tryz.prog:=XY (by kernel_rfl) (by kernel_rfl)
theorem adL{H:Type}{enc:TypeId×Value→H}{os:Os}{f:FuncId}{fn:Func}{s:ChangeSpec}{apart:Bool}(modest:Bool)(args:Array Value)(fuel:Nat)
 (cu:Input.okWideB Tryz.prog ((Ag os).forCall (fun _ _=>0) ⟨#[],args,[]⟩) f ⟨#[],args,[]⟩=true)
 (ae4:s.preB enc Tryz.prog fn [] apart ((Ag os).forCall (fun _ _=>0) ⟨#[],args,[]⟩).memory args fuel=true)
 (g7:s.sizedB enc Tryz.prog fn apart ((Ag os).forCall (fun _ _=>0) ⟨#[],args,[]⟩).memory args fuel=true):
 ∃(w:World)(tape:Tape)(i:Input),w.os=os∧(w.forCall tape i).Shaped Tryz.checked.prog∧i.vars=[]∧Input.okWide Tryz.checked.prog (w.forCall tape i) .any w.heap.size f i∧
  ((s.pre enc Tryz.checked.prog fn [] apart (w.forCall tape i).memory i.args∧laidMetH Tryz.prog sc (w.forCall tape i).memory)∧sizedMet enc Tryz.checked.prog fn (OpenSpec.ofChange s) apart (w.forCall tape i).memory i.args)∧({modest:=modest}:Assume).holds Tryz.checked.prog (lone (Frame.enter Tryz.checked.prog f i.args .normal) [] (w.forCall tape i)):=
 ⟨Ag os,fun _ _=>0,⟨#[],args,[]⟩,rfl,VF os args,(Input.okWide_of_okWideB (base:=0) cu).1,(Input.okWide_of_okWideB cu).2,⟨⟨ChangeSpec.pre_of_preB ae4,Vx os args⟩,sizedMet_of_sizedB g7⟩,by
  simp only[Assume.holds];exact⟨by simp,by simp,fun _=>Modest.zero,by simp,by simp⟩⟩
end Go.Proofs.YtphmhnabilhbgaaGreatDoor
