/-
  Part 18 of the proof: Top.
-/
import Derived.Test.YtphmhnabilhbgaaGreatDoorPm17
import Derived.Test.YtphmhnabilhbgaaGreatDoorRows
import Derived.ProofKit
import Derived.OpenShut
import Derived.ShutString
import Derived.ChangeOld
import Derived.Lib.LaidTab
import Derived.LaidHandle
import Derived.JoinedOf
import Derived.ChangeVars
namespace Go.Proofs.YtphmhnabilhbgaaGreatDoor
open Go.RowKit
set_option maxRecDepth 100000
theorem adG{P:agX}{W:agZ}{name:String}{k:IntKind}{zs:agU Int}{l:agU (String×DataW Unit)}{g:Nat}{t e:TypeId}{n:Nat}
 (hg:P.globalNamed name=some g) (Cw:(P.globals[g]?).map (·.type)=some t) (ht:P.underlying t=some (.array n e)) (he:P.underlying e=some (.int k)) (YX:P.cellsOf e=1) (XD:P.cellsOf t=n)
 (h:laidMet P l W) (hm:(name,Lib.tabData k zs)∈l):Lib.TabIs P W name k zs:=by
 obtain⟨ps,hl,hx⟩:=h;clear hx
 induction l generalizing ps with
 |nil=>cases hm
 |cons x r ih=>
  obtain⟨x1,x2⟩:=x;obtain⟨g',t',cs,fuel,p,q,pW,n6,aed,hd,hr,_⟩:=hl;rcases agA.1 hm with hm|hm
  ·cases hm
   obtain rfl:=agp (hg.symm.trans pW);obtain rfl:=agp (Cw.symm.trans n6);unfold Lib.TabIs;rw[aed,←Lib.cells_of_tab ht he YX XD hd]
  ·exact ih hm q hr
def CT(W:agZ):Prop:=∀(g:Nat)(l:agU agY),(g,l)∈wL→∀(j:Nat)(v:agY),l[j]?=some v→W.cell? ⟨g,j,none⟩=some v
def Fa(W:agZ):Gh:={N:=0,Z:=fun b=>b<W.heap.size,S:=fun b _=>b<W.heap.size,bg:=fun _=>0,sg:=fun _=>undef,ow:=fun _=>none,fl:=fun _=>0,M:=0}
theorem acs{W:agZ}(h:CT W):bO (Fa W) W []:=by
 refine⟨rfl,fun b hb=>hb,fun b _ hb=>hb,fun n B hB=>by simp at hB,fun m n b hm=> ?_,fun g l hm j v hv=>⟨World.block_lt_of_cell? W _ (h g l hm j v hv),h g l hm j v hv⟩,Nat.zero_le _⟩;rw[vF (by simp)]at hm;cases hm
theorem VB{P:agX}{f:FuncId}{args:agU AV}{r:AV}(h:bA P f args (·=r)){W:agZ}(hT:CT W)(vs:Array agY)(hl:vs.size=args.length)
 (hv:∀(i:Nat)(u:agY)(c:AV),vs[i]?=some u→args[i]?=some c→aE (Fa W) W u c):
 Calls P f vs W fun e W'=>∃v G',e= .returned v∧aE G' W' v r∧Below W.heap.size W W':=by
 refine(h.2 (Fa W) W vs (acs hT) hl hv).mono fun e W' hp=> ?_;obtain⟨v,G',r',h',rfl,hE,_,_,hr,_,rfl⟩:=hp;exact⟨v,G',rfl,hr,hE.os,hE.tape,hE.output,hE.size,fun k hk=>hE.old k hk⟩
theorem Zh{P:agX}{f:FuncId}{args:agU AV}(h:bA P f args (·= .d (.v (.bool true)))){W:agZ}(hT:CT W)(vs:Array agY)(hl:vs.size=args.length)
 (hv:∀(i:Nat)(u:agY)(c:AV),vs[i]?=some u→args[i]?=some c→aE (Fa W) W u c):
 Calls P f vs W fun e W'=>e= .returned (.bool true)∧Below W.heap.size W W':=
 (VB h hT vs hl hv).mono fun e W' hp=>by
  obtain⟨v,G',rfl,hr,hb⟩:=hp;cases hr with
  |d h=>cases h;exact⟨rfl,hb⟩
theorem afn(l:agU Nat):uf l=(l.map Int.ofNat).map (fun z=>Value.int .u8 z):=by simp [uf,List.map_map,Function.comp_def]
theorem WH{P:agX}{W:agZ}{name:String}{k:IntKind}{zs:agU Int}{g:Nat}(h:Lib.TabIs P W name k zs)(hg:P.globalNamed name=some g)(j:Nat)(v:agY)(hj:(zs.map fun z=>Value.int k z)[j]?=some v):W.cell? ⟨g,j,none⟩=some v:=by
 rw[agc]at hj;cases hz:zs[j]? with
 |none=>rw[hz]at hj;cases hj
 |some z=>
  rw[hz]at hj;cases hj
  have aN:j<zs.length:=(af5.1 hz).1;have:=h.cell hg j aN;rw[List.getD_eq_getElem?_getD,hz]at this;exact this
def rY:agU (String×DataW Unit):=Rows.inlineOneRow.laid
theorem adL:(rY.filter fun x=>x.2.handleName?.isSome)=[]:=by kernel_rfl
theorem X1{W:agZ}(h:laidMetH Tryz.prog rY W):laidMet Tryz.prog rY W:=by
 unfold laidMetH at h;rw[adL]at h;exact h
theorem adM{W:agZ}(h:laidMetH Tryz.prog rY W):CT W:=by
 have hL:=X1 h;intro g l hm j v hv;unfold wL at hm;simp only[agA,Prod.mk.injEq,agM,or_false]at hm;rcases hm with⟨rfl,rfl⟩
 ·rw[afn]at hv;exact WH (adG (by kernel_rfl) (t:=235) (by kernel_rfl) Tryz.underlying235 Tryz.underlying5 (by kernel_rfl) (by kernel_rfl) hL (name:= "strings.asciiSpace") (g:=0) (agj (i:=1) (by kernel_rfl))) (by kernel_rfl) j v hv
theorem YJ:ownKnob Tryz.prog.godebug=none:=by kernel_rfl
def Ow(h:Array Obj)(g:Nat)(l:agU agY):Array Obj:=h.modify g fun
 | .cells _ t frozen=> .cells l.toArray t frozen
 |o=>o
def tz(a b c:Nat):agU agY:=[.int .u16 (Int.ofNat a), .int .u16 (Int.ofNat b), .int .u16 (Int.ofNat c)]
def Vo:agU agY:=tz 9 13 1++(tz 32 133 101++(tz 160 5760 5600++(tz 8192 8202 1++(tz 8232 8233 1++(tz 8239 8287 48++tz 12288 12288 1)))))
noncomputable def xc(os:Os):agZ:=
 let w0:=World.holding Tryz.prog os ⟨#[], #[],[]⟩
 {w0 with heap:=((Ow (Ow w0.heap 0 (uf AL)) 2 [.pointer (some ⟨w0.heap.size,0,none⟩)]).push
    (.cells #[.slice (some ⟨w0.heap.size+1,0,none⟩) 7 7, .slice none 0 0, .int .i64 2] 251)).push (.cells Vo.toArray 254)}
theorem aeZ(os:Os)(args:Array agY):laidMetH Tryz.prog rY ((xc os).forCall (fun _ _=>0) ⟨#[],args,[]⟩).memory:=
 laidMetH_of_parts (laidMet_of_run' 8 (by kernel_rfl) (by kernel_rfl)) (by kernel_rfl)
def Lr(P:agX)(w:agZ)(t:TypeId)(v:agY):Bool:=
 match P.underlying t,v with
 |some (.pointer e), .pointer (some a)=>a.spot.isNone&&(match w.shape? a.block with
  |some (row,cells)=>liesAt P P.depth row (cells / P.cellsOf row) a.off e 1
  |none=>false)
 |_,v=>Cell.okB P t v
theorem Y7{P:agX}{w:agZ}{t:TypeId}{v:agY}(h:Lr P w t v=true):Cell.ok P w .any 0 t v:=by
 unfold Lr at h;split at h
 ·next e a ht=>
  rw[af7]at h;unfold Cell.ok;simp only[ht];obtain⟨h1,h2⟩:=h;split at h2
  ·next row cells hs=>exact⟨trivial,by simpa using h1,row,cells,hs,h2⟩
  ·cases h2
 ·exact Cell.ok_of_okB h
def Lm(P:agX)(w:agZ)(t:TypeId)(cs:Array agY):Bool:=
 match P.cellTypes P.depth t with
 |some ts=>cs.size%ts.length==0&&(List.range cs.size).all fun i=>
  match cs[i]?,ts[i%ts.length]? with
  |some v,some u=>Lr P w u v
  |_,_=>false
 |none=>false
theorem aaO{P:agX}{w:agZ}{t:TypeId}{cs:Array agY}(h:Lm P w t cs=true):Row.ok P w .any 0 t cs:=by
 unfold Lm at h;split at h
 ·rename_i ts q8
  simp only[af7,beq_iff_eq,agw,List.mem_range]at h;refine⟨ts,q8,⟨cs.size / ts.length,(Nat.div_mul_cancel (Nat.dvd_of_mod_eq_zero h.1)).symm⟩,fun i v hv=> ?_⟩;have hi:i<cs.size:=(agl.1 hv).1;have:=h.2 i hi;rw[hv]at this;cases hu:ts[i%ts.length]? with
  |none=>simp [hu]at this
  |some u=>simp only[hu]at this;exact⟨u,rfl,Y7 this⟩
 ·cases h
def SM(P:agX)(w:agZ):Bool:=
 let w₀:=(begin P (fun _ _=>0) default).world
 (List.range P.globals.size).all fun g=>
  match (w₀.heap[g]?).bind Obj.row? with
  |none=>true
  |some (zero,t)=>
   match w.heap[g]? with
   |some (.cells cs t' frozen)=>decide (t'=t)&&decide (frozen=(0,0))&&cs.size==zero.size&&(!P.buildable t||Lm P w t cs)
   |_=>false
theorem Yz{P:agX}{w:agZ}(hv:SM P w=true)
 (hr:(w.heap.toList.drop P.globals.size).take ((begin P (fun _ _=>0) default).world.heap.size-P.globals.size)=
  (begin P (fun _ _=>0) default).world.heap.toList.drop P.globals.size):w.Shaped P:=by
 refine⟨fun g zero t hg hz=> ?_,fun k h1 h2=> ?_⟩
 case refine_2=>
  have:=congrArg (·[k-P.globals.size]?) hr;simp only[List.getElem?_take,List.getElem?_drop,agt]at this;rw[if_pos (by omega),Nat.add_sub_cancel' h1]at this;exact this
 unfold SM at hv;simp only[agw,List.mem_range]at hv;have:=hv g hg;rw[hz]at this;simp only at this;split at this
 ·rename_i cs t' fr hw
  simp only[af7,decide_eq_true_eq,beq_iff_eq,Bool.or_eq_true,Bool.not_eq_true']at this;obtain⟨⟨⟨rfl,rfl⟩,hs⟩,hb⟩:=this;refine⟨cs,hw,hs,fun Wm=> ?_⟩;rcases hb with hb|hb
  ·rw[Wm]at hb;cases hb
  ·exact aaO hb
 ·cases this
theorem adW(os:Os)(args:Array agY):((xc os).forCall (fun _ _=>0) ⟨#[],args,[]⟩).Shaped Tryz.prog:=Yz (by kernel_rfl) (by kernel_rfl)
theorem X0{H:Type}{enc:TypeId×agY→H}{os:Os}{f:FuncId}{fn:Func}{s:ChangeSpec}{apart:Bool}(modest:Bool)(args:Array agY)(fuel:Nat)
 (b7:Input.okWideB Tryz.prog ((xc os).forCall (fun _ _=>0) ⟨#[],args,[]⟩) f ⟨#[],args,[]⟩=true)
 (ad6:s.preB enc Tryz.prog fn [] apart ((xc os).forCall (fun _ _=>0) ⟨#[],args,[]⟩).memory args fuel=true)
 (fZ:s.sizedB enc Tryz.prog fn apart ((xc os).forCall (fun _ _=>0) ⟨#[],args,[]⟩).memory args fuel=true):
 ∃(w:agZ)(tape:Tape)(i:Input),w.os=os∧(w.forCall tape i).Shaped Tryz.checked.prog∧i.vars=[]∧Input.okWide Tryz.checked.prog (w.forCall tape i) .any w.heap.size f i∧
  ((s.pre enc Tryz.checked.prog fn [] apart (w.forCall tape i).memory i.args∧laidMetH Tryz.prog rY (w.forCall tape i).memory)∧sizedMet enc Tryz.checked.prog fn (OpenSpec.ofChange s) apart (w.forCall tape i).memory i.args)∧({modest:=modest}:Assume).holds Tryz.checked.prog (lone (Frame.enter Tryz.checked.prog f i.args .normal) [] (w.forCall tape i)):=
 ⟨xc os,fun _ _=>0,⟨#[],args,[]⟩,rfl,adW os args,(Input.okWide_of_okWideB (base:=0) b7).1,(Input.okWide_of_okWideB b7).2,⟨⟨ChangeSpec.pre_of_preB ad6,aeZ os args⟩,sizedMet_of_sizedB fZ⟩,by
  simp only[Assume.holds];exact⟨by simp,by simp,fun _=>Modest.zero,by simp,by simp⟩⟩
end Go.Proofs.YtphmhnabilhbgaaGreatDoor
