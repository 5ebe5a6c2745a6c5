/-
  Part 22 of the proof: Top.
-/
import Derived.Test.YtpgmcallngdceaaGreatDoorSe21
import Derived.Test.YtpgmcallngdceaaGreatDoorRows
import Derived.ProofKit
import Derived.OpenShut
import Derived.ShutString
import Derived.ChangeOld
import Derived.Lib.LaidTab
import Derived.LaidHandle
import Derived.JoinedOf
import Derived.ChangeVars
namespace Go.Proofs.YtpgmcallngdceaaGreatDoor
open Go.RowKit
set_option maxRecDepth 100000
theorem Zy{P:ak6}{W:ak8}{name:String}{k:IntKind}{zs:ak3 Int}{l:ak3 (String×DataW Unit)}{g:Nat}{t e:TypeId}{n:Nat}
 (hg:P.globalNamed name=some g) (DM:(P.globals[g]?).map (·.type)=some t) (ht:P.underlying t=some (.array n e)) (he:P.underlying e=some (.int k)) (hce:P.cellsOf e=1) (hct:P.cellsOf t=n)
 (h:laidMet P l W) (hm:(name,Lib.tabData k zs)∈l):Lib.TabIs P W name k zs:=by
 obtain⟨ps,hl,hx⟩:=h;clear hx
 induction l generalizing ps with
 |nil=>cases hm
 |cons x r ih=>
  obtain⟨x1,x2⟩:=x;obtain⟨g',t',cs,fuel,p,q,p7,pK,ajC,hd,hr,_⟩:=hl;rcases akJ.1 hm with hm|hm
  ·cases hm
   obtain rfl:=aky (hg.symm.trans p7);obtain rfl:=aky (DM.symm.trans pK);unfold Lib.TabIs;rw[ajC,←Lib.cells_of_tab ht he hce hct hd]
  ·exact ih hm q hr
def IT(W:ak8):Prop:=∀(g:Nat)(l:ak3 ak7),(g,l)∈yc→∀(j:Nat)(v:ak7),l[j]?=some v→W.cell? ⟨g,j,none⟩=some v
def Jj(W:ak8):Gh:={N:=0,Z:=fun b=>b<W.heap.size,S:=fun b _=>b<W.heap.size,bm:=fun _=>0,sg:=fun _=>undef,ow:=fun _=>none,fl:=fun _=>0,M:=0}
theorem acs{W:ak8}(h:IT W):bW (Jj W) W []:=by
 refine⟨rfl,fun b hb=>hb,fun b _ hb=>hb,fun n B hB=>by simp at hB,fun m n b hm=> ?_,fun g l hm j v hv=>⟨World.block_lt_of_cell? W _ (h g l hm j v hv),h g l hm j v hv⟩,Nat.zero_le _⟩;rw[zf (by simp)]at hm;cases hm
theorem XR{P:ak6}{f:FuncId}{args:ak3 AV}{r:AV}(h:aG P f args (·=r)){W:ak8}(hT:IT W)(vs:Array ak7)(hl:vs.size=args.length)
 (hv:∀(i:Nat)(u:ak7)(c:AV),vs[i]?=some u→args[i]?=some c→aN (Jj W) W u c):
 Calls P f vs W fun e W'=>∃v G',e= .returned v∧aN G' W' v r∧Below W.heap.size W W':=by
 refine(h.2 (Jj W) W vs (acs hT) hl hv).mono fun e W' hp=> ?_;obtain⟨v,G',r',h',rfl,hE,_,_,hr,_,rfl⟩:=hp;exact⟨v,G',rfl,hr,hE.os,hE.tape,hE.output,hE.size,fun k hk=>hE.old k hk⟩
theorem abf{P:ak6}{f:FuncId}{args:ak3 AV}(h:aG P f args (·= .d (.v (.bool true)))){W:ak8}(hT:IT W)(vs:Array ak7)(hl:vs.size=args.length)
 (hv:∀(i:Nat)(u:ak7)(c:AV),vs[i]?=some u→args[i]?=some c→aN (Jj W) W u c):
 Calls P f vs W fun e W'=>e= .returned (.bool true)∧Below W.heap.size W W':=
 (XR h hT vs hl hv).mono fun e W' hp=>by
  obtain⟨v,G',rfl,hr,hb⟩:=hp;cases hr with
  |d h=>cases h;exact⟨rfl,hb⟩
theorem XZ(l:ak3 Nat):vi l=(l.map Int.ofNat).map (fun z=>Value.int .u8 z):=by simp [vi,List.map_map,Function.comp_def]
theorem adV{P:ak6}{W:ak8}{name:String}{k:IntKind}{zs:ak3 Int}{g:Nat}(h:Lib.TabIs P W name k zs)(hg:P.globalNamed name=some g)(j:Nat)(v:ak7)(hj:(zs.map fun z=>Value.int k z)[j]?=some v):W.cell? ⟨g,j,none⟩=some v:=by
 rw[akm]at hj;cases hz:zs[j]? with
 |none=>rw[hz]at hj;cases hj
 |some z=>
  rw[hz]at hj;cases hj
  have a7:j<zs.length:=(akf.1 hz).1;have:=h.cell hg j a7;rw[List.getD_eq_getElem?_getD,hz]at this;exact this
def uk:ak3 (String×DataW Unit):=Rows.simplifyExprRow.laid
theorem ahQ:(uk.filter fun x=>x.2.handleName?.isSome)=[]:=by kernel_rfl
theorem ah8{W:ak8}(h:laidMetH Tryz.prog uk W):laidMet Tryz.prog uk W:=by
 unfold laidMetH at h;rw[ahQ]at h;exact h
theorem ag6{W:ak8}(h:laidMetH Tryz.prog uk W):IT W:=by
 have hL:=ah8 h;intro g l hm j v hv;unfold yc at hm;simp only[akJ,Prod.mk.injEq,akV,or_false]at hm;rcases hm with⟨rfl,rfl⟩
 ·rw[XZ]at hv;exact adV (Zy (by kernel_rfl) (t:=303) (by kernel_rfl) Tryz.underlying303 Tryz.underlying5 (by kernel_rfl) (by kernel_rfl) hL (name:= "strings.asciiSpace") (g:=0) (aks (i:=1) (by kernel_rfl))) (by kernel_rfl) j v hv
theorem YO:ownKnob Tryz.prog.godebug=none:=by kernel_rfl
def UM(h:Array Obj)(g:Nat)(l:ak3 ak7):Array Obj:=h.modify g fun
 | .cells _ t frozen=> .cells l.toArray t frozen
 |o=>o
def xB(a b c:Nat):ak3 ak7:=[.int .u16 (Int.ofNat a), .int .u16 (Int.ofNat b), .int .u16 (Int.ofNat c)]
def XP:ak3 ak7:=xB 9 13 1++(xB 32 133 101++(xB 160 5760 5600++(xB 8192 8202 1++(xB 8232 8233 1++(xB 8239 8287 48++xB 12288 12288 1)))))
noncomputable def zT(os:Os):ak8:=
 let w0:=World.holding Tryz.prog os ⟨#[], #[],[]⟩
 {w0 with heap:=((UM (UM w0.heap 0 (vi Dh)) 2 [.pointer (some ⟨w0.heap.size,0,none⟩)]).push
    (.cells #[.slice (some ⟨w0.heap.size+1,0,none⟩) 7 7, .slice none 0 0, .int .i64 2] 318)).push (.cells XP.toArray 321)}
theorem ZK(os:Os)(args:Array ak7):laidMetH Tryz.prog uk ((zT os).forCall (fun _ _=>0) ⟨#[],args,[]⟩).memory:=
 laidMetH_of_parts (laidMet_of_run' 8 (by kernel_rfl) (by kernel_rfl)) (by kernel_rfl)
def Lr(P:ak6)(w:ak8)(t:TypeId)(v:ak7):Bool:=
 match P.underlying t,v with
 |some (.pointer e), .pointer (some a)=>a.spot.isNone&&(match w.shape? a.block with
  |some (row,cells)=>liesAt P P.depth row (cells / P.cellsOf row) a.off e 1
  |none=>false)
 |_,v=>Cell.okB P t v
theorem aip{P:ak6}{w:ak8}{t:TypeId}{v:ak7}(h:Lr P w t v=true):Cell.ok P w .any 0 t v:=by
 unfold Lr at h;split at h
 ·next e a ht=>
  rw[akh]at h;unfold Cell.ok;simp only[ht];obtain⟨h1,h2⟩:=h;split at h2
  ·next row cells hs=>exact⟨trivial,by simpa using h1,row,cells,hs,h2⟩
  ·cases h2
 ·exact Cell.ok_of_okB h
def O4(P:ak6)(w:ak8)(t:TypeId)(cs:Array ak7):Bool:=
 match P.cellTypes P.depth t with
 |some ts=>cs.size%ts.length==0&&(List.range cs.size).all fun i=>
  match cs[i]?,ts[i%ts.length]? with
  |some v,some u=>Lr P w u v
  |_,_=>false
 |none=>false
theorem afP{P:ak6}{w:ak8}{t:TypeId}{cs:Array ak7}(h:O4 P w t cs=true):Row.ok P w .any 0 t cs:=by
 unfold O4 at h;split at h
 ·rename_i ts tA
  simp only[akh,beq_iff_eq,akF,List.mem_range]at h;refine⟨ts,tA,⟨cs.size / ts.length,(Nat.div_mul_cancel (Nat.dvd_of_mod_eq_zero h.1)).symm⟩,fun i v hv=> ?_⟩;have hi:i<cs.size:=(aku.1 hv).1;have:=h.2 i hi;rw[hv]at this;cases hu:ts[i%ts.length]? with
  |none=>simp [hu]at this
  |some u=>simp only[hu]at this;exact⟨u,rfl,aip this⟩
 ·cases h
def TI(P:ak6)(w:ak8):Bool:=
 let w₀:=(begin P (fun _ _=>0) default).world
 (List.range P.globals.size).all fun g=>
  match (w₀.heap[g]?).bind Obj.row? with
  |none=>true
  |some (zero,t)=>
   match w.heap[g]? with
   |some (.cells cs t' frozen)=>decide (t'=t)&&decide (frozen=(0,0))&&cs.size==zero.size&&(!P.buildable t||O4 P w t cs)
   |_=>false
theorem abg{P:ak6}{w:ak8}(hv:TI P w=true)
 (hr:(w.heap.toList.drop P.globals.size).take ((begin P (fun _ _=>0) default).world.heap.size-P.globals.size)=
  (begin P (fun _ _=>0) default).world.heap.toList.drop P.globals.size):w.Shaped P:=by
 refine⟨fun g zero t hg hz=> ?_,fun k h1 h2=> ?_⟩
 case refine_2=>
  have:=congrArg (·[k-P.globals.size]?) hr;simp only[List.getElem?_take,List.getElem?_drop,akC]at this;rw[if_pos (by omega),Nat.add_sub_cancel' h1]at this;exact this
 unfold TI at hv;simp only[akF,List.mem_range]at hv;have:=hv g hg;rw[hz]at this;simp only at this;split at this
 ·rename_i cs t' fr hw
  simp only[akh,decide_eq_true_eq,beq_iff_eq,Bool.or_eq_true,Bool.not_eq_true']at this;obtain⟨⟨⟨rfl,rfl⟩,hs⟩,hb⟩:=this;refine⟨cs,hw,hs,fun YM=> ?_⟩;rcases hb with hb|hb
  ·rw[YM]at hb;cases hb
  ·exact afP hb
 ·cases this
theorem ad4(os:Os)(args:Array ak7):((zT os).forCall (fun _ _=>0) ⟨#[],args,[]⟩).Shaped Tryz.prog:=abg (by kernel_rfl) (by kernel_rfl)
theorem ajm{H:Type}{enc:TypeId×ak7→H}{os:Os}{f:FuncId}{fn:Func}{s:ChangeSpec}{apart:Bool}(modest:Bool)(args:Array ak7)(fuel:Nat)
 (b4:Input.okWideB Tryz.prog ((zT os).forCall (fun _ _=>0) ⟨#[],args,[]⟩) f ⟨#[],args,[]⟩=true)
 (ad9:s.preB enc Tryz.prog fn [] apart ((zT os).forCall (fun _ _=>0) ⟨#[],args,[]⟩).memory args fuel=true)
 (gL:s.sizedB enc Tryz.prog fn apart ((zT os).forCall (fun _ _=>0) ⟨#[],args,[]⟩).memory args fuel=true):
 ∃(w:ak8)(tape:Tape)(i:Input),w.os=os∧(w.forCall tape i).Shaped Tryz.checked.prog∧i.vars=[]∧Input.okWide Tryz.checked.prog (w.forCall tape i) .any w.heap.size f i∧
  ((s.pre enc Tryz.checked.prog fn [] apart (w.forCall tape i).memory i.args∧laidMetH Tryz.prog uk (w.forCall tape i).memory)∧sizedMet enc Tryz.checked.prog fn (OpenSpec.ofChange s) apart (w.forCall tape i).memory i.args)∧({modest:=modest}:Assume).holds Tryz.checked.prog (lone (Frame.enter Tryz.checked.prog f i.args .normal) [] (w.forCall tape i)):=
 ⟨zT os,fun _ _=>0,⟨#[],args,[]⟩,rfl,ad4 os args,(Input.okWide_of_okWideB (base:=0) b4).1,(Input.okWide_of_okWideB b4).2,⟨⟨ChangeSpec.pre_of_preB ad9,ZK os args⟩,sizedMet_of_sizedB gL⟩,by
  simp only[Assume.holds];exact⟨by simp,by simp,fun _=>Modest.zero,by simp,by simp⟩⟩
end Go.Proofs.YtpgmcallngdceaaGreatDoor
