/-
  Part 22 of the proof: Top.
-/
import Derived.Test.YtpgmcallngdceaaGreatDoorSp21
import Derived.Test.YtpgmcallngdceaaGreatDoorRows
import Derived.ProofKit
import Derived.OpenShut
import Derived.ShutString
import Derived.ChangeOld
import Derived.Lib.LaidTab
import Derived.LaidHandle
import Derived.JoinedOf
import Derived.ChangeVars
namespace Go.Proofs.YtpgmcallngdceaaGreatDoor
open Go.RowKit
set_option maxRecDepth 100000
theorem acv{P:ake}{W:akg}{name:String}{k:IntKind}{zs:akb Int}{l:akb (String×DataW Unit)}{g:Nat}{t e:TypeId}{n:Nat}
 (hg:P.globalNamed name=some g) (DF:(P.globals[g]?).map (·.type)=some t) (ht:P.underlying t=some (.array n e)) (he:P.underlying e=some (.int k)) (XK:P.cellsOf e=1) (hct:P.cellsOf t=n)
 (h:laidMet P l W) (hm:(name,Lib.tabData k zs)∈l):Lib.TabIs P W name k zs:=by
 obtain⟨ps,hl,hx⟩:=h;clear hx
 induction l generalizing ps with
 |nil=>cases hm
 |cons x r ih=>
  obtain⟨x1,x2⟩:=x;obtain⟨g',t',cs,fuel,p,q,qA,pA,aiR,hd,hr,_⟩:=hl;rcases ajR.1 hm with hm|hm
  ·cases hm
   obtain rfl:=ajG (hg.symm.trans qA);obtain rfl:=ajG (DF.symm.trans pA);unfold Lib.TabIs;rw[aiR,←Lib.cells_of_tab ht he XK hct hd]
  ·exact ih hm q hr
def Is(W:akg):Prop:=∀(g:Nat)(l:akb akf),(g,l)∈zw→∀(j:Nat)(v:akf),l[j]?=some v→W.cell? ⟨g,j,none⟩=some v
def GU(W:akg):Gh:={N:=0,Z:=fun b=>b<W.heap.size,S:=fun b _=>b<W.heap.size,bm:=fun _=>0,sg:=fun _=>undef,ow:=fun _=>none,fl:=fun _=>0,M:=0}
theorem aex{W:akg}(h:Is W):bV (GU W) W []:=by
 refine⟨rfl,fun b hb=>hb,fun b _ hb=>hb,fun n B hB=>by simp at hB,fun m n b hm=> ?_,fun g l hm j v hv=>⟨World.block_lt_of_cell? W _ (h g l hm j v hv),h g l hm j v hv⟩,Nat.zero_le _⟩;rw[AO (by simp)]at hm;cases hm
theorem ah7{P:ake}{f:FuncId}{args:akb AV}{r:AV}(h:aG P f args (·=r)){W:akg}(hT:Is W)(vs:Array akf)(hl:vs.size=args.length)
 (hv:∀(i:Nat)(u:akf)(c:AV),vs[i]?=some u→args[i]?=some c→aL (GU W) W u c):
 Calls P f vs W fun e W'=>∃v G',e= .returned v∧aL G' W' v r∧Below W.heap.size W W':=by
 refine(h.2 (GU W) W vs (aex hT) hl hv).mono fun e W' hp=> ?_;obtain⟨v,G',r',h',rfl,hE,_,_,hr,_,rfl⟩:=hp;exact⟨v,G',rfl,hr,hE.os,hE.tape,hE.output,hE.size,fun k hk=>hE.old k hk⟩
theorem aa9{P:ake}{f:FuncId}{args:akb AV}(h:aG P f args (·= .d (.v (.bool true)))){W:akg}(hT:Is W)(vs:Array akf)(hl:vs.size=args.length)
 (hv:∀(i:Nat)(u:akf)(c:AV),vs[i]?=some u→args[i]?=some c→aL (GU W) W u c):
 Calls P f vs W fun e W'=>e= .returned (.bool true)∧Below W.heap.size W W':=
 (ah7 h hT vs hl hv).mono fun e W' hp=>by
  obtain⟨v,G',rfl,hr,hb⟩:=hp;cases hr with
  |d h=>cases h;exact⟨rfl,hb⟩
theorem abV(l:akb Nat):wL l=(l.map Int.ofNat).map (fun z=>Value.int .u8 z):=by simp [wL,List.map_map,Function.comp_def]
theorem aaz{P:ake}{W:akg}{name:String}{k:IntKind}{zs:akb Int}{g:Nat}(h:Lib.TabIs P W name k zs)(hg:P.globalNamed name=some g)(j:Nat)(v:akf)(hj:(zs.map fun z=>Value.int k z)[j]?=some v):W.cell? ⟨g,j,none⟩=some v:=by
 rw[aju]at hj;cases hz:zs[j]? with
 |none=>rw[hz]at hj;cases hj
 |some z=>
  rw[hz]at hj;cases hj
  have aX:j<zs.length:=(ajn.1 hz).1;have:=h.cell hg j aX;rw[List.getD_eq_getElem?_getD,hz]at this;exact this
def tY:akb (String×DataW Unit):=Rows.simplifyStepRow.laid
theorem ZL:(tY.filter fun x=>x.2.handleName?.isSome)=[]:=by kernel_rfl
theorem ahF{W:akg}(h:laidMetH Tryz.prog tY W):laidMet Tryz.prog tY W:=by
 unfold laidMetH at h;rw[ZL]at h;exact h
theorem ain{W:akg}(h:laidMetH Tryz.prog tY W):Is W:=by
 have hL:=ahF h;intro g l hm j v hv;unfold zw at hm;simp only[ajR,Prod.mk.injEq,aj3,or_false]at hm;rcases hm with⟨rfl,rfl⟩
 ·rw[abV]at hv;exact aaz (acv (by kernel_rfl) (t:=303) (by kernel_rfl) Tryz.underlying303 Tryz.underlying5 (by kernel_rfl) (by kernel_rfl) hL (name:= "strings.asciiSpace") (g:=0) (ajA (i:=1) (by kernel_rfl))) (by kernel_rfl) j v hv
theorem aec:ownKnob Tryz.prog.godebug=none:=by kernel_rfl
def TG(h:Array Obj)(g:Nat)(l:akb akf):Array Obj:=h.modify g fun
 | .cells _ t frozen=> .cells l.toArray t frozen
 |o=>o
def uU(a b c:Nat):akb akf:=[.int .u16 (Int.ofNat a), .int .u16 (Int.ofNat b), .int .u16 (Int.ofNat c)]
def abP:akb akf:=uU 9 13 1++(uU 32 133 101++(uU 160 5760 5600++(uU 8192 8202 1++(uU 8232 8233 1++(uU 8239 8287 48++uU 12288 12288 1)))))
noncomputable def zH(os:Os):akg:=
 let w0:=World.holding Tryz.prog os ⟨#[], #[],[]⟩
 {w0 with heap:=((TG (TG w0.heap 0 (wL Bq)) 2 [.pointer (some ⟨w0.heap.size,0,none⟩)]).push
    (.cells #[.slice (some ⟨w0.heap.size+1,0,none⟩) 7 7, .slice none 0 0, .int .i64 2] 318)).push (.cells abP.toArray 321)}
theorem aiE(os:Os)(args:Array akf):laidMetH Tryz.prog tY ((zH os).forCall (fun _ _=>0) ⟨#[],args,[]⟩).memory:=
 laidMetH_of_parts (laidMet_of_run' 8 (by kernel_rfl) (by kernel_rfl)) (by kernel_rfl)
def LX(P:ake)(w:akg)(t:TypeId)(v:akf):Bool:=
 match P.underlying t,v with
 |some (.pointer e), .pointer (some a)=>a.spot.isNone&&(match w.shape? a.block with
  |some (row,cells)=>liesAt P P.depth row (cells / P.cellsOf row) a.off e 1
  |none=>false)
 |_,v=>Cell.okB P t v
theorem ac5{P:ake}{w:akg}{t:TypeId}{v:akf}(h:LX P w t v=true):Cell.ok P w .any 0 t v:=by
 unfold LX at h;split at h
 ·next e a ht=>
  rw[ajp]at h;unfold Cell.ok;simp only[ht];obtain⟨h1,h2⟩:=h;split at h2
  ·next row cells hs=>exact⟨trivial,by simpa using h1,row,cells,hs,h2⟩
  ·cases h2
 ·exact Cell.ok_of_okB h
def LJ(P:ake)(w:akg)(t:TypeId)(cs:Array akf):Bool:=
 match P.cellTypes P.depth t with
 |some ts=>cs.size%ts.length==0&&(List.range cs.size).all fun i=>
  match cs[i]?,ts[i%ts.length]? with
  |some v,some u=>LX P w u v
  |_,_=>false
 |none=>false
theorem XM{P:ake}{w:akg}{t:TypeId}{cs:Array akf}(h:LJ P w t cs=true):Row.ok P w .any 0 t cs:=by
 unfold LJ at h;split at h
 ·rename_i ts sK
  simp only[ajp,beq_iff_eq,ajN,List.mem_range]at h;refine⟨ts,sK,⟨cs.size / ts.length,(Nat.div_mul_cancel (Nat.dvd_of_mod_eq_zero h.1)).symm⟩,fun i v hv=> ?_⟩;have hi:i<cs.size:=(ajC.1 hv).1;have:=h.2 i hi;rw[hv]at this;cases hu:ts[i%ts.length]? with
  |none=>simp [hu]at this
  |some u=>simp only[hu]at this;exact⟨u,rfl,ac5 this⟩
 ·cases h
def U5(P:ake)(w:akg):Bool:=
 let w₀:=(begin P (fun _ _=>0) default).world
 (List.range P.globals.size).all fun g=>
  match (w₀.heap[g]?).bind Obj.row? with
  |none=>true
  |some (zero,t)=>
   match w.heap[g]? with
   |some (.cells cs t' frozen)=>decide (t'=t)&&decide (frozen=(0,0))&&cs.size==zero.size&&(!P.buildable t||LJ P w t cs)
   |_=>false
theorem Xn{P:ake}{w:akg}(hv:U5 P w=true)
 (hr:(w.heap.toList.drop P.globals.size).take ((begin P (fun _ _=>0) default).world.heap.size-P.globals.size)=
  (begin P (fun _ _=>0) default).world.heap.toList.drop P.globals.size):w.Shaped P:=by
 refine⟨fun g zero t hg hz=> ?_,fun k h1 h2=> ?_⟩
 case refine_2=>
  have:=congrArg (·[k-P.globals.size]?) hr;simp only[List.getElem?_take,List.getElem?_drop,ajK]at this;rw[if_pos (by omega),Nat.add_sub_cancel' h1]at this;exact this
 unfold U5 at hv;simp only[ajN,List.mem_range]at hv;have:=hv g hg;rw[hz]at this;simp only at this;split at this
 ·rename_i cs t' fr hw
  simp only[ajp,decide_eq_true_eq,beq_iff_eq,Bool.or_eq_true,Bool.not_eq_true']at this;obtain⟨⟨⟨rfl,rfl⟩,hs⟩,hb⟩:=this;refine⟨cs,hw,hs,fun aib=> ?_⟩;rcases hb with hb|hb
  ·rw[aib]at hb;cases hb
  ·exact XM hb
 ·cases this
theorem afS(os:Os)(args:Array akf):((zH os).forCall (fun _ _=>0) ⟨#[],args,[]⟩).Shaped Tryz.prog:=Xn (by kernel_rfl) (by kernel_rfl)
theorem Zi{H:Type}{enc:TypeId×akf→H}{os:Os}{f:FuncId}{fn:Func}{s:ChangeSpec}{apart:Bool}(modest:Bool)(args:Array akf)(fuel:Nat)
 (bY:Input.okWideB Tryz.prog ((zH os).forCall (fun _ _=>0) ⟨#[],args,[]⟩) f ⟨#[],args,[]⟩=true)
 (Z3:s.preB enc Tryz.prog fn [] apart ((zH os).forCall (fun _ _=>0) ⟨#[],args,[]⟩).memory args fuel=true)
 (gz:s.sizedB enc Tryz.prog fn apart ((zH os).forCall (fun _ _=>0) ⟨#[],args,[]⟩).memory args fuel=true):
 ∃(w:akg)(tape:Tape)(i:Input),w.os=os∧(w.forCall tape i).Shaped Tryz.checked.prog∧i.vars=[]∧Input.okWide Tryz.checked.prog (w.forCall tape i) .any w.heap.size f i∧
  ((s.pre enc Tryz.checked.prog fn [] apart (w.forCall tape i).memory i.args∧laidMetH Tryz.prog tY (w.forCall tape i).memory)∧sizedMet enc Tryz.checked.prog fn (OpenSpec.ofChange s) apart (w.forCall tape i).memory i.args)∧({modest:=modest}:Assume).holds Tryz.checked.prog (lone (Frame.enter Tryz.checked.prog f i.args .normal) [] (w.forCall tape i)):=
 ⟨zH os,fun _ _=>0,⟨#[],args,[]⟩,rfl,afS os args,(Input.okWide_of_okWideB (base:=0) bY).1,(Input.okWide_of_okWideB bY).2,⟨⟨ChangeSpec.pre_of_preB Z3,aiE os args⟩,sizedMet_of_sizedB gz⟩,by
  simp only[Assume.holds];exact⟨by simp,by simp,fun _=>Modest.zero,by simp,by simp⟩⟩
end Go.Proofs.YtpgmcallngdceaaGreatDoor
