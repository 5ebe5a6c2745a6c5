/-
  Part 15 of the proof: Top.
-/
import Derived.Test.YtpeecnpmcbnahaaGreatDoorPr14
import Derived.Test.YtpeecnpmcbnahaaGreatDoorRows
import Derived.ProofKit
import Derived.OpenShut
import Derived.ShutString
import Derived.ChangeOld
import Derived.Lib.LaidTab
import Derived.LaidHandle
import Derived.JoinedOf
import Derived.ChangeVars
namespace Go.Proofs.YtpeecnpmcbnahaaGreatDoor
open Go.RowKit
set_option maxRecDepth 100000
theorem ab1{P:an6}{W:an8}{name:String}{k:IntKind}{zs:an3 Int}{l:an3 (String×DataW Unit)}{g:Nat}{t e:TypeId}{n:Nat}
 (hg:P.globalNamed name=some g) (nr:(P.globals[g]?).map (·.type)=some t) (ht:P.underlying t=some (.array n e)) (he:P.underlying e=some (.int k)) (hce:P.cellsOf e=1) (hct:P.cellsOf t=n)
 (h:laidMet P l W) (hm:(name,Lib.tabData k zs)∈l):Lib.TabIs P W name k zs:=by
 obtain⟨ps,hl,hx⟩:=h;clear hx
 induction l generalizing ps with
 |nil=>cases hm
 |cons x r ih=>
  obtain⟨x1,x2⟩:=x;obtain⟨g',t',cs,fuel,p,q,rW,qR,alP,hd,hr,_⟩:=hl;rcases anJ.1 hm with hm|hm
  ·cases hm
   obtain rfl:=anx (hg.symm.trans rW);obtain rfl:=anx (nr.symm.trans qR);unfold Lib.TabIs;rw[alP,<-Lib.cells_of_tab ht he hce hct hd]
  ·exact ih hm q hr
def IP(W:an8):Prop:=∀(g:Nat)(l:an3 an7),(g,l)∈An->∀(j:Nat)(v:an7),l[j]?=some v->W.cell? ⟨g,j,none⟩=some v
def GY(W:an8):Gh:={N:=0,Z:=λb=>b<W.heap.size,S:=λb _=>b<W.heap.size,aO:=λ_=>0,sg:=λ_=>undef,ow:=λ_=>none,fl:=λ_=>0,M:=0}
theorem akP{W:an8}(h:IP W):bJ (GY W) W []:=by
 refine⟨rfl,λb hb=>hb,λb _ hb=>hb,λn B hB=>by simp at hB,λm n b hm=> ?_,λg l hm j v hv=>⟨World.block_lt_of_cell? W _ (h g l hm j v hv),h g l hm j v hv⟩,Nat.zero_le _⟩;rw[uV (by simp)]at hm;cases hm
theorem adq{P:an6}{f:FuncId}{args:an3 AV}{r:AV}(h:fP P f args (·=r)){W:an8}(hT:IP W)(vs:Array an7)(hl:vs.size=args.length)
 (hv:∀(i:Nat)(u:an7)(c:AV),vs[i]?=some u->args[i]?=some c->aD (GY W) W u c):
 Calls P f vs W λe W'=>∃v G',e= .returned v/\aD G' W' v r/\Below W.heap.size W W':=by
 refine(h.2 (GY W) W vs (akP hT) hl hv).mono λe W' hp=> ?_;obtain⟨v,G',r',h',rfl,hE,_,_,hr,_,rfl⟩:=hp;exact⟨v,G',rfl,hr,hE.os,hE.tape,hE.output,hE.size,λk hk=>hE.old k hk⟩
theorem ah9{P:an6}{f:FuncId}{args:an3 AV}(h:fP P f args (·= .d (.v (.bool true)))){W:an8}(hT:IP W)(vs:Array an7)(hl:vs.size=args.length)
 (hv:∀(i:Nat)(u:an7)(c:AV),vs[i]?=some u->args[i]?=some c->aD (GY W) W u c):
 Calls P f vs W λe W'=>e= .returned (.bool true)/\Below W.heap.size W W':=
 (adq h hT vs hl hv).mono λe W' hp=>by
  obtain⟨v,G',rfl,hr,hb⟩:=hp;cases hr with
  |d h=>cases h;exact⟨rfl,hb⟩
theorem aeb(l:an3 Nat):vp l=(l.map Int.ofNat).map (λz=>Value.int .u8 z):=by simp [vp,List.map_map,Function.comp_def]
theorem ah3{P:an6}{W:an8}{name:String}{k:IntKind}{zs:an3 Int}{g:Nat}(h:Lib.TabIs P W name k zs)(hg:P.globalNamed name=some g)(j:Nat)(v:an7)(hj:(zs.map λz=>Value.int k z)[j]?=some v):W.cell? ⟨g,j,none⟩=some v:=by
 rw[anl]at hj;cases hz:zs[j]? with
 |none=>rw[hz]at hj;cases hj
 |some z=>
  rw[hz]at hj;cases hj
  have aI:j<zs.length:=(ane.1 hz).1;have:=h.cell hg j aI;rw[List.getD_eq_getElem?_getD,hz]at this;exact this
def tH:an3 (String×DataW Unit):=Rows.evalScansRow.laid
theorem afo:(tH.filter λx=>x.2.handleName?.isSome)=[]:=by kernel_rfl
theorem alZ{W:an8}(h:laidMetH Tryz.prog tH W):laidMet Tryz.prog tH W:=by
 unfold laidMetH at h;rw[afo]at h;exact h
theorem ajw{W:an8}(h:laidMetH Tryz.prog tH W):IP W:=by
 have hL:=alZ h;intro g l hm j v hv;unfold An at hm;simp only[anJ,Prod.mk.injEq,anV,or_false]at hm;rcases hm with⟨rfl,rfl⟩
 ·rw[aeb]at hv;exact ah3 (ab1 (by kernel_rfl) (t:=301) (by kernel_rfl) Tryz.underlying301 Tryz.underlying5 (by kernel_rfl) (by kernel_rfl) hL (name:= "strings.asciiSpace") (g:=0) (anr (i:=1) (by kernel_rfl))) (by kernel_rfl) j v hv
theorem acT:ownKnob Tryz.prog.godebug=none:=by kernel_rfl
def To(h:Array Obj)(g:Nat)(l:an3 an7):Array Obj:=h.modify g fun
 | .cells _ t frozen=> .cells l.toArray t frozen
 |o=>o
def xd(a b c:Nat):an3 an7:=[.int .u16 (Int.ofNat a), .int .u16 (Int.ofNat b), .int .u16 (Int.ofNat c)]
def abN:an3 an7:=xd 9 13 1++(xd 32 133 101++(xd 160 5760 5600++(xd 8192 8202 1++(xd 8232 8233 1++(xd 8239 8287 48++xd 12288 12288 1)))))
noncomputable def yQ(os:Os):an8:=
 let w0:=World.holding Tryz.prog os ⟨#[], #[],[]⟩
 {w0 with heap:=((To (To w0.heap 0 (vp C9)) 1 [.pointer (some ⟨w0.heap.size,0,none⟩)]).push
    (.cells #[.slice (some ⟨w0.heap.size+1,0,none⟩) 7 7, .slice none 0 0, .int .i64 2] 321)).push (.cells abN.toArray 324)}
theorem aea(os:Os)(args:Array an7):laidMetH Tryz.prog tH ((yQ os).forCall (λ_ _=>0) ⟨#[],args,[]⟩).memory:=
 laidMetH_of_parts (laidMet_of_run' 8 (by kernel_rfl) (by kernel_rfl)) (by kernel_rfl)
def P5(P:an6)(w:an8)(t:TypeId)(v:an7):Bool:=
 match P.underlying t,v with
 |some (.pointer e), .pointer (some a)=>a.spot.isNone&&(match w.shape? a.block with
  |some (row,cells)=>liesAt P P.depth row (cells / P.cellsOf row) a.off e 1
  |none=>false)
 |_,v=>Cell.okB P t v
theorem ajZ{P:an6}{w:an8}{t:TypeId}{v:an7}(h:P5 P w t v=true):Cell.ok P w .any 0 t v:=by
 unfold P5 at h;split at h
 ·next e a ht=>
  rw[ang]at h;unfold Cell.ok;simp only[ht];obtain⟨J,h2⟩:=h;split at h2
  ·next row cells hs=>exact⟨trivial,by simpa using J,row,cells,hs,h2⟩
  ·cases h2
 ·exact Cell.ok_of_okB h
def Ra(P:an6)(w:an8)(t:TypeId)(cs:Array an7):Bool:=
 match P.cellTypes P.depth t with
 |some ts=>cs.size%ts.length==0&&(List.range cs.size).all λi=>
  match cs[i]?,ts[i%ts.length]? with
  |some v,some u=>P5 P w u v
  |_,_=>false
 |none=>false
theorem aer{P:an6}{w:an8}{t:TypeId}{cs:Array an7}(h:Ra P w t cs=true):Row.ok P w .any 0 t cs:=by
 unfold Ra at h;split at h
 ·rename_i ts tN
  simp only[ang,beq_iff_eq,anF,List.mem_range]at h;refine⟨ts,tN,⟨cs.size / ts.length,(Nat.div_mul_cancel (Nat.dvd_of_mod_eq_zero h.1)).symm⟩,λi v hv=> ?_⟩;have hi:i<cs.size:=(ant.1 hv).1;have:=h.2 i hi;rw[hv]at this;cases hu:ts[i%ts.length]? with
  |none=>simp [hu]at this
  |some u=>simp only[hu]at this;exact⟨u,rfl,ajZ this⟩
 ·cases h
def ZL(P:an6)(w:an8):Bool:=
 let w₀:=(begin P (λ_ _=>0) default).world
 (List.range P.globals.size).all λg=>
  match (w₀.heap[g]?).bind Obj.row? with
  |none=>true
  |some (zero,t)=>
   match w.heap[g]? with
   |some (.cells cs t' frozen)=>decide (t'=t)&&decide (frozen=(0,0))&&cs.size==zero.size&&(!P.buildable t||Ra P w t cs)
   |_=>false
theorem ahN{P:an6}{w:an8}(hv:ZL P w=true)
 (hr:(w.heap.toList.drop P.globals.size).take ((begin P (λ_ _=>0) default).world.heap.size-P.globals.size)=
  (begin P (λ_ _=>0) default).world.heap.toList.drop P.globals.size):w.Shaped P:=by
 refine⟨λg zero t hg hz=> ?_,λk J h2=> ?_⟩
 case refine_2=>
  have:=congrArg (·[k-P.globals.size]?) hr;simp only[List.getElem?_take,List.getElem?_drop,anC]at this;rw[if_pos (by omega),Nat.add_sub_cancel' J]at this;exact this
 unfold ZL at hv;simp only[anF,List.mem_range]at hv;have:=hv g hg;rw[hz]at this;simp only at this;split at this
 ·rename_i cs t' fr hw
  simp only[ang,decide_eq_true_eq,beq_iff_eq,Bool.or_eq_true,Bool.not_eq_true']at this;obtain⟨⟨⟨rfl,rfl⟩,hs⟩,hb⟩:=this;refine⟨cs,hw,hs,λabv=> ?_⟩;rcases hb with hb|hb
  ·rw[abv]at hb;cases hb
  ·exact aer hb
 ·cases this
theorem agC(os:Os)(args:Array an7):((yQ os).forCall (λ_ _=>0) ⟨#[],args,[]⟩).Shaped Tryz.prog:=ahN (by kernel_rfl) (by kernel_rfl)
theorem abu{H:Type}{enc:TypeId×an7->H}{os:Os}{f:FuncId}{fn:Func}{s:ChangeSpec}{apart:Bool}(modest:Bool)(args:Array an7)(fuel:Nat)
 (bN:Input.okWideB Tryz.prog ((yQ os).forCall (λ_ _=>0) ⟨#[],args,[]⟩) f ⟨#[],args,[]⟩=true)
 (agn:s.preB enc Tryz.prog fn [] apart ((yQ os).forCall (λ_ _=>0) ⟨#[],args,[]⟩).memory args fuel=true)
 (hX:s.sizedB enc Tryz.prog fn apart ((yQ os).forCall (λ_ _=>0) ⟨#[],args,[]⟩).memory args fuel=true):
 ∃(w:an8)(tape:Tape)(i:Input),w.os=os/\(w.forCall tape i).Shaped Tryz.checked.prog/\i.vars=[]/\Input.okWide Tryz.checked.prog (w.forCall tape i) .any w.heap.size f i/\
  ((s.pre enc Tryz.checked.prog fn [] apart (w.forCall tape i).memory i.args/\laidMetH Tryz.prog tH (w.forCall tape i).memory)/\sizedMet enc Tryz.checked.prog fn (OpenSpec.ofChange s) apart (w.forCall tape i).memory i.args)/\({modest:=modest}:Assume).holds Tryz.checked.prog (lone (Frame.enter Tryz.checked.prog f i.args .normal) [] (w.forCall tape i)):=
 ⟨yQ os,λ_ _=>0,⟨#[],args,[]⟩,rfl,agC os args,(Input.okWide_of_okWideB (base:=0) bN).1,(Input.okWide_of_okWideB bN).2,⟨⟨ChangeSpec.pre_of_preB agn,aea os args⟩,sizedMet_of_sizedB hX⟩,by
  simp only[Assume.holds];exact⟨by simp,by simp,λ_=>Modest.zero,by simp,by simp⟩⟩
end Go.Proofs.YtpeecnpmcbnahaaGreatDoor
