/-
  Part 15 of the proof: Top.
-/
import Derived.Test.YtpeecnpmcbnahaaGreatDoorPq14
import Derived.Test.YtpeecnpmcbnahaaGreatDoorRows
import Derived.ProofKit
import Derived.OpenShut
import Derived.ShutString
import Derived.ChangeOld
import Derived.Lib.LaidTab
import Derived.LaidHandle
import Derived.JoinedOf
import Derived.ChangeVars
namespace Go.Proofs.YtpeecnpmcbnahaaGreatDoor
open Go.RowKit
set_option maxRecDepth 100000
theorem akV{P:aqS}{W:aqU}{name:String}{k:IntKind}{zs:aqP Int}{l:aqP (String×DataW Unit)}{g:Nat}{t e:TypeId}{n:Nat}
 (hg:P.globalNamed name=some g) (nM:(P.globals[g]?).map (·.type)=some t) (ht:P.underlying t=some (.array n e)) (he:P.underlying e=some (.int k)) (hce:P.cellsOf e=1) (hct:P.cellsOf t=n)
 (h:laidMet P l W) (hm:(name,Lib.tabData k zs)∈l):Lib.TabIs P W name k zs:=by
 obtain⟨ps,hl,hx⟩:=h;clear hx
 induction l generalizing ps with
 |nil=>cases hm
 |cons x r ih=>
  obtain⟨x1,x2⟩:=x;obtain⟨g',t',cs,fuel,p,q,tn,rW,aeW,hd,hr,_⟩:=hl;rcases aqv.1 hm with hm|hm
  ·cases hm
   obtain rfl:=aqk (hg.symm.trans tn);obtain rfl:=aqk (nM.symm.trans rW);unfold Lib.TabIs;rw[aeW,<-Lib.cells_of_tab ht he hce hct hd]
  ·exact ih hm q hr
def H9(W:aqU):Prop:=∀(g:Nat)(l:aqP aqT),(g,l)∈Bf->∀(j:Nat)(v:aqT),l[j]?=some v->W.cell? ⟨g,j,none⟩=some v
def MZ(W:aqU):Gh:={N:=0,Z:=λb=>b<W.heap.size,S:=λb _=>b<W.heap.size,aR:=λ_=>0,sg:=λ_=>undef,ow:=λ_=>none,fl:=λ_=>0,M:=0}
theorem aey{W:aqU}(h:H9 W):bW (MZ W) W []:=by
 refine⟨rfl,λb hb=>hb,λb _ hb=>hb,λn B hB=>by simp at hB,λm n b hm=> ?_,λg l hm j v hv=>⟨World.block_lt_of_cell? W _ (h g l hm j v hv),h g l hm j v hv⟩,Nat.zero_le _⟩;rw[vw (by simp)]at hm;cases hm
theorem ad2{P:aqS}{f:FuncId}{args:aqP AV}{r:AV}(h:gi P f args (·=r)){W:aqU}(hT:H9 W)(vs:Array aqT)(hl:vs.size=args.length)
 (hv:∀(i:Nat)(u:aqT)(c:AV),vs[i]?=some u->args[i]?=some c->aH (MZ W) W u c):
 Calls P f vs W λe W'=>∃v G',e= .returned v/\aH G' W' v r/\Below W.heap.size W W':=by
 refine(h.2 (MZ W) W vs (aey hT) hl hv).mono λe W' hp=> ?_;obtain⟨v,G',r',h',rfl,hE,_,_,hr,_,rfl⟩:=hp;exact⟨v,G',rfl,hr,hE.os,hE.tape,hE.output,hE.size,λk hk=>hE.old k hk⟩
theorem an5{P:aqS}{f:FuncId}{args:aqP AV}(h:gi P f args (·= .d (.v (.bool true)))){W:aqU}(hT:H9 W)(vs:Array aqT)(hl:vs.size=args.length)
 (hv:∀(i:Nat)(u:aqT)(c:AV),vs[i]?=some u->args[i]?=some c->aH (MZ W) W u c):
 Calls P f vs W λe W'=>e= .returned (.bool true)/\Below W.heap.size W W':=
 (ad2 h hT vs hl hv).mono λe W' hp=>by
  obtain⟨v,G',rfl,hr,hb⟩:=hp;cases hr with
  |d h=>cases h;exact⟨rfl,hb⟩
theorem agp(l:aqP Nat):yd l=(l.map Int.ofNat).map (λz=>Value.int .u8 z):=by simp [yd,List.map_map,Function.comp_def]
theorem aib{P:aqS}{W:aqU}{name:String}{k:IntKind}{zs:aqP Int}{g:Nat}(h:Lib.TabIs P W name k zs)(hg:P.globalNamed name=some g)(j:Nat)(v:aqT)(hj:(zs.map λz=>Value.int k z)[j]?=some v):W.cell? ⟨g,j,none⟩=some v:=by
 rw[ap8]at hj;cases hz:zs[j]? with
 |none=>rw[hz]at hj;cases hj
 |some z=>
  rw[hz]at hj;cases hj
  have aN:j<zs.length:=(ap1.1 hz).1;have:=h.cell hg j aN;rw[List.getD_eq_getElem?_getD,hz]at this;exact this
def wa:aqP (String×DataW Unit):=Rows.evalTypedRow.laid
theorem afB:(wa.filter λx=>x.2.handleName?.isSome)=[]:=by kernel_rfl
theorem aea{W:aqU}(h:laidMetH Tryz.prog wa W):laidMet Tryz.prog wa W:=by
 unfold laidMetH at h;rw[afB]at h;exact h
theorem akP{W:aqU}(h:laidMetH Tryz.prog wa W):H9 W:=by
 have hL:=aea h;intro g l hm j v hv;unfold Bf at hm;simp only[aqv,Prod.mk.injEq,aqH,or_false]at hm;rcases hm with⟨rfl,rfl⟩
 ·rw[agp]at hv;exact aib (akV (by kernel_rfl) (t:=301) (by kernel_rfl) Tryz.underlying301 Tryz.underlying5 (by kernel_rfl) (by kernel_rfl) hL (name:= "strings.asciiSpace") (g:=0) (aqe (i:=1) (by kernel_rfl))) (by kernel_rfl) j v hv
theorem afA:ownKnob Tryz.prog.godebug=none:=by kernel_rfl
def adF(h:Array Obj)(g:Nat)(l:aqP aqT):Array Obj:=h.modify g fun
 | .cells _ t frozen=> .cells l.toArray t frozen
 |o=>o
def xm(a b c:Nat):aqP aqT:=[.int .u16 (Int.ofNat a), .int .u16 (Int.ofNat b), .int .u16 (Int.ofNat c)]
def akd:aqP aqT:=xm 9 13 1++(xm 32 133 101++(xm 160 5760 5600++(xm 8192 8202 1++(xm 8232 8233 1++(xm 8239 8287 48++xm 12288 12288 1)))))
noncomputable def Br(os:Os):aqU:=
 let w0:=World.holding Tryz.prog os ⟨#[], #[],[]⟩
 {w0 with heap:=((adF (adF w0.heap 0 (yd Gp)) 1 [.pointer (some ⟨w0.heap.size,0,none⟩)]).push
    (.cells #[.slice (some ⟨w0.heap.size+1,0,none⟩) 7 7, .slice none 0 0, .int .i64 2] 321)).push (.cells akd.toArray 324)}
theorem ait(os:Os)(args:Array aqT):laidMetH Tryz.prog wa ((Br os).forCall (λ_ _=>0) ⟨#[],args,[]⟩).memory:=
 laidMetH_of_parts (laidMet_of_run' 8 (by kernel_rfl) (by kernel_rfl)) (by kernel_rfl)
def SP(P:aqS)(w:aqU)(t:TypeId)(v:aqT):Bool:=
 match P.underlying t,v with
 |some (.pointer e), .pointer (some a)=>a.spot.isNone&&(match w.shape? a.block with
  |some (row,cells)=>liesAt P P.depth row (cells / P.cellsOf row) a.off e 1
  |none=>false)
 |_,v=>Cell.okB P t v
theorem apn{P:aqS}{w:aqU}{t:TypeId}{v:aqT}(h:SP P w t v=true):Cell.ok P w .any 0 t v:=by
 unfold SP at h;split at h
 ·next e a ht=>
  rw[ap3]at h;unfold Cell.ok;simp only[ht];obtain⟨J,h2⟩:=h;split at h2
  ·next row cells hs=>exact⟨trivial,by simpa using J,row,cells,hs,h2⟩
  ·cases h2
 ·exact Cell.ok_of_okB h
def PT(P:aqS)(w:aqU)(t:TypeId)(cs:Array aqT):Bool:=
 match P.cellTypes P.depth t with
 |some ts=>cs.size%ts.length==0&&(List.range cs.size).all λi=>
  match cs[i]?,ts[i%ts.length]? with
  |some v,some u=>SP P w u v
  |_,_=>false
 |none=>false
theorem apr{P:aqS}{w:aqU}{t:TypeId}{cs:Array aqT}(h:PT P w t cs=true):Row.ok P w .any 0 t cs:=by
 unfold PT at h;split at h
 ·rename_i ts uB
  simp only[ap3,beq_iff_eq,aqr,List.mem_range]at h;refine⟨ts,uB,⟨cs.size / ts.length,(Nat.div_mul_cancel (Nat.dvd_of_mod_eq_zero h.1)).symm⟩,λi v hv=> ?_⟩;have hi:i<cs.size:=(aqg.1 hv).1;have:=h.2 i hi;rw[hv]at this;cases hu:ts[i%ts.length]? with
  |none=>simp [hu]at this
  |some u=>simp only[hu]at this;exact⟨u,rfl,apn this⟩
 ·cases h
def Uf(P:aqS)(w:aqU):Bool:=
 let w₀:=(begin P (λ_ _=>0) default).world
 (List.range P.globals.size).all λg=>
  match (w₀.heap[g]?).bind Obj.row? with
  |none=>true
  |some (zero,t)=>
   match w.heap[g]? with
   |some (.cells cs t' frozen)=>decide (t'=t)&&decide (frozen=(0,0))&&cs.size==zero.size&&(!P.buildable t||PT P w t cs)
   |_=>false
theorem alR{P:aqS}{w:aqU}(hv:Uf P w=true)
 (hr:(w.heap.toList.drop P.globals.size).take ((begin P (λ_ _=>0) default).world.heap.size-P.globals.size)=
  (begin P (λ_ _=>0) default).world.heap.toList.drop P.globals.size):w.Shaped P:=by
 refine⟨λg zero t hg hz=> ?_,λk J h2=> ?_⟩
 case refine_2=>
  have:=congrArg (·[k-P.globals.size]?) hr;simp only[List.getElem?_take,List.getElem?_drop,aqo]at this;rw[if_pos (by omega),Nat.add_sub_cancel' J]at this;exact this
 unfold Uf at hv;simp only[aqr,List.mem_range]at hv;have:=hv g hg;rw[hz]at this;simp only at this;split at this
 ·rename_i cs t' fr hw
  simp only[ap3,decide_eq_true_eq,beq_iff_eq,Bool.or_eq_true,Bool.not_eq_true']at this;obtain⟨⟨⟨rfl,rfl⟩,hs⟩,hb⟩:=this;refine⟨cs,hw,hs,λapw=> ?_⟩;rcases hb with hb|hb
  ·rw[apw]at hb;cases hb
  ·exact apr hb
 ·cases this
theorem ai7(os:Os)(args:Array aqT):((Br os).forCall (λ_ _=>0) ⟨#[],args,[]⟩).Shaped Tryz.prog:=alR (by kernel_rfl) (by kernel_rfl)
theorem amu{H:Type}{enc:TypeId×aqT->H}{os:Os}{f:FuncId}{fn:Func}{s:ChangeSpec}{apart:Bool}(modest:Bool)(args:Array aqT)(fuel:Nat)
 (cd:Input.okWideB Tryz.prog ((Br os).forCall (λ_ _=>0) ⟨#[],args,[]⟩) f ⟨#[],args,[]⟩=true)
 (aip:s.preB enc Tryz.prog fn [] apart ((Br os).forCall (λ_ _=>0) ⟨#[],args,[]⟩).memory args fuel=true)
 (iA:s.sizedB enc Tryz.prog fn apart ((Br os).forCall (λ_ _=>0) ⟨#[],args,[]⟩).memory args fuel=true):
 ∃(w:aqU)(tape:Tape)(i:Input),w.os=os/\(w.forCall tape i).Shaped Tryz.checked.prog/\i.vars=[]/\Input.okWide Tryz.checked.prog (w.forCall tape i) .any w.heap.size f i/\
  ((s.pre enc Tryz.checked.prog fn [] apart (w.forCall tape i).memory i.args/\laidMetH Tryz.prog wa (w.forCall tape i).memory)/\sizedMet enc Tryz.checked.prog fn (OpenSpec.ofChange s) apart (w.forCall tape i).memory i.args)/\({modest:=modest}:Assume).holds Tryz.checked.prog (lone (Frame.enter Tryz.checked.prog f i.args .normal) [] (w.forCall tape i)):=
 ⟨Br os,λ_ _=>0,⟨#[],args,[]⟩,rfl,ai7 os args,(Input.okWide_of_okWideB (base:=0) cd).1,(Input.okWide_of_okWideB cd).2,⟨⟨ChangeSpec.pre_of_preB aip,ait os args⟩,sizedMet_of_sizedB iA⟩,by
  simp only[Assume.holds];exact⟨by simp,by simp,λ_=>Modest.zero,by simp,by simp⟩⟩
end Go.Proofs.YtpeecnpmcbnahaaGreatDoor
