/-
  Part 15 of the proof: Top.
-/
import Derived.Test.YtnnapanbbbcalaaGreatDoorPp14
import Derived.Test.YtnnapanbbbcalaaGreatDoorRows
import Derived.ProofKit
import Derived.OpenShut
import Derived.ShutString
import Derived.ChangeOld
import Derived.Lib.LaidTab
import Derived.LaidHandle
import Derived.JoinedOf
import Derived.ChangeVars
namespace Go.Proofs.YtnnapanbbbcalaaGreatDoor
open Go.RowKit
set_option maxRecDepth 100000
theorem akz{P:amW}{W:amY}{name:String}{k:IntKind}{zs:amT Int}{l:amT (String×DataW Unit)}{g:Nat}{t e:TypeId}{n:Nat}
 (hg:P.globalNamed name=some g) (oM:(P.globals[g]?).map (·.type)=some t) (ht:P.underlying t=some (.array n e)) (he:P.underlying e=some (.int k)) (hce:P.cellsOf e=1) (hct:P.cellsOf t=n)
 (h:laidMet P l W) (hm:(name,Lib.tabData k zs)∈l):Lib.TabIs P W name k zs:=by
 obtain⟨ps,hl,hx⟩:=h;clear hx
 induction l generalizing ps with
 |nil=>cases hm
 |cons x r ih=>
  obtain⟨x1,x2⟩:=x;obtain⟨g',t',cs,fuel,p,q,rh,qT,aiF,hd,hr,_⟩:=hl;rcases amz.1 hm with hm|hm
  ·cases hm
   obtain rfl:=amo (hg.symm.trans rh);obtain rfl:=amo (oM.symm.trans qT);unfold Lib.TabIs;rw[aiF,<-Lib.cells_of_tab ht he hce hct hd]
  ·exact ih hm q hr
def JJ(W:amY):Prop:=∀(g:Nat)(l:amT amX),(g,l)∈xW->∀(j:Nat)(v:amX),l[j]?=some v->W.cell? ⟨g,j,none⟩=some v
def FG(W:amY):Gh:={N:=0,Z:=λb=>b<W.heap.size,S:=λb _=>b<W.heap.size,aR:=λ_=>0,sg:=λ_=>undef,ow:=λ_=>none,fl:=λ_=>0,M:=0}
theorem abM{W:amY}(h:JJ W):bU (FG W) W []:=by
 refine⟨rfl,λb hb=>hb,λb _ hb=>hb,λn B hB=>by simp at hB,λm n b hm=> ?_,λg l hm j v hv=>⟨World.block_lt_of_cell? W _ (h g l hm j v hv),h g l hm j v hv⟩,Nat.zero_le _⟩;rw[ux (by simp)]at hm;cases hm
theorem acI{P:amW}{f:FuncId}{args:amT AV}{r:AV}(h:ga P f args (·=r)){W:amY}(hT:JJ W)(vs:Array amX)(hl:vs.size=args.length)
 (hv:∀(i:Nat)(u:amX)(c:AV),vs[i]?=some u->args[i]?=some c->aH (FG W) W u c):
 Calls P f vs W λe W'=>∃v G',e= .returned v/\aH G' W' v r/\Below W.heap.size W W':=by
 refine(h.2 (FG W) W vs (abM hT) hl hv).mono λe W' hp=> ?_;obtain⟨v,G',r',h',rfl,hE,_,_,hr,_,rfl⟩:=hp;exact⟨v,G',rfl,hr,hE.os,hE.tape,hE.output,hE.size,λk hk=>hE.old k hk⟩
theorem aaz{P:amW}{f:FuncId}{args:amT AV}(h:ga P f args (·= .d (.v (.bool true)))){W:amY}(hT:JJ W)(vs:Array amX)(hl:vs.size=args.length)
 (hv:∀(i:Nat)(u:amX)(c:AV),vs[i]?=some u->args[i]?=some c->aH (FG W) W u c):
 Calls P f vs W λe W'=>e= .returned (.bool true)/\Below W.heap.size W W':=
 (acI h hT vs hl hv).mono λe W' hp=>by
  obtain⟨v,G',rfl,hr,hb⟩:=hp;cases hr with
  |d h=>cases h;exact⟨rfl,hb⟩
theorem aa3(l:amT Nat):ve l=(l.map Int.ofNat).map (λz=>Value.int .u8 z):=by simp [ve,List.map_map,Function.comp_def]
theorem adQ{P:amW}{W:amY}{name:String}{k:IntKind}{zs:amT Int}{g:Nat}(h:Lib.TabIs P W name k zs)(hg:P.globalNamed name=some g)(j:Nat)(v:amX)(hj:(zs.map λz=>Value.int k z)[j]?=some v):W.cell? ⟨g,j,none⟩=some v:=by
 rw[amc]at hj;cases hz:zs[j]? with
 |none=>rw[hz]at hj;cases hj
 |some z=>
  rw[hz]at hj;cases hj
  have aN:j<zs.length:=(al5.1 hz).1;have:=h.cell hg j aN;rw[List.getD_eq_getElem?_getD,hz]at this;exact this
def tK:amT (String×DataW Unit):=Rows.evalExprsRow.laid
theorem aep:(tK.filter λx=>x.2.handleName?.isSome)=[]:=by kernel_rfl
theorem aam{W:amY}(h:laidMetH Tryz.prog tK W):laidMet Tryz.prog tK W:=by
 unfold laidMetH at h;rw[aep]at h;exact h
theorem ajF{W:amY}(h:laidMetH Tryz.prog tK W):JJ W:=by
 have hL:=aam h;intro g l hm j v hv;unfold xW at hm;simp only[amz,Prod.mk.injEq,amL,or_false]at hm;rcases hm with⟨rfl,rfl⟩
 ·rw[aa3]at hv;exact adQ (akz (by kernel_rfl) (t:=303) (by kernel_rfl) Tryz.underlying303 Tryz.underlying5 (by kernel_rfl) (by kernel_rfl) hL (name:= "strings.asciiSpace") (g:=0) (ami (i:=1) (by kernel_rfl))) (by kernel_rfl) j v hv
theorem aar:ownKnob Tryz.prog.godebug=none:=by kernel_rfl
def Td(h:Array Obj)(g:Nat)(l:amT amX):Array Obj:=h.modify g fun
 | .cells _ t frozen=> .cells l.toArray t frozen
 |o=>o
def vZ(a b c:Nat):amT amX:=[.int .u16 (Int.ofNat a), .int .u16 (Int.ofNat b), .int .u16 (Int.ofNat c)]
def aiJ:amT amX:=vZ 9 13 1++(vZ 32 133 101++(vZ 160 5760 5600++(vZ 8192 8202 1++(vZ 8232 8233 1++(vZ 8239 8287 48++vZ 12288 12288 1)))))
noncomputable def AN(os:Os):amY:=
 let w0:=World.holding Tryz.prog os ⟨#[], #[],[]⟩
 {w0 with heap:=((Td (Td w0.heap 0 (ve DE)) 1 [.pointer (some ⟨w0.heap.size,0,none⟩)]).push
    (.cells #[.slice (some ⟨w0.heap.size+1,0,none⟩) 7 7, .slice none 0 0, .int .i64 2] 323)).push (.cells aiJ.toArray 326)}
theorem agp(os:Os)(args:Array amX):laidMetH Tryz.prog tK ((AN os).forCall (λ_ _=>0) ⟨#[],args,[]⟩).memory:=
 laidMetH_of_parts (laidMet_of_run' 8 (by kernel_rfl) (by kernel_rfl)) (by kernel_rfl)
def L7(P:amW)(w:amY)(t:TypeId)(v:amX):Bool:=
 match P.underlying t,v with
 |some (.pointer e), .pointer (some a)=>a.spot.isNone&&(match w.shape? a.block with
  |some (row,cells)=>liesAt P P.depth row (cells / P.cellsOf row) a.off e 1
  |none=>false)
 |_,v=>Cell.okB P t v
theorem ajJ{P:amW}{w:amY}{t:TypeId}{v:amX}(h:L7 P w t v=true):Cell.ok P w .any 0 t v:=by
 unfold L7 at h;split at h
 ·next e a ht=>
  rw[al7]at h;unfold Cell.ok;simp only[ht];obtain⟨h1,h2⟩:=h;split at h2
  ·next row cells hs=>exact⟨trivial,by simpa using h1,row,cells,hs,h2⟩
  ·cases h2
 ·exact Cell.ok_of_okB h
def Mx(P:amW)(w:amY)(t:TypeId)(cs:Array amX):Bool:=
 match P.cellTypes P.depth t with
 |some ts=>cs.size%ts.length==0&&(List.range cs.size).all λi=>
  match cs[i]?,ts[i%ts.length]? with
  |some v,some u=>L7 P w u v
  |_,_=>false
 |none=>false
theorem ago{P:amW}{w:amY}{t:TypeId}{cs:Array amX}(h:Mx P w t cs=true):Row.ok P w .any 0 t cs:=by
 unfold Mx at h;split at h
 ·rename_i ts tp
  simp only[al7,beq_iff_eq,amv,List.mem_range]at h;refine⟨ts,tp,⟨cs.size / ts.length,(Nat.div_mul_cancel (Nat.dvd_of_mod_eq_zero h.1)).symm⟩,λi v hv=> ?_⟩;have hi:i<cs.size:=(amk.1 hv).1;have:=h.2 i hi;rw[hv]at this;cases hu:ts[i%ts.length]? with
  |none=>simp [hu]at this
  |some u=>simp only[hu]at this;exact⟨u,rfl,ajJ this⟩
 ·cases h
def Ve(P:amW)(w:amY):Bool:=
 let w₀:=(begin P (λ_ _=>0) default).world
 (List.range P.globals.size).all λg=>
  match (w₀.heap[g]?).bind Obj.row? with
  |none=>true
  |some (zero,t)=>
   match w.heap[g]? with
   |some (.cells cs t' frozen)=>decide (t'=t)&&decide (frozen=(0,0))&&cs.size==zero.size&&(!P.buildable t||Mx P w t cs)
   |_=>false
theorem ado{P:amW}{w:amY}(hv:Ve P w=true)
 (hr:(w.heap.toList.drop P.globals.size).take ((begin P (λ_ _=>0) default).world.heap.size-P.globals.size)=
  (begin P (λ_ _=>0) default).world.heap.toList.drop P.globals.size):w.Shaped P:=by
 refine⟨λg zero t hg hz=> ?_,λk h1 h2=> ?_⟩
 case refine_2=>
  have:=congrArg (·[k-P.globals.size]?) hr;simp only[List.getElem?_take,List.getElem?_drop,ams]at this;rw[if_pos (by omega),Nat.add_sub_cancel' h1]at this;exact this
 unfold Ve at hv;simp only[amv,List.mem_range]at hv;have:=hv g hg;rw[hz]at this;simp only at this;split at this
 ·rename_i cs t' fr hw
  simp only[al7,decide_eq_true_eq,beq_iff_eq,Bool.or_eq_true,Bool.not_eq_true']at this;obtain⟨⟨⟨rfl,rfl⟩,hs⟩,hb⟩:=this;refine⟨cs,hw,hs,λakp=> ?_⟩;rcases hb with hb|hb
  ·rw[akp]at hb;cases hb
  ·exact ago hb
 ·cases this
theorem ako(os:Os)(args:Array amX):((AN os).forCall (λ_ _=>0) ⟨#[],args,[]⟩).Shaped Tryz.prog:=ado (by kernel_rfl) (by kernel_rfl)
theorem ade{H:Type}{enc:TypeId×amX->H}{os:Os}{f:FuncId}{fn:Func}{s:ChangeSpec}{apart:Bool}(modest:Bool)(args:Array amX)(fuel:Nat)
 (bW:Input.okWideB Tryz.prog ((AN os).forCall (λ_ _=>0) ⟨#[],args,[]⟩) f ⟨#[],args,[]⟩=true)
 (abW:s.preB enc Tryz.prog fn [] apart ((AN os).forCall (λ_ _=>0) ⟨#[],args,[]⟩).memory args fuel=true)
 (hsz:s.sizedB enc Tryz.prog fn apart ((AN os).forCall (λ_ _=>0) ⟨#[],args,[]⟩).memory args fuel=true):
 ∃(w:amY)(tape:Tape)(i:Input),w.os=os/\(w.forCall tape i).Shaped Tryz.checked.prog/\i.vars=[]/\Input.okWide Tryz.checked.prog (w.forCall tape i) .any w.heap.size f i/\
  ((s.pre enc Tryz.checked.prog fn [] apart (w.forCall tape i).memory i.args/\laidMetH Tryz.prog tK (w.forCall tape i).memory)/\sizedMet enc Tryz.checked.prog fn (OpenSpec.ofChange s) apart (w.forCall tape i).memory i.args)/\({modest:=modest}:Assume).holds Tryz.checked.prog (lone (Frame.enter Tryz.checked.prog f i.args .normal) [] (w.forCall tape i)):=
 ⟨AN os,λ_ _=>0,⟨#[],args,[]⟩,rfl,ako os args,(Input.okWide_of_okWideB (base:=0) bW).1,(Input.okWide_of_okWideB bW).2,⟨⟨ChangeSpec.pre_of_preB abW,agp os args⟩,sizedMet_of_sizedB hsz⟩,by
  simp only[Assume.holds];exact⟨by simp,by simp,λ_=>Modest.zero,by simp,by simp⟩⟩
end Go.Proofs.YtnnapanbbbcalaaGreatDoor
