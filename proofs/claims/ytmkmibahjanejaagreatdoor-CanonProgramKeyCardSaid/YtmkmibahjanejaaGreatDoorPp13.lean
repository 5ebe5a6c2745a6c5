/-
  Part 13 of the proof: Top.
-/
import Derived.Test.YtmkmibahjanejaaGreatDoorPp12
import Derived.Test.YtmkmibahjanejaaGreatDoorRows
import Derived.ProofKit
import Derived.OpenShut
import Derived.ShutString
import Derived.ChangeOld
import Derived.Lib.LaidTab
import Derived.LaidHandle
import Derived.JoinedOf
import Derived.ChangeVars
namespace Go.Proofs.YtmkmibahjanejaaGreatDoor
open Go.RowKit
set_option maxRecDepth 100000
theorem Mt{P:aqA}{W:aqC}{name:String}{k:IntKind}{zs:aqx Int}{l:aqx (String×DataW Unit)}{g:Nat}{t e:TypeId}{n:Nat}
 (hg:P.globalNamed name=some g) (rm:(P.globals[g]?).map (·.type)=some t) (ht:P.underlying t=some (.array n e)) (he:P.underlying e=some (.int k)) (hce:P.cellsOf e=1) (hct:P.cellsOf t=n)
 (h:laidMet P l W) (hm:(name,Lib.tabData k zs)∈l):Lib.TabIs P W name k zs:=by
 obtain⟨ps,hl,hx⟩:=h;clear hx
 induction l generalizing ps with
 |nil=>cases hm
 |cons x r ih=>
  obtain⟨x1,x2⟩:=x;obtain⟨g',t',cs,fuel,p,q,qz,rV,aoR,hd,hr,_⟩:=hl;rcases aqd.1 hm with hm|hm
  ·cases hm
   obtain rfl:=ap2 (hg.symm.trans qz);obtain rfl:=ap2 (rm.symm.trans rV);unfold Lib.TabIs;rw[aoR,<-Lib.cells_of_tab ht he hce hct hd]
  ·exact ih hm q hr
def Mx(W:aqC):Prop:=∀(g:Nat)(l:aqx aqB),(g,l)∈y5->∀(j:Nat)(v:aqB),l[j]?=some v->W.cell? ⟨g,j,none⟩=some v
def L9(W:aqC):Gh:={N:=0,Z:=λb=>b<W.heap.size,S:=λb _=>b<W.heap.size,aI:=λ_=>0,sg:=λ_=>undef,ow:=λ_=>none,fl:=λ_=>0,M:=0}
theorem ajC{W:aqC}(h:Mx W):bD (L9 W) W []:=by
 refine⟨rfl,λb hb=>hb,λb _ hb=>hb,λn B hB=>by simp at hB,λm n b hm=> ?_,λg l hm j v hv=>⟨World.block_lt_of_cell? W _ (h g l hm j v hv),h g l hm j v hv⟩,Nat.zero_le _⟩;rw[wR (by simp)]at hm;cases hm
theorem ae5{P:aqA}{f:FuncId}{args:aqx AV}{r:AV}(h:ij P f args (·=r)){W:aqC}(hT:Mx W)(vs:Array aqB)(hl:vs.size=args.length)
 (hv:∀(i:Nat)(u:aqB)(c:AV),vs[i]?=some u->args[i]?=some c->aD (L9 W) W u c):
 Calls P f vs W λe W'=>∃v G',e= .returned v/\aD G' W' v r/\Below W.heap.size W W':=by
 refine(h.2 (L9 W) W vs (ajC hT) hl hv).mono λe W' hp=> ?_;obtain⟨v,G',r',h',rfl,hE,_,_,hr,_,rfl⟩:=hp;exact⟨v,G',rfl,hr,hE.os,hE.tape,hE.output,hE.size,λk hk=>hE.old k hk⟩
theorem alF{P:aqA}{f:FuncId}{args:aqx AV}(h:ij P f args (·= .d (.v (.bool true)))){W:aqC}(hT:Mx W)(vs:Array aqB)(hl:vs.size=args.length)
 (hv:∀(i:Nat)(u:aqB)(c:AV),vs[i]?=some u->args[i]?=some c->aD (L9 W) W u c):
 Calls P f vs W λe W'=>e= .returned (.bool true)/\Below W.heap.size W W':=
 (ae5 h hT vs hl hv).mono λe W' hp=>by
  obtain⟨v,G',rfl,hr,hb⟩:=hp;cases hr with
  |d h=>cases h;exact⟨rfl,hb⟩
theorem PK(l:aqx Nat):qm l=(l.map Int.ofNat).map (λz=>Value.int .u8 z):=by simp [qm,List.map_map,Function.comp_def]
theorem akx(l:aqx Nat):AZ l=(l.map Int.ofNat).map (λz=>Value.int .u64 z):=by simp [AZ,List.map_map,Function.comp_def]
theorem HJ{P:aqA}{W:aqC}{name:String}{k:IntKind}{zs:aqx Int}{g:Nat}(h:Lib.TabIs P W name k zs)(hg:P.globalNamed name=some g)(j:Nat)(v:aqB)(hj:(zs.map λz=>Value.int k z)[j]?=some v):W.cell? ⟨g,j,none⟩=some v:=by
 rw[apQ]at hj;cases hz:zs[j]? with
 |none=>rw[hz]at hj;cases hj
 |some z=>
  rw[hz]at hj;cases hj
  have aH:j<zs.length:=(apJ.1 hz).1;have:=h.cell hg j aH;rw[List.getD_eq_getElem?_getD,hz]at this;exact this
def vf:aqx (String×DataW Unit):=Rows.canonProgramKeyRow.laid
theorem agj:(vf.filter λx=>x.2.handleName?.isSome)=[]:=by kernel_rfl
theorem afC{W:aqC}(h:laidMetH Tryz.prog vf W):laidMet Tryz.prog vf W:=by
 unfold laidMetH at h;rw[agj]at h;exact h
theorem afn{W:aqC}(h:laidMetH Tryz.prog vf W):Mx W:=by
 have hL:=afC h;intro g l hm j v hv;unfold y5 at hm;simp only[aqd,Prod.mk.injEq,aqp,or_false]at hm;rcases hm with⟨rfl,rfl⟩|⟨rfl,rfl⟩|⟨rfl,rfl⟩|⟨rfl,rfl⟩
 ·rw[PK]at hv;exact HJ (Mt (by kernel_rfl) (t:=252) (by kernel_rfl) Tryz.underlying252 Tryz.underlying5 (by kernel_rfl) (by kernel_rfl) hL (name:= "strings.asciiSpace") (g:=1) (apW (i:=4) (by kernel_rfl))) (by kernel_rfl) j v hv
 ·rw[akx]at hv;exact HJ (Mt (by kernel_rfl) (t:=223) (by kernel_rfl) Tryz.underlying223 Tryz.underlying74 (by kernel_rfl) (by kernel_rfl) hL (name:= "internal/strconv.uint64pow10") (g:=0) (apW (i:=2) (by kernel_rfl))) (by kernel_rfl) j v hv
 ·rw[PK]at hv;exact HJ (Mt (by kernel_rfl) (t:=261) (by kernel_rfl) Tryz.underlying261 Tryz.underlying5 (by kernel_rfl) (by kernel_rfl) hL (name:= "math/bits.deBruijn32tab") (g:=2) (apW (i:=0) (by kernel_rfl))) (by kernel_rfl) j v hv
 ·rw[PK]at hv;exact HJ (Mt (by kernel_rfl) (t:=262) (by kernel_rfl) Tryz.underlying262 Tryz.underlying5 (by kernel_rfl) (by kernel_rfl) hL (name:= "math/bits.deBruijn64tab") (g:=3) (apW (i:=1) (by kernel_rfl))) (by kernel_rfl) j v hv
theorem ajr:ownKnob Tryz.prog.godebug=none:=by kernel_rfl
def DB(h:Array Obj)(g:Nat)(l:aqx aqB):Array Obj:=h.modify g fun
 | .cells _ t frozen=> .cells l.toArray t frozen
 |o=>o
def yV(a b c:Nat):aqx aqB:=[.int .u16 (Int.ofNat a), .int .u16 (Int.ofNat b), .int .u16 (Int.ofNat c)]
def ac6:aqx aqB:=yV 9 13 1++(yV 32 133 101++(yV 160 5760 5600++(yV 8192 8202 1++(yV 8232 8233 1++(yV 8239 8287 48++yV 12288 12288 1)))))
noncomputable def Bb(os:Os):aqC:=
 let w0:=World.holding Tryz.prog os ⟨#[], #[],[]⟩
 {w0 with heap:=((DB (DB (DB (DB (DB w0.heap 1 (qm FL)) 0 (AZ II)) 2 (qm XP)) 3 (qm VS)) 4 [.pointer (some ⟨w0.heap.size,0,none⟩)]).push
    (.cells #[.slice (some ⟨w0.heap.size+1,0,none⟩) 7 7, .slice none 0 0, .int .i64 2] 283)).push (.cells ac6.toArray 286)}
theorem ahq(os:Os)(args:Array aqB):laidMetH Tryz.prog vf ((Bb os).forCall (λ_ _=>0) ⟨#[],args,[]⟩).memory:=
 laidMetH_of_parts (laidMet_of_run' 8 (by kernel_rfl) (by kernel_rfl)) (by kernel_rfl)
def P4(P:aqA)(w:aqC)(t:TypeId)(v:aqB):Bool:=
 match P.underlying t,v with
 |some (.pointer e), .pointer (some a)=>a.spot.isNone&&(match w.shape? a.block with
  |some (row,cells)=>liesAt P P.depth row (cells / P.cellsOf row) a.off e 1
  |none=>false)
 |_,v=>Cell.okB P t v
theorem aeh{P:aqA}{w:aqC}{t:TypeId}{v:aqB}(h:P4 P w t v=true):Cell.ok P w .any 0 t v:=by
 unfold P4 at h;split at h
 ·next e a ht=>
  rw[apL]at h;unfold Cell.ok;simp only[ht];obtain⟨h1,h2⟩:=h;split at h2
  ·next row cells hs=>exact⟨trivial,by simpa using h1,row,cells,hs,h2⟩
  ·cases h2
 ·exact Cell.ok_of_okB h
def QE(P:aqA)(w:aqC)(t:TypeId)(cs:Array aqB):Bool:=
 match P.cellTypes P.depth t with
 |some ts=>cs.size%ts.length==0&&(List.range cs.size).all λi=>
  match cs[i]?,ts[i%ts.length]? with
  |some v,some u=>P4 P w u v
  |_,_=>false
 |none=>false
theorem agZ{P:aqA}{w:aqC}{t:TypeId}{cs:Array aqB}(h:QE P w t cs=true):Row.ok P w .any 0 t cs:=by
 unfold QE at h;split at h
 ·rename_i ts wm
  simp only[apL,beq_iff_eq,ap9,List.mem_range]at h;refine⟨ts,wm,⟨cs.size / ts.length,(Nat.div_mul_cancel (Nat.dvd_of_mod_eq_zero h.1)).symm⟩,λi v hv=> ?_⟩;have hi:i<cs.size:=(apY.1 hv).1;have:=h.2 i hi;rw[hv]at this;cases hu:ts[i%ts.length]? with
  |none=>simp [hu]at this
  |some u=>simp only[hu]at this;exact⟨u,rfl,aeh this⟩
 ·cases h
def U8(P:aqA)(w:aqC):Bool:=
 let w₀:=(begin P (λ_ _=>0) default).world
 (List.range P.globals.size).all λg=>
  match (w₀.heap[g]?).bind Obj.row? with
  |none=>true
  |some (zero,t)=>
   match w.heap[g]? with
   |some (.cells cs t' frozen)=>decide (t'=t)&&decide (frozen=(0,0))&&cs.size==zero.size&&(!P.buildable t||QE P w t cs)
   |_=>false
theorem ags{P:aqA}{w:aqC}(hv:U8 P w=true)
 (hr:(w.heap.toList.drop P.globals.size).take ((begin P (λ_ _=>0) default).world.heap.size-P.globals.size)=
  (begin P (λ_ _=>0) default).world.heap.toList.drop P.globals.size):w.Shaped P:=by
 refine⟨λg zero t hg hz=> ?_,λk h1 h2=> ?_⟩
 case refine_2=>
  have:=congrArg (·[k-P.globals.size]?) hr;simp only[List.getElem?_take,List.getElem?_drop,ap6]at this;rw[if_pos (by omega),Nat.add_sub_cancel' h1]at this;exact this
 unfold U8 at hv;simp only[ap9,List.mem_range]at hv;have:=hv g hg;rw[hz]at this;simp only at this;split at this
 ·rename_i cs t' fr hw
  simp only[apL,decide_eq_true_eq,beq_iff_eq,Bool.or_eq_true,Bool.not_eq_true']at this;obtain⟨⟨⟨rfl,rfl⟩,hs⟩,hb⟩:=this;refine⟨cs,hw,hs,λan9=> ?_⟩;rcases hb with hb|hb
  ·rw[an9]at hb;cases hb
  ·exact agZ hb
 ·cases this
theorem aoS(os:Os)(args:Array aqB):((Bb os).forCall (λ_ _=>0) ⟨#[],args,[]⟩).Shaped Tryz.prog:=ags (by kernel_rfl) (by kernel_rfl)
theorem anb{H:Type}{enc:TypeId×aqB->H}{os:Os}{f:FuncId}{fn:Func}{s:ChangeSpec}{apart:Bool}(modest:Bool)(args:Array aqB)(fuel:Nat)
 (bQ:Input.okWideB Tryz.prog ((Bb os).forCall (λ_ _=>0) ⟨#[],args,[]⟩) f ⟨#[],args,[]⟩=true)
 (aoH:s.preB enc Tryz.prog fn [] apart ((Bb os).forCall (λ_ _=>0) ⟨#[],args,[]⟩).memory args fuel=true)
 (eY:s.sizedB enc Tryz.prog fn apart ((Bb os).forCall (λ_ _=>0) ⟨#[],args,[]⟩).memory args fuel=true):
 ∃(w:aqC)(tape:Tape)(i:Input),w.os=os/\(w.forCall tape i).Shaped Tryz.checked.prog/\i.vars=[]/\Input.okWide Tryz.checked.prog (w.forCall tape i) .any w.heap.size f i/\
  ((s.pre enc Tryz.checked.prog fn [] apart (w.forCall tape i).memory i.args/\laidMetH Tryz.prog vf (w.forCall tape i).memory)/\sizedMet enc Tryz.checked.prog fn (OpenSpec.ofChange s) apart (w.forCall tape i).memory i.args)/\({modest:=modest}:Assume).holds Tryz.checked.prog (lone (Frame.enter Tryz.checked.prog f i.args .normal) [] (w.forCall tape i)):=
 ⟨Bb os,λ_ _=>0,⟨#[],args,[]⟩,rfl,aoS os args,(Input.okWide_of_okWideB (base:=0) bQ).1,(Input.okWide_of_okWideB bQ).2,⟨⟨ChangeSpec.pre_of_preB aoH,ahq os args⟩,sizedMet_of_sizedB eY⟩,by
  simp only[Assume.holds];exact⟨by simp,by simp,λ_=>Modest.zero,by simp,by simp⟩⟩
end Go.Proofs.YtmkmibahjanejaaGreatDoor
