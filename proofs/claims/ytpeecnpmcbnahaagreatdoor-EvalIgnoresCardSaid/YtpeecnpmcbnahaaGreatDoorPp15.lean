/-
  Part 15 of the proof: Top.
-/
import Derived.Test.YtpeecnpmcbnahaaGreatDoorPp14
import Derived.Test.YtpeecnpmcbnahaaGreatDoorRows
import Derived.ProofKit
import Derived.OpenShut
import Derived.ShutString
import Derived.ChangeOld
import Derived.Lib.LaidTab
import Derived.LaidHandle
import Derived.JoinedOf
import Derived.ChangeVars
namespace Go.Proofs.YtpeecnpmcbnahaaGreatDoor
open Go.RowKit
set_option maxRecDepth 100000
theorem ale{P:api}{W:apk}{name:String}{k:IntKind}{zs:apf Int}{l:apf (String×DataW Unit)}{g:Nat}{t e:TypeId}{n:Nat}
 (hg:P.globalNamed name=some g) (nN:(P.globals[g]?).map (·.type)=some t) (ht:P.underlying t=some (.array n e)) (he:P.underlying e=some (.int k)) (hce:P.cellsOf e=1) (hct:P.cellsOf t=n)
 (h:laidMet P l W) (hm:(name,Lib.tabData k zs)∈l):Lib.TabIs P W name k zs:=by
 obtain⟨ps,hl,hx⟩:=h;clear hx
 induction l generalizing ps with
 |nil=>cases hm
 |cons x r ih=>
  obtain⟨x1,x2⟩:=x;obtain⟨g',t',cs,fuel,p,q,sx,qu,amx,hd,hr,_⟩:=hl;rcases aoV.1 hm with hm|hm
  ·cases hm
   obtain rfl:=aoK (hg.symm.trans sx);obtain rfl:=aoK (nN.symm.trans qu);unfold Lib.TabIs;rw[amx,<-Lib.cells_of_tab ht he hce hct hd]
  ·exact ih hm q hr
def JN(W:apk):Prop:=∀(g:Nat)(l:apf apj),(g,l)∈By->∀(j:Nat)(v:apj),l[j]?=some v->W.cell? ⟨g,j,none⟩=some v
def Jx(W:apk):Gh:={N:=0,Z:=λb=>b<W.heap.size,S:=λb _=>b<W.heap.size,aR:=λ_=>0,sg:=λ_=>undef,ow:=λ_=>none,fl:=λ_=>0,M:=0}
theorem anp{W:apk}(h:JN W):bN (Jx W) W []:=by
 refine⟨rfl,λb hb=>hb,λb _ hb=>hb,λn B hB=>by simp at hB,λm n b hm=> ?_,λg l hm j v hv=>⟨World.block_lt_of_cell? W _ (h g l hm j v hv),h g l hm j v hv⟩,Nat.zero_le _⟩;rw[uT (by simp)]at hm;cases hm
theorem ajL{P:api}{f:FuncId}{args:apf AV}{r:AV}(h:ga P f args (·=r)){W:apk}(hT:JN W)(vs:Array apj)(hl:vs.size=args.length)
 (hv:∀(i:Nat)(u:apj)(c:AV),vs[i]?=some u->args[i]?=some c->aF (Jx W) W u c):
 Calls P f vs W λe W'=>∃v G',e= .returned v/\aF G' W' v r/\Below W.heap.size W W':=by
 refine(h.2 (Jx W) W vs (anp hT) hl hv).mono λe W' hp=> ?_;obtain⟨v,G',r',h',rfl,hE,_,_,hr,_,rfl⟩:=hp;exact⟨v,G',rfl,hr,hE.os,hE.tape,hE.output,hE.size,λk hk=>hE.old k hk⟩
theorem ajz{P:api}{f:FuncId}{args:apf AV}(h:ga P f args (·= .d (.v (.bool true)))){W:apk}(hT:JN W)(vs:Array apj)(hl:vs.size=args.length)
 (hv:∀(i:Nat)(u:apj)(c:AV),vs[i]?=some u->args[i]?=some c->aF (Jx W) W u c):
 Calls P f vs W λe W'=>e= .returned (.bool true)/\Below W.heap.size W W':=
 (ajL h hT vs hl hv).mono λe W' hp=>by
  obtain⟨v,G',rfl,hr,hb⟩:=hp;cases hr with
  |d h=>cases h;exact⟨rfl,hb⟩
theorem ac8(l:apf Nat):w7 l=(l.map Int.ofNat).map (λz=>Value.int .u8 z):=by simp [w7,List.map_map,Function.comp_def]
theorem am8{P:api}{W:apk}{name:String}{k:IntKind}{zs:apf Int}{g:Nat}(h:Lib.TabIs P W name k zs)(hg:P.globalNamed name=some g)(j:Nat)(v:apj)(hj:(zs.map λz=>Value.int k z)[j]?=some v):W.cell? ⟨g,j,none⟩=some v:=by
 rw[aoy]at hj;cases hz:zs[j]? with
 |none=>rw[hz]at hj;cases hj
 |some z=>
  rw[hz]at hj;cases hj
  have aN:j<zs.length:=(aor.1 hz).1;have:=h.cell hg j aN;rw[List.getD_eq_getElem?_getD,hz]at this;exact this
def tY:apf (String×DataW Unit):=Rows.evalIgnoresRow.laid
theorem ajC:(tY.filter λx=>x.2.handleName?.isSome)=[]:=by kernel_rfl
theorem ae4{W:apk}(h:laidMetH Tryz.prog tY W):laidMet Tryz.prog tY W:=by
 unfold laidMetH at h;rw[ajC]at h;exact h
theorem akf{W:apk}(h:laidMetH Tryz.prog tY W):JN W:=by
 have hL:=ae4 h;intro g l hm j v hv;unfold By at hm;simp only[aoV,Prod.mk.injEq,ao7,or_false]at hm;rcases hm with⟨rfl,rfl⟩
 ·rw[ac8]at hv;exact am8 (ale (by kernel_rfl) (t:=301) (by kernel_rfl) Tryz.underlying301 Tryz.underlying5 (by kernel_rfl) (by kernel_rfl) hL (name:= "strings.asciiSpace") (g:=0) (aoE (i:=1) (by kernel_rfl))) (by kernel_rfl) j v hv
theorem anE:ownKnob Tryz.prog.godebug=none:=by kernel_rfl
def UP(h:Array Obj)(g:Nat)(l:apf apj):Array Obj:=h.modify g fun
 | .cells _ t frozen=> .cells l.toArray t frozen
 |o=>o
def wL(a b c:Nat):apf apj:=[.int .u16 (Int.ofNat a), .int .u16 (Int.ofNat b), .int .u16 (Int.ofNat c)]
def ae1:apf apj:=wL 9 13 1++(wL 32 133 101++(wL 160 5760 5600++(wL 8192 8202 1++(wL 8232 8233 1++(wL 8239 8287 48++wL 12288 12288 1)))))
noncomputable def Bb(os:Os):apk:=
 let w0:=World.holding Tryz.prog os ⟨#[], #[],[]⟩
 {w0 with heap:=((UP (UP w0.heap 0 (w7 Gr)) 1 [.pointer (some ⟨w0.heap.size,0,none⟩)]).push
    (.cells #[.slice (some ⟨w0.heap.size+1,0,none⟩) 7 7, .slice none 0 0, .int .i64 2] 321)).push (.cells ae1.toArray 324)}
theorem alo(os:Os)(args:Array apj):laidMetH Tryz.prog tY ((Bb os).forCall (λ_ _=>0) ⟨#[],args,[]⟩).memory:=
 laidMetH_of_parts (laidMet_of_run' 8 (by kernel_rfl) (by kernel_rfl)) (by kernel_rfl)
def O9(P:api)(w:apk)(t:TypeId)(v:apj):Bool:=
 match P.underlying t,v with
 |some (.pointer e), .pointer (some a)=>a.spot.isNone&&(match w.shape? a.block with
  |some (row,cells)=>liesAt P P.depth row (cells / P.cellsOf row) a.off e 1
  |none=>false)
 |_,v=>Cell.okB P t v
theorem ahA{P:api}{w:apk}{t:TypeId}{v:apj}(h:O9 P w t v=true):Cell.ok P w .any 0 t v:=by
 unfold O9 at h;split at h
 ·next e a ht=>
  rw[aot]at h;unfold Cell.ok;simp only[ht];obtain⟨J,h2⟩:=h;split at h2
  ·next row cells hs=>exact⟨trivial,by simpa using J,row,cells,hs,h2⟩
  ·cases h2
 ·exact Cell.ok_of_okB h
def Oh(P:api)(w:apk)(t:TypeId)(cs:Array apj):Bool:=
 match P.cellTypes P.depth t with
 |some ts=>cs.size%ts.length==0&&(List.range cs.size).all λi=>
  match cs[i]?,ts[i%ts.length]? with
  |some v,some u=>O9 P w u v
  |_,_=>false
 |none=>false
theorem amn{P:api}{w:apk}{t:TypeId}{cs:Array apj}(h:Oh P w t cs=true):Row.ok P w .any 0 t cs:=by
 unfold Oh at h;split at h
 ·rename_i ts uu
  simp only[aot,beq_iff_eq,aoR,List.mem_range]at h;refine⟨ts,uu,⟨cs.size / ts.length,(Nat.div_mul_cancel (Nat.dvd_of_mod_eq_zero h.1)).symm⟩,λi v hv=> ?_⟩;have hi:i<cs.size:=(aoG.1 hv).1;have:=h.2 i hi;rw[hv]at this;cases hu:ts[i%ts.length]? with
  |none=>simp [hu]at this
  |some u=>simp only[hu]at this;exact⟨u,rfl,ahA this⟩
 ·cases h
def WM(P:api)(w:apk):Bool:=
 let w₀:=(begin P (λ_ _=>0) default).world
 (List.range P.globals.size).all λg=>
  match (w₀.heap[g]?).bind Obj.row? with
  |none=>true
  |some (zero,t)=>
   match w.heap[g]? with
   |some (.cells cs t' frozen)=>decide (t'=t)&&decide (frozen=(0,0))&&cs.size==zero.size&&(!P.buildable t||Oh P w t cs)
   |_=>false
theorem agD{P:api}{w:apk}(hv:WM P w=true)
 (hr:(w.heap.toList.drop P.globals.size).take ((begin P (λ_ _=>0) default).world.heap.size-P.globals.size)=
  (begin P (λ_ _=>0) default).world.heap.toList.drop P.globals.size):w.Shaped P:=by
 refine⟨λg zero t hg hz=> ?_,λk J h2=> ?_⟩
 case refine_2=>
  have:=congrArg (·[k-P.globals.size]?) hr;simp only[List.getElem?_take,List.getElem?_drop,aoO]at this;rw[if_pos (by omega),Nat.add_sub_cancel' J]at this;exact this
 unfold WM at hv;simp only[aoR,List.mem_range]at hv;have:=hv g hg;rw[hz]at this;simp only at this;split at this
 ·rename_i cs t' fr hw
  simp only[aot,decide_eq_true_eq,beq_iff_eq,Bool.or_eq_true,Bool.not_eq_true']at this;obtain⟨⟨⟨rfl,rfl⟩,hs⟩,hb⟩:=this;refine⟨cs,hw,hs,λaej=> ?_⟩;rcases hb with hb|hb
  ·rw[aej]at hb;cases hb
  ·exact amn hb
 ·cases this
theorem ahs(os:Os)(args:Array apj):((Bb os).forCall (λ_ _=>0) ⟨#[],args,[]⟩).Shaped Tryz.prog:=agD (by kernel_rfl) (by kernel_rfl)
theorem ad2{H:Type}{enc:TypeId×apj->H}{os:Os}{f:FuncId}{fn:Func}{s:ChangeSpec}{apart:Bool}(modest:Bool)(args:Array apj)(fuel:Nat)
 (bS:Input.okWideB Tryz.prog ((Bb os).forCall (λ_ _=>0) ⟨#[],args,[]⟩) f ⟨#[],args,[]⟩=true)
 (aiq:s.preB enc Tryz.prog fn [] apart ((Bb os).forCall (λ_ _=>0) ⟨#[],args,[]⟩).memory args fuel=true)
 (iq:s.sizedB enc Tryz.prog fn apart ((Bb os).forCall (λ_ _=>0) ⟨#[],args,[]⟩).memory args fuel=true):
 ∃(w:apk)(tape:Tape)(i:Input),w.os=os/\(w.forCall tape i).Shaped Tryz.checked.prog/\i.vars=[]/\Input.okWide Tryz.checked.prog (w.forCall tape i) .any w.heap.size f i/\
  ((s.pre enc Tryz.checked.prog fn [] apart (w.forCall tape i).memory i.args/\laidMetH Tryz.prog tY (w.forCall tape i).memory)/\sizedMet enc Tryz.checked.prog fn (OpenSpec.ofChange s) apart (w.forCall tape i).memory i.args)/\({modest:=modest}:Assume).holds Tryz.checked.prog (lone (Frame.enter Tryz.checked.prog f i.args .normal) [] (w.forCall tape i)):=
 ⟨Bb os,λ_ _=>0,⟨#[],args,[]⟩,rfl,ahs os args,(Input.okWide_of_okWideB (base:=0) bS).1,(Input.okWide_of_okWideB bS).2,⟨⟨ChangeSpec.pre_of_preB aiq,alo os args⟩,sizedMet_of_sizedB iq⟩,by
  simp only[Assume.holds];exact⟨by simp,by simp,λ_=>Modest.zero,by simp,by simp⟩⟩
end Go.Proofs.YtpeecnpmcbnahaaGreatDoor
