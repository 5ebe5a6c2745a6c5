/-
  Part 14 of the proof: Top.
-/
import Derived.Test.YtmkmibahjanejaaGreatDoorPp13
import Derived.Test.YtmkmibahjanejaaGreatDoorRows
import Derived.ProofKit
import Derived.OpenShut
import Derived.ShutString
import Derived.ChangeOld
import Derived.Lib.LaidTab
import Derived.LaidHandle
import Derived.JoinedOf
import Derived.ChangeVars
namespace Go.Proofs.YtmkmibahjanejaaGreatDoor
open Go.RowKit
set_option maxRecDepth 100000
theorem C0{P:agN}{W:agP}{name:String}{k:IntKind}{zs:agK Int}{l:agK (String×DataW Unit)}{g:Nat}{t e:TypeId}{n:Nat}
 (hg:P.globalNamed name=some g) (Ay:(P.globals[g]?).map (·.type)=some t) (ht:P.underlying t=some (.array n e)) (he:P.underlying e=some (.int k)) (X2:P.cellsOf e=1) (YI:P.cellsOf t=n)
 (h:laidMet P l W) (hm:(name,Lib.tabData k zs)∈l):Lib.TabIs P W name k zs:=by
 obtain⟨ps,hl,hx⟩:=h;clear hx
 induction l generalizing ps with
 |nil=>cases hm
 |cons x r ih=>
  obtain⟨x1,x2⟩:=x;obtain⟨g',t',cs,fuel,p,q,pE,nv,Vy,hd,hr,_⟩:=hl;rcases agq.1 hm with hm|hm
  ·cases hm
   obtain rfl:=age (hg.symm.trans pE);obtain rfl:=age (Ay.symm.trans nv);unfold Lib.TabIs;rw[Vy,<-Lib.cells_of_tab ht he X2 YI hd]
  ·exact ih hm q hr
def Fb(W:agP):Prop:=∀(g:Nat)(l:agK agO),(g,l)∈wc->∀(j:Nat)(v:agO),l[j]?=some v->W.cell? ⟨g,j,none⟩=some v
def EU(W:agP):Gh:={N:=0,Z:=λb=>b<W.heap.size,S:=λb _=>b<W.heap.size,aF:=λ_=>0,sg:=λ_=>undef,ow:=λ_=>none,fl:=λ_=>0,M:=0}
theorem ad2{W:agP}(h:Fb W):bg (EU W) W []:=by
 refine⟨rfl,λb hb=>hb,λb _ hb=>hb,λn B hB=>by simp at hB,λm n b hm=> ?_,λg l hm j v hv=>⟨World.block_lt_of_cell? W _ (h g l hm j v hv),h g l hm j v hv⟩,Nat.zero_le _⟩;rw[ss (by simp)]at hm;cases hm
theorem aa0{P:agN}{f:FuncId}{args:agK J}{r:J}(h:gj P f args (·=r)){W:agP}(hT:Fb W)(vs:Array agO)(hl:vs.size=args.length)
 (hv:∀(i:Nat)(u:agO)(c:J),vs[i]?=some u->args[i]?=some c->ax (EU W) W u c):
 Calls P f vs W λe W'=>∃v G',e= .returned v/\ax G' W' v r/\Below W.heap.size W W':=by
 refine(h.2 (EU W) W vs (ad2 hT) hl hv).mono λe W' hp=> ?_;obtain⟨v,G',r',h',rfl,hE,_,_,hr,_,rfl⟩:=hp;exact⟨v,G',rfl,hr,hE.os,hE.tape,hE.output,hE.size,λk hk=>hE.old k hk⟩
theorem YE{P:agN}{f:FuncId}{args:agK J}(h:gj P f args (·= .d (.v (.bool true)))){W:agP}(hT:Fb W)(vs:Array agO)(hl:vs.size=args.length)
 (hv:∀(i:Nat)(u:agO)(c:J),vs[i]?=some u->args[i]?=some c->ax (EU W) W u c):
 Calls P f vs W λe W'=>e= .returned (.bool true)/\Below W.heap.size W W':=
 (aa0 h hT vs hl hv).mono λe W' hp=>by
  obtain⟨v,G',rfl,hr,hb⟩:=hp;cases hr with
  |d h=>cases h;exact⟨rfl,hb⟩
theorem Ls(l:agK Nat):mm l=(l.map Int.ofNat).map (λz=>Value.int .u8 z):=by simp [mm,List.map_map,Function.comp_def]
theorem aby(l:agK Nat):CY l=(l.map Int.ofNat).map (λz=>Value.int .u64 z):=by simp [CY,List.map_map,Function.comp_def]
theorem Fe{P:agN}{W:agP}{name:String}{k:IntKind}{zs:agK Int}{g:Nat}(h:Lib.TabIs P W name k zs)(hg:P.globalNamed name=some g)(j:Nat)(v:agO)(hj:(zs.map λz=>Value.int k z)[j]?=some v):W.cell? ⟨g,j,none⟩=some v:=by
 rw[af2]at hj;cases hz:zs[j]? with
 |none=>rw[hz]at hj;cases hj
 |some z=>
  rw[hz]at hj;cases hj
  have az:j<zs.length:=(afV.1 hz).1;have:=h.cell hg j az;rw[List.getD_eq_getElem?_getD,hz]at this;exact this
def rY:agK (String×DataW Unit):=Rows.canonNormalizeRow.laid
theorem ZJ:(rY.filter λx=>x.2.handleName?.isSome)=[]:=by kernel_rfl
theorem Xq{W:agP}(h:laidMetH Tryz.prog rY W):laidMet Tryz.prog rY W:=by
 unfold laidMetH at h;rw[ZJ]at h;exact h
theorem WN{W:agP}(h:laidMetH Tryz.prog rY W):Fb W:=by
 have hL:=Xq h;intro g l hm j v hv;unfold wc at hm;simp only[agq,Prod.mk.injEq,agC,or_false]at hm;rcases hm with⟨rfl,rfl⟩|⟨rfl,rfl⟩|⟨rfl,rfl⟩|⟨rfl,rfl⟩
 ·rw[Ls]at hv;exact Fe (C0 (by kernel_rfl) (t:=252) (by kernel_rfl) Tryz.underlying252 Tryz.underlying5 (by kernel_rfl) (by kernel_rfl) hL (name:= "strings.asciiSpace") (g:=1) (af8 (i:=4) (by kernel_rfl))) (by kernel_rfl) j v hv
 ·rw[aby]at hv;exact Fe (C0 (by kernel_rfl) (t:=223) (by kernel_rfl) Tryz.underlying223 Tryz.underlying74 (by kernel_rfl) (by kernel_rfl) hL (name:= "internal/strconv.uint64pow10") (g:=0) (af8 (i:=2) (by kernel_rfl))) (by kernel_rfl) j v hv
 ·rw[Ls]at hv;exact Fe (C0 (by kernel_rfl) (t:=261) (by kernel_rfl) Tryz.underlying261 Tryz.underlying5 (by kernel_rfl) (by kernel_rfl) hL (name:= "math/bits.deBruijn32tab") (g:=2) (af8 (i:=0) (by kernel_rfl))) (by kernel_rfl) j v hv
 ·rw[Ls]at hv;exact Fe (C0 (by kernel_rfl) (t:=262) (by kernel_rfl) Tryz.underlying262 Tryz.underlying5 (by kernel_rfl) (by kernel_rfl) hL (name:= "math/bits.deBruijn64tab") (g:=3) (af8 (i:=1) (by kernel_rfl))) (by kernel_rfl) j v hv
theorem Yw:ownKnob Tryz.prog.godebug=none:=by kernel_rfl
def yp(h:Array Obj)(g:Nat)(l:agK agO):Array Obj:=h.modify g fun
 | .cells _ t frozen=> .cells l.toArray t frozen
 |o=>o
def tq(a b c:Nat):agK agO:=[.int .u16 (Int.ofNat a), .int .u16 (Int.ofNat b), .int .u16 (Int.ofNat c)]
def aam:agK agO:=tq 9 13 1++(tq 32 133 101++(tq 160 5760 5600++(tq 8192 8202 1++(tq 8232 8233 1++(tq 8239 8287 48++tq 12288 12288 1)))))
noncomputable def wL(os:Os):agP:=
 let w0:=World.holding Tryz.prog os ⟨#[], #[],[]⟩
 {w0 with heap:=((yp (yp (yp (yp (yp w0.heap 1 (mm xk)) 0 (CY O2)) 2 (mm ML)) 3 (mm QM)) 4 [.pointer (some ⟨w0.heap.size,0,none⟩)]).push
    (.cells #[.slice (some ⟨w0.heap.size+1,0,none⟩) 7 7, .slice none 0 0, .int .i64 2] 283)).push (.cells aam.toArray 286)}
theorem aeW(os:Os)(args:Array agO):laidMetH Tryz.prog rY ((wL os).forCall (λ_ _=>0) ⟨#[],args,[]⟩).memory:=
 laidMetH_of_parts (laidMet_of_run' 8 (by kernel_rfl) (by kernel_rfl)) (by kernel_rfl)
def HX(P:agN)(w:agP)(t:TypeId)(v:agO):Bool:=
 match P.underlying t,v with
 |some (.pointer e), .pointer (some a)=>a.spot.isNone&&(match w.shape? a.block with
  |some (row,cells)=>liesAt P P.depth row (cells / P.cellsOf row) a.off e 1
  |none=>false)
 |_,v=>Cell.okB P t v
theorem Um{P:agN}{w:agP}{t:TypeId}{v:agO}(h:HX P w t v=true):Cell.ok P w .any 0 t v:=by
 unfold HX at h;split at h
 ·next e a ht=>
  rw[afX]at h;unfold Cell.ok;simp only[ht];obtain⟨h1,h2⟩:=h;split at h2
  ·next row cells hs=>exact⟨trivial,by simpa using h1,row,cells,hs,h2⟩
  ·cases h2
 ·exact Cell.ok_of_okB h
def K9(P:agN)(w:agP)(t:TypeId)(cs:Array agO):Bool:=
 match P.cellTypes P.depth t with
 |some ts=>cs.size%ts.length==0&&(List.range cs.size).all λi=>
  match cs[i]?,ts[i%ts.length]? with
  |some v,some u=>HX P w u v
  |_,_=>false
 |none=>false
theorem ac4{P:agN}{w:agP}{t:TypeId}{cs:Array agO}(h:K9 P w t cs=true):Row.ok P w .any 0 t cs:=by
 unfold K9 at h;split at h
 ·rename_i ts rk
  simp only[afX,beq_iff_eq,agm,List.mem_range]at h;refine⟨ts,rk,⟨cs.size / ts.length,(Nat.div_mul_cancel (Nat.dvd_of_mod_eq_zero h.1)).symm⟩,λi v hv=> ?_⟩;have hi:i<cs.size:=(aga.1 hv).1;have:=h.2 i hi;rw[hv]at this;cases hu:ts[i%ts.length]? with
  |none=>simp [hu]at this
  |some u=>simp only[hu]at this;exact⟨u,rfl,Um this⟩
 ·cases h
def O1(P:agN)(w:agP):Bool:=
 let w₀:=(begin P (λ_ _=>0) default).world
 (List.range P.globals.size).all λg=>
  match (w₀.heap[g]?).bind Obj.row? with
  |none=>true
  |some (zero,t)=>
   match w.heap[g]? with
   |some (.cells cs t' frozen)=>decide (t'=t)&&decide (frozen=(0,0))&&cs.size==zero.size&&(!P.buildable t||K9 P w t cs)
   |_=>false
theorem ac5{P:agN}{w:agP}(hv:O1 P w=true)
 (hr:(w.heap.toList.drop P.globals.size).take ((begin P (λ_ _=>0) default).world.heap.size-P.globals.size)=
  (begin P (λ_ _=>0) default).world.heap.toList.drop P.globals.size):w.Shaped P:=by
 refine⟨λg zero t hg hz=> ?_,λk h1 h2=> ?_⟩
 case refine_2=>
  have:=congrArg (·[k-P.globals.size]?) hr;simp only[List.getElem?_take,List.getElem?_drop,agj]at this;rw[if_pos (by omega),Nat.add_sub_cancel' h1]at this;exact this
 unfold O1 at hv;simp only[agm,List.mem_range]at hv;have:=hv g hg;rw[hz]at this;simp only at this;split at this
 ·rename_i cs t' fr hw
  simp only[afX,decide_eq_true_eq,beq_iff_eq,Bool.or_eq_true,Bool.not_eq_true']at this;obtain⟨⟨⟨rfl,rfl⟩,hs⟩,hb⟩:=this;refine⟨cs,hw,hs,λU3=> ?_⟩;rcases hb with hb|hb
  ·rw[U3]at hb;cases hb
  ·exact ac4 hb
 ·cases this
theorem aab(os:Os)(args:Array agO):((wL os).forCall (λ_ _=>0) ⟨#[],args,[]⟩).Shaped Tryz.prog:=ac5 (by kernel_rfl) (by kernel_rfl)
theorem adJ{H:Type}{enc:TypeId×agO->H}{os:Os}{f:FuncId}{fn:Func}{s:ChangeSpec}{apart:Bool}(modest:Bool)(args:Array agO)(fuel:Nat)
 (bh:Input.okWideB Tryz.prog ((wL os).forCall (λ_ _=>0) ⟨#[],args,[]⟩) f ⟨#[],args,[]⟩=true)
 (adi:s.preB enc Tryz.prog fn [] apart ((wL os).forCall (λ_ _=>0) ⟨#[],args,[]⟩).memory args fuel=true)
 (eQ:s.sizedB enc Tryz.prog fn apart ((wL os).forCall (λ_ _=>0) ⟨#[],args,[]⟩).memory args fuel=true):
 ∃(w:agP)(tape:Tape)(i:Input),w.os=os/\(w.forCall tape i).Shaped Tryz.checked.prog/\i.vars=[]/\Input.okWide Tryz.checked.prog (w.forCall tape i) .any w.heap.size f i/\
  ((s.pre enc Tryz.checked.prog fn [] apart (w.forCall tape i).memory i.args/\laidMetH Tryz.prog rY (w.forCall tape i).memory)/\sizedMet enc Tryz.checked.prog fn (OpenSpec.ofChange s) apart (w.forCall tape i).memory i.args)/\({modest:=modest}:Assume).holds Tryz.checked.prog (lone (Frame.enter Tryz.checked.prog f i.args .normal) [] (w.forCall tape i)):=
 ⟨wL os,λ_ _=>0,⟨#[],args,[]⟩,rfl,aab os args,(Input.okWide_of_okWideB (base:=0) bh).1,(Input.okWide_of_okWideB bh).2,⟨⟨ChangeSpec.pre_of_preB adi,aeW os args⟩,sizedMet_of_sizedB eQ⟩,by
  simp only[Assume.holds];exact⟨by simp,by simp,λ_=>Modest.zero,by simp,by simp⟩⟩
end Go.Proofs.YtmkmibahjanejaaGreatDoor
