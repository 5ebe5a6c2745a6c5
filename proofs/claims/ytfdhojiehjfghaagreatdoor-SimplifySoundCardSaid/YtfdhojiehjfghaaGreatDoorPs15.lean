/-
  Part 15 of the proof: Top.
-/
import Derived.Test.YtfdhojiehjfghaaGreatDoorPs14
import Derived.Test.YtfdhojiehjfghaaGreatDoorRows
import Derived.ProofKit
import Derived.OpenShut
import Derived.ShutString
import Derived.ChangeOld
import Derived.Lib.LaidTab
import Derived.LaidHandle
import Derived.JoinedOf
import Derived.ChangeVars
namespace Go.Proofs.YtfdhojiehjfghaaGreatDoor
open Go.RowKit
set_option maxRecDepth 100000
theorem alB{P:anG}{W:anI}{name:String}{k:IntKind}{zs:anD Int}{l:anD (String×DataW Unit)}{g:Nat}{t e:TypeId}{n:Nat}
 (hg:P.globalNamed name=some g) (rT:(P.globals[g]?).map (·.type)=some t) (ht:P.underlying t=some (.array n e)) (he:P.underlying e=some (.int k)) (hce:P.cellsOf e=1) (hct:P.cellsOf t=n)
 (h:laidMet P l W) (hm:(name,Lib.tabData k zs)∈l):Lib.TabIs P W name k zs:=by
 obtain⟨ps,hl,hx⟩:=h;clear hx
 induction l generalizing ps with
 |nil=>cases hm
 |cons x r ih=>
  obtain⟨x1,x2⟩:=x;obtain⟨g',t',cs,fuel,p,q,sW,ya,adm,hd,hr,_⟩:=hl;rcases ani.1 hm with hm|hm
  ·cases hm
   obtain rfl:=am6 (hg.symm.trans sW);obtain rfl:=am6 (rT.symm.trans ya);unfold Lib.TabIs;rw[adm,<-Lib.cells_of_tab ht he hce hct hd]
  ·exact ih hm q hr
def HE(W:anI):Prop:=∀(g:Nat)(l:anD anH),(g,l)∈zn->∀(j:Nat)(v:anH),l[j]?=some v->W.cell? ⟨g,j,none⟩=some v
def Kp(W:anI):Gh:={N:=0,Z:=λb=>b<W.heap.size,S:=λb _=>b<W.heap.size,aI:=λ_=>0,sg:=λ_=>undef,ow:=λ_=>none,fl:=λ_=>0,M:=0}
theorem ah2{W:anI}(h:HE W):bC (Kp W) W []:=by
 refine⟨rfl,λb hb=>hb,λb _ hb=>hb,λn B hB=>by simp at hB,λm n b hm=> ?_,λg l hm j v hv=>⟨World.block_lt_of_cell? W _ (h g l hm j v hv),h g l hm j v hv⟩,Nat.zero_le _⟩;rw[ue (by simp)]at hm;cases hm
theorem akB{P:anG}{f:FuncId}{args:anD AV}{r:AV}(h:gn P f args (·=r)){W:anI}(hT:HE W)(vs:Array anH)(hl:vs.size=args.length)
 (hv:∀(i:Nat)(u:anH)(c:AV),vs[i]?=some u->args[i]?=some c->aE (Kp W) W u c):
 Calls P f vs W λe W'=>∃v G',e= .returned v/\aE G' W' v r/\Below W.heap.size W W':=by
 refine(h.2 (Kp W) W vs (ah2 hT) hl hv).mono λe W' hp=> ?_;obtain⟨v,G',r',h',rfl,hE,_,_,hr,_,rfl⟩:=hp;exact⟨v,G',rfl,hr,hE.os,hE.tape,hE.output,hE.size,λk hk=>hE.old k hk⟩
theorem aej{P:anG}{f:FuncId}{args:anD AV}(h:gn P f args (·= .d (.v (.bool true)))){W:anI}(hT:HE W)(vs:Array anH)(hl:vs.size=args.length)
 (hv:∀(i:Nat)(u:anH)(c:AV),vs[i]?=some u->args[i]?=some c->aE (Kp W) W u c):
 Calls P f vs W λe W'=>e= .returned (.bool true)/\Below W.heap.size W W':=
 (akB h hT vs hl hv).mono λe W' hp=>by
  obtain⟨v,G',rfl,hr,hb⟩:=hp;cases hr with
  |d h=>cases h;exact⟨rfl,hb⟩
theorem acY(l:anD Nat):xa l=(l.map Int.ofNat).map (λz=>Value.int .u8 z):=by simp [xa,List.map_map,Function.comp_def]
theorem abL{P:anG}{W:anI}{name:String}{k:IntKind}{zs:anD Int}{g:Nat}(h:Lib.TabIs P W name k zs)(hg:P.globalNamed name=some g)(j:Nat)(v:anH)(hj:(zs.map λz=>Value.int k z)[j]?=some v):W.cell? ⟨g,j,none⟩=some v:=by
 rw[amU]at hj;cases hz:zs[j]? with
 |none=>rw[hz]at hj;cases hj
 |some z=>
  rw[hz]at hj;cases hj
  have aJ:j<zs.length:=(amN.1 hz).1;have:=h.cell hg j aJ;rw[List.getD_eq_getElem?_getD,hz]at this;exact this
def tQ:anD (String×DataW Unit):=Rows.simplifySoundRow.laid
theorem alT:(tQ.filter λx=>x.2.handleName?.isSome)=[]:=by kernel_rfl
theorem ahE{W:anI}(h:laidMetH Tryz.prog tQ W):laidMet Tryz.prog tQ W:=by
 unfold laidMetH at h;rw[alT]at h;exact h
theorem aaH{W:anI}(h:laidMetH Tryz.prog tQ W):HE W:=by
 have hL:=ahE h;intro g l hm j v hv;unfold zn at hm;simp only[ani,Prod.mk.injEq,anu,or_false]at hm;rcases hm with⟨rfl,rfl⟩
 ·rw[acY]at hv;exact abL (alB (by kernel_rfl) (t:=320) (by kernel_rfl) Tryz.underlying320 Tryz.underlying5 (by kernel_rfl) (by kernel_rfl) hL (name:= "strings.asciiSpace") (g:=0) (am0 (i:=1) (by kernel_rfl))) (by kernel_rfl) j v hv
theorem agR:ownKnob Tryz.prog.godebug=none:=by kernel_rfl
def RY(h:Array Obj)(g:Nat)(l:anD anH):Array Obj:=h.modify g fun
 | .cells _ t frozen=> .cells l.toArray t frozen
 |o=>o
def xe(a b c:Nat):anD anH:=[.int .u16 (Int.ofNat a), .int .u16 (Int.ofNat b), .int .u16 (Int.ofNat c)]
def abX:anD anH:=xe 9 13 1++(xe 32 133 101++(xe 160 5760 5600++(xe 8192 8202 1++(xe 8232 8233 1++(xe 8239 8287 48++xe 12288 12288 1)))))
noncomputable def Aw(os:Os):anI:=
 let w0:=World.holding Tryz.prog os ⟨#[], #[],[]⟩
 {w0 with heap:=((RY (RY w0.heap 0 (xa Df)) 1 [.pointer (some ⟨w0.heap.size,0,none⟩)]).push
    (.cells #[.slice (some ⟨w0.heap.size+1,0,none⟩) 7 7, .slice none 0 0, .int .i64 2] 349)).push (.cells abX.toArray 351)}
theorem acX(os:Os)(args:Array anH):laidMetH Tryz.prog tQ ((Aw os).forCall (λ_ _=>0) ⟨#[],args,[]⟩).memory:=
 laidMetH_of_parts (laidMet_of_run' 8 (by kernel_rfl) (by kernel_rfl)) (by kernel_rfl)
def MR(P:anG)(w:anI)(t:TypeId)(v:anH):Bool:=
 match P.underlying t,v with
 |some (.pointer e), .pointer (some a)=>a.spot.isNone&&(match w.shape? a.block with
  |some (row,cells)=>liesAt P P.depth row (cells / P.cellsOf row) a.off e 1
  |none=>false)
 |_,v=>Cell.okB P t v
theorem ah9{P:anG}{w:anI}{t:TypeId}{v:anH}(h:MR P w t v=true):Cell.ok P w .any 0 t v:=by
 unfold MR at h;split at h
 ·next e a ht=>
  rw[amP]at h;unfold Cell.ok;simp only[ht];obtain⟨h1,h2⟩:=h;split at h2
  ·next row cells hs=>exact⟨trivial,by simpa using h1,row,cells,hs,h2⟩
  ·cases h2
 ·exact Cell.ok_of_okB h
def Rq(P:anG)(w:anI)(t:TypeId)(cs:Array anH):Bool:=
 match P.cellTypes P.depth t with
 |some ts=>cs.size%ts.length==0&&(List.range cs.size).all λi=>
  match cs[i]?,ts[i%ts.length]? with
  |some v,some u=>MR P w u v
  |_,_=>false
 |none=>false
theorem aiR{P:anG}{w:anI}{t:TypeId}{cs:Array anH}(h:Rq P w t cs=true):Row.ok P w .any 0 t cs:=by
 unfold Rq at h;split at h
 ·rename_i ts vt
  simp only[amP,beq_iff_eq,ane,List.mem_range]at h;refine⟨ts,vt,⟨cs.size / ts.length,(Nat.div_mul_cancel (Nat.dvd_of_mod_eq_zero h.1)).symm⟩,λi v hv=> ?_⟩;have hi:i<cs.size:=(am2.1 hv).1;have:=h.2 i hi;rw[hv]at this;cases hu:ts[i%ts.length]? with
  |none=>simp [hu]at this
  |some u=>simp only[hu]at this;exact⟨u,rfl,ah9 this⟩
 ·cases h
def U5(P:anG)(w:anI):Bool:=
 let w₀:=(begin P (λ_ _=>0) default).world
 (List.range P.globals.size).all λg=>
  match (w₀.heap[g]?).bind Obj.row? with
  |none=>true
  |some (zero,t)=>
   match w.heap[g]? with
   |some (.cells cs t' frozen)=>decide (t'=t)&&decide (frozen=(0,0))&&cs.size==zero.size&&(!P.buildable t||Rq P w t cs)
   |_=>false
theorem ZK{P:anG}{w:anI}(hv:U5 P w=true)
 (hr:(w.heap.toList.drop P.globals.size).take ((begin P (λ_ _=>0) default).world.heap.size-P.globals.size)=
  (begin P (λ_ _=>0) default).world.heap.toList.drop P.globals.size):w.Shaped P:=by
 refine⟨λg zero t hg hz=> ?_,λk h1 h2=> ?_⟩
 case refine_2=>
  have:=congrArg (·[k-P.globals.size]?) hr;simp only[List.getElem?_take,List.getElem?_drop,ana]at this;rw[if_pos (by omega),Nat.add_sub_cancel' h1]at this;exact this
 unfold U5 at hv;simp only[ane,List.mem_range]at hv;have:=hv g hg;rw[hz]at this;simp only at this;split at this
 ·rename_i cs t' fr hw
  simp only[amP,decide_eq_true_eq,beq_iff_eq,Bool.or_eq_true,Bool.not_eq_true']at this;obtain⟨⟨⟨rfl,rfl⟩,hs⟩,hb⟩:=this;refine⟨cs,hw,hs,λamd=> ?_⟩;rcases hb with hb|hb
  ·rw[amd]at hb;cases hb
  ·exact aiR hb
 ·cases this
theorem aiH(os:Os)(args:Array anH):((Aw os).forCall (λ_ _=>0) ⟨#[],args,[]⟩).Shaped Tryz.prog:=ZK (by kernel_rfl) (by kernel_rfl)
theorem ajf{H:Type}{enc:TypeId×anH->H}{os:Os}{f:FuncId}{fn:Func}{s:ChangeSpec}{apart:Bool}(modest:Bool)(args:Array anH)(fuel:Nat)
 (bA:Input.okWideB Tryz.prog ((Aw os).forCall (λ_ _=>0) ⟨#[],args,[]⟩) f ⟨#[],args,[]⟩=true)
 (af5:s.preB enc Tryz.prog fn [] apart ((Aw os).forCall (λ_ _=>0) ⟨#[],args,[]⟩).memory args fuel=true)
 (iq:s.sizedB enc Tryz.prog fn apart ((Aw os).forCall (λ_ _=>0) ⟨#[],args,[]⟩).memory args fuel=true):
 ∃(w:anI)(tape:Tape)(i:Input),w.os=os/\(w.forCall tape i).Shaped Tryz.checked.prog/\i.vars=[]/\Input.okWide Tryz.checked.prog (w.forCall tape i) .any w.heap.size f i/\
  ((s.pre enc Tryz.checked.prog fn [] apart (w.forCall tape i).memory i.args/\laidMetH Tryz.prog tQ (w.forCall tape i).memory)/\sizedMet enc Tryz.checked.prog fn (OpenSpec.ofChange s) apart (w.forCall tape i).memory i.args)/\({modest:=modest}:Assume).holds Tryz.checked.prog (lone (Frame.enter Tryz.checked.prog f i.args .normal) [] (w.forCall tape i)):=
 ⟨Aw os,λ_ _=>0,⟨#[],args,[]⟩,rfl,aiH os args,(Input.okWide_of_okWideB (base:=0) bA).1,(Input.okWide_of_okWideB bA).2,⟨⟨ChangeSpec.pre_of_preB af5,acX os args⟩,sizedMet_of_sizedB iq⟩,by
  simp only[Assume.holds];exact⟨by simp,by simp,λ_=>Modest.zero,by simp,by simp⟩⟩
end Go.Proofs.YtfdhojiehjfghaaGreatDoor
