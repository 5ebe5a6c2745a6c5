/-
  Part 18 of the proof: Top.
-/
import Derived.Test.YtphmhnabilhbgaaGreatDoorPk17
import Derived.Test.YtphmhnabilhbgaaGreatDoorRows
import Derived.ProofKit
import Derived.OpenShut
import Derived.ShutString
import Derived.ChangeOld
import Derived.Lib.LaidTab
import Derived.LaidHandle
import Derived.JoinedOf
import Derived.ChangeVars
namespace Go.Proofs.YtphmhnabilhbgaaGreatDoor
open Go.RowKit
set_option maxRecDepth 100000
theorem agA{P:aiH}{W:aiJ}{name:String}{k:IntKind}{zs:aiE Int}{l:aiE (String×DataW Unit)}{g:Nat}{t e:TypeId}{n:Nat}
 (hg:P.globalNamed name=some g) (BO:(P.globals[g]?).map (·.type)=some t) (ht:P.underlying t=some (.array n e)) (he:P.underlying e=some (.int k)) (X2:P.cellsOf e=1) (hct:P.cellsOf t=n)
 (h:laidMet P l W) (hm:(name,Lib.tabData k zs)∈l):Lib.TabIs P W name k zs:=by
 obtain⟨ps,hl,hx⟩:=h;clear hx
 induction l generalizing ps with
 |nil=>cases hm
 |cons x r ih=>
  obtain⟨x1,x2⟩:=x;obtain⟨g',t',cs,fuel,p,q,p9,pg,abv,hd,hr,_⟩:=hl;rcases aik.1 hm with hm|hm
  ·cases hm
   obtain rfl:=ah8 (hg.symm.trans p9);obtain rfl:=ah8 (BO.symm.trans pg);unfold Lib.TabIs;rw[abv,←Lib.cells_of_tab ht he X2 hct hd]
  ·exact ih hm q hr
def HE(W:aiJ):Prop:=∀(g:Nat)(l:aiE aiI),(g,l)∈yg→∀(j:Nat)(v:aiI),l[j]?=some v→W.cell? ⟨g,j,none⟩=some v
def Ih(W:aiJ):Gh:={N:=0,Z:=fun b=>b<W.heap.size,S:=fun b _=>b<W.heap.size,bA:=fun _=>0,sg:=fun _=>undef,ow:=fun _=>none,fl:=fun _=>0,M:=0}
theorem XA{W:aiJ}(h:HE W):cw (Ih W) W []:=by
 refine⟨rfl,fun b hb=>hb,fun b _ hb=>hb,fun n B hB=>by simp at hB,fun m n b hm=> ?_,fun g l hm j v hv=>⟨World.block_lt_of_cell? W _ (h g l hm j v hv),h g l hm j v hv⟩,Nat.zero_le _⟩;rw[zP (by simp)]at hm;cases hm
theorem afc{P:aiH}{f:FuncId}{args:aiE AV}{r:AV}(h:bg P f args (·=r)){W:aiJ}(hT:HE W)(vs:Array aiI)(hl:vs.size=args.length)
 (hv:∀(i:Nat)(u:aiI)(c:AV),vs[i]?=some u→args[i]?=some c→aL (Ih W) W u c):
 Calls P f vs W fun e W'=>∃v G',e= .returned v∧aL G' W' v r∧Below W.heap.size W W':=by
 refine(h.2 (Ih W) W vs (XA hT) hl hv).mono fun e W' hp=> ?_;obtain⟨v,G',r',h',rfl,hE,_,_,hr,_,rfl⟩:=hp;exact⟨v,G',rfl,hr,hE.os,hE.tape,hE.output,hE.size,fun k hk=>hE.old k hk⟩
theorem ag1{P:aiH}{f:FuncId}{args:aiE AV}(h:bg P f args (·= .d (.v (.bool true)))){W:aiJ}(hT:HE W)(vs:Array aiI)(hl:vs.size=args.length)
 (hv:∀(i:Nat)(u:aiI)(c:AV),vs[i]?=some u→args[i]?=some c→aL (Ih W) W u c):
 Calls P f vs W fun e W'=>e= .returned (.bool true)∧Below W.heap.size W W':=
 (afc h hT vs hl hv).mono fun e W' hp=>by
  obtain⟨v,G',rfl,hr,hb⟩:=hp;cases hr with
  |d h=>cases h;exact⟨rfl,hb⟩
theorem adn(l:aiE Nat):xb l=(l.map Int.ofNat).map (fun z=>Value.int .u8 z):=by simp [xb,List.map_map,Function.comp_def]
theorem afu{P:aiH}{W:aiJ}{name:String}{k:IntKind}{zs:aiE Int}{g:Nat}(h:Lib.TabIs P W name k zs)(hg:P.globalNamed name=some g)(j:Nat)(v:aiI)(hj:(zs.map fun z=>Value.int k z)[j]?=some v):W.cell? ⟨g,j,none⟩=some v:=by
 rw[ahW]at hj;cases hz:zs[j]? with
 |none=>rw[hz]at hj;cases hj
 |some z=>
  rw[hz]at hj;cases hj
  have aZ:j<zs.length:=(ahP.1 hz).1;have:=h.cell hg j aZ;rw[List.getD_eq_getElem?_getD,hz]at this;exact this
def tE:aiE (String×DataW Unit):=Rows.inlineOneRow.laid
theorem aaS:(tE.filter fun x=>x.2.handleName?.isSome)=[]:=by kernel_rfl
theorem Xk{W:aiJ}(h:laidMetH Tryz.prog tE W):laidMet Tryz.prog tE W:=by
 unfold laidMetH at h;rw[aaS]at h;exact h
theorem X4{W:aiJ}(h:laidMetH Tryz.prog tE W):HE W:=by
 have hL:=Xk h;intro g l hm j v hv;unfold yg at hm;simp only[aik,Prod.mk.injEq,aiw,or_false]at hm;rcases hm with⟨rfl,rfl⟩
 ·rw[adn]at hv;exact afu (agA (by kernel_rfl) (t:=235) (by kernel_rfl) Tryz.underlying235 Tryz.underlying5 (by kernel_rfl) (by kernel_rfl) hL (name:= "strings.asciiSpace") (g:=0) (ah2 (i:=1) (by kernel_rfl))) (by kernel_rfl) j v hv
theorem aft:ownKnob Tryz.prog.godebug=none:=by kernel_rfl
def Va(h:Array Obj)(g:Nat)(l:aiE aiI):Array Obj:=h.modify g fun
 | .cells _ t frozen=> .cells l.toArray t frozen
 |o=>o
def u7(a b c:Nat):aiE aiI:=[.int .u16 (Int.ofNat a), .int .u16 (Int.ofNat b), .int .u16 (Int.ofNat c)]
def acS:aiE aiI:=u7 9 13 1++(u7 32 133 101++(u7 160 5760 5600++(u7 8192 8202 1++(u7 8232 8233 1++(u7 8239 8287 48++u7 12288 12288 1)))))
noncomputable def yt(os:Os):aiJ:=
 let w0:=World.holding Tryz.prog os ⟨#[], #[],[]⟩
 {w0 with heap:=((Va (Va w0.heap 0 (xb Dy)) 2 [.pointer (some ⟨w0.heap.size,0,none⟩)]).push
    (.cells #[.slice (some ⟨w0.heap.size+1,0,none⟩) 7 7, .slice none 0 0, .int .i64 2] 251)).push (.cells acS.toArray 254)}
theorem ag8(os:Os)(args:Array aiI):laidMetH Tryz.prog tE ((yt os).forCall (fun _ _=>0) ⟨#[],args,[]⟩).memory:=
 laidMetH_of_parts (laidMet_of_run' 8 (by kernel_rfl) (by kernel_rfl)) (by kernel_rfl)
def Nc(P:aiH)(w:aiJ)(t:TypeId)(v:aiI):Bool:=
 match P.underlying t,v with
 |some (.pointer e), .pointer (some a)=>a.spot.isNone&&(match w.shape? a.block with
  |some (row,cells)=>liesAt P P.depth row (cells / P.cellsOf row) a.off e 1
  |none=>false)
 |_,v=>Cell.okB P t v
theorem adG{P:aiH}{w:aiJ}{t:TypeId}{v:aiI}(h:Nc P w t v=true):Cell.ok P w .any 0 t v:=by
 unfold Nc at h;split at h
 ·next e a ht=>
  rw[ahR]at h;unfold Cell.ok;simp only[ht];obtain⟨h1,h2⟩:=h;split at h2
  ·next row cells hs=>exact⟨trivial,by simpa using h1,row,cells,hs,h2⟩
  ·cases h2
 ·exact Cell.ok_of_okB h
def KF(P:aiH)(w:aiJ)(t:TypeId)(cs:Array aiI):Bool:=
 match P.cellTypes P.depth t with
 |some ts=>cs.size%ts.length==0&&(List.range cs.size).all fun i=>
  match cs[i]?,ts[i%ts.length]? with
  |some v,some u=>Nc P w u v
  |_,_=>false
 |none=>false
theorem ahd{P:aiH}{w:aiJ}{t:TypeId}{cs:Array aiI}(h:KF P w t cs=true):Row.ok P w .any 0 t cs:=by
 unfold KF at h;split at h
 ·rename_i ts tZ
  simp only[ahR,beq_iff_eq,aif,List.mem_range]at h;refine⟨ts,tZ,⟨cs.size / ts.length,(Nat.div_mul_cancel (Nat.dvd_of_mod_eq_zero h.1)).symm⟩,fun i v hv=> ?_⟩;have hi:i<cs.size:=(ah4.1 hv).1;have:=h.2 i hi;rw[hv]at this;cases hu:ts[i%ts.length]? with
  |none=>simp [hu]at this
  |some u=>simp only[hu]at this;exact⟨u,rfl,adG this⟩
 ·cases h
def P7(P:aiH)(w:aiJ):Bool:=
 let w₀:=(begin P (fun _ _=>0) default).world
 (List.range P.globals.size).all fun g=>
  match (w₀.heap[g]?).bind Obj.row? with
  |none=>true
  |some (zero,t)=>
   match w.heap[g]? with
   |some (.cells cs t' frozen)=>decide (t'=t)&&decide (frozen=(0,0))&&cs.size==zero.size&&(!P.buildable t||KF P w t cs)
   |_=>false
theorem Xm{P:aiH}{w:aiJ}(hv:P7 P w=true)
 (hr:(w.heap.toList.drop P.globals.size).take ((begin P (fun _ _=>0) default).world.heap.size-P.globals.size)=
  (begin P (fun _ _=>0) default).world.heap.toList.drop P.globals.size):w.Shaped P:=by
 refine⟨fun g zero t hg hz=> ?_,fun k h1 h2=> ?_⟩
 case refine_2=>
  have:=congrArg (·[k-P.globals.size]?) hr;simp only[List.getElem?_take,List.getElem?_drop,aic]at this;rw[if_pos (by omega),Nat.add_sub_cancel' h1]at this;exact this
 unfold P7 at hv;simp only[aif,List.mem_range]at hv;have:=hv g hg;rw[hz]at this;simp only at this;split at this
 ·rename_i cs t' fr hw
  simp only[ahR,decide_eq_true_eq,beq_iff_eq,Bool.or_eq_true,Bool.not_eq_true']at this;obtain⟨⟨⟨rfl,rfl⟩,hs⟩,hb⟩:=this;refine⟨cs,hw,hs,fun aeo=> ?_⟩;rcases hb with hb|hb
  ·rw[aeo]at hb;cases hb
  ·exact ahd hb
 ·cases this
theorem WI(os:Os)(args:Array aiI):((yt os).forCall (fun _ _=>0) ⟨#[],args,[]⟩).Shaped Tryz.prog:=Xm (by kernel_rfl) (by kernel_rfl)
theorem aax{H:Type}{enc:TypeId×aiI→H}{os:Os}{f:FuncId}{fn:Func}{s:ChangeSpec}{apart:Bool}(modest:Bool)(args:Array aiI)(fuel:Nat)
 (cE:Input.okWideB Tryz.prog ((yt os).forCall (fun _ _=>0) ⟨#[],args,[]⟩) f ⟨#[],args,[]⟩=true)
 (ad8:s.preB enc Tryz.prog fn [] apart ((yt os).forCall (fun _ _=>0) ⟨#[],args,[]⟩).memory args fuel=true)
 (gp:s.sizedB enc Tryz.prog fn apart ((yt os).forCall (fun _ _=>0) ⟨#[],args,[]⟩).memory args fuel=true):
 ∃(w:aiJ)(tape:Tape)(i:Input),w.os=os∧(w.forCall tape i).Shaped Tryz.checked.prog∧i.vars=[]∧Input.okWide Tryz.checked.prog (w.forCall tape i) .any w.heap.size f i∧
  ((s.pre enc Tryz.checked.prog fn [] apart (w.forCall tape i).memory i.args∧laidMetH Tryz.prog tE (w.forCall tape i).memory)∧sizedMet enc Tryz.checked.prog fn (OpenSpec.ofChange s) apart (w.forCall tape i).memory i.args)∧({modest:=modest}:Assume).holds Tryz.checked.prog (lone (Frame.enter Tryz.checked.prog f i.args .normal) [] (w.forCall tape i)):=
 ⟨yt os,fun _ _=>0,⟨#[],args,[]⟩,rfl,WI os args,(Input.okWide_of_okWideB (base:=0) cE).1,(Input.okWide_of_okWideB cE).2,⟨⟨ChangeSpec.pre_of_preB ad8,ag8 os args⟩,sizedMet_of_sizedB gp⟩,by
  simp only[Assume.holds];exact⟨by simp,by simp,fun _=>Modest.zero,by simp,by simp⟩⟩
end Go.Proofs.YtphmhnabilhbgaaGreatDoor
