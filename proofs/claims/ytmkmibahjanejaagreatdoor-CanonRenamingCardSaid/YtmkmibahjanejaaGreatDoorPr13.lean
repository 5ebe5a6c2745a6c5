/-
  Part 13 of the proof: Top.
-/
import Derived.Test.YtmkmibahjanejaaGreatDoorPr12
import Derived.Test.YtmkmibahjanejaaGreatDoorRows
import Derived.ProofKit
import Derived.OpenShut
import Derived.ShutString
import Derived.ChangeOld
import Derived.Lib.LaidTab
import Derived.LaidHandle
import Derived.JoinedOf
import Derived.ChangeVars
namespace Go.Proofs.YtmkmibahjanejaaGreatDoor
open Go.RowKit
set_option maxRecDepth 100000
theorem IC{P:apK}{W:apM}{name:String}{k:IntKind}{zs:apH Int}{l:apH (String×DataW Unit)}{g:Nat}{t e:TypeId}{n:Nat}
 (hg:P.globalNamed name=some g) (q7:(P.globals[g]?).map (·.type)=some t) (ht:P.underlying t=some (.array n e)) (he:P.underlying e=some (.int k)) (hce:P.cellsOf e=1) (hct:P.cellsOf t=n)
 (h:laidMet P l W) (hm:(name,Lib.tabData k zs)∈l):Lib.TabIs P W name k zs:=by
 obtain⟨ps,hl,hx⟩:=h;clear hx
 induction l generalizing ps with
 |nil=>cases hm
 |cons x r ih=>
  obtain⟨x1,x2⟩:=x;obtain⟨g',t',cs,fuel,p,q,qw,q9,adm,hd,hr,_⟩:=hl;rcases apm.1 hm with hm|hm
  ·cases hm
   obtain rfl:=apb (hg.symm.trans qw);obtain rfl:=apb (q7.symm.trans q9);unfold Lib.TabIs;rw[adm,<-Lib.cells_of_tab ht he hce hct hd]
  ·exact ih hm q hr
def Hw(W:apM):Prop:=∀(g:Nat)(l:apH apL),(g,l)∈yY->∀(j:Nat)(v:apL),l[j]?=some v->W.cell? ⟨g,j,none⟩=some v
def La(W:apM):Gh:={N:=0,Z:=λb=>b<W.heap.size,S:=λb _=>b<W.heap.size,aI:=λ_=>0,sg:=λ_=>undef,ow:=λ_=>none,fl:=λ_=>0,M:=0}
theorem adN{W:apM}(h:Hw W):Inv (La W) W []:=by
 refine⟨rfl,λb hb=>hb,λb _ hb=>hb,λn B hB=>by simp at hB,λm n b hm=> ?_,λg l hm j v hv=>⟨World.block_lt_of_cell? W _ (h g l hm j v hv),h g l hm j v hv⟩,Nat.zero_le _⟩;rw[wx (by simp)]at hm;cases hm
theorem aiG{P:apK}{f:FuncId}{args:apH AV}{r:AV}(h:ic P f args (·=r)){W:apM}(hT:Hw W)(vs:Array apL)(hl:vs.size=args.length)
 (hv:∀(i:Nat)(u:apL)(c:AV),vs[i]?=some u->args[i]?=some c->aD (La W) W u c):
 Calls P f vs W λe W'=>∃v G',e= .returned v/\aD G' W' v r/\Below W.heap.size W W':=by
 refine(h.2 (La W) W vs (adN hT) hl hv).mono λe W' hp=> ?_;obtain⟨v,G',r',h',rfl,hE,_,_,hr,_,rfl⟩:=hp;exact⟨v,G',rfl,hr,hE.os,hE.tape,hE.output,hE.size,λk hk=>hE.old k hk⟩
theorem aii{P:apK}{f:FuncId}{args:apH AV}(h:ic P f args (·= .d (.v (.bool true)))){W:apM}(hT:Hw W)(vs:Array apL)(hl:vs.size=args.length)
 (hv:∀(i:Nat)(u:apL)(c:AV),vs[i]?=some u->args[i]?=some c->aD (La W) W u c):
 Calls P f vs W λe W'=>e= .returned (.bool true)/\Below W.heap.size W W':=
 (aiG h hT vs hl hv).mono λe W' hp=>by
  obtain⟨v,G',rfl,hr,hb⟩:=hp;cases hr with
  |d h=>cases h;exact⟨rfl,hb⟩
theorem Qs(l:apH Nat):p6 l=(l.map Int.ofNat).map (λz=>Value.int .u8 z):=by simp [p6,List.map_map,Function.comp_def]
theorem ahP(l:apH Nat):zD l=(l.map Int.ofNat).map (λz=>Value.int .u64 z):=by simp [zD,List.map_map,Function.comp_def]
theorem Kb{P:apK}{W:apM}{name:String}{k:IntKind}{zs:apH Int}{g:Nat}(h:Lib.TabIs P W name k zs)(hg:P.globalNamed name=some g)(j:Nat)(v:apL)(hj:(zs.map λz=>Value.int k z)[j]?=some v):W.cell? ⟨g,j,none⟩=some v:=by
 rw[aoZ]at hj;cases hz:zs[j]? with
 |none=>rw[hz]at hj;cases hj
 |some z=>
  rw[hz]at hj;cases hj
  have aH:j<zs.length:=(aoS.1 hz).1;have:=h.cell hg j aH;rw[List.getD_eq_getElem?_getD,hz]at this;exact this
def uX:apH (String×DataW Unit):=Rows.canonRenamingRow.laid
theorem ahc:(uX.filter λx=>x.2.handleName?.isSome)=[]:=by kernel_rfl
theorem ad2{W:apM}(h:laidMetH Tryz.prog uX W):laidMet Tryz.prog uX W:=by
 unfold laidMetH at h;rw[ahc]at h;exact h
theorem ai0{W:apM}(h:laidMetH Tryz.prog uX W):Hw W:=by
 have hL:=ad2 h;intro g l hm j v hv;unfold yY at hm;simp only[apm,Prod.mk.injEq,apz,or_false]at hm;rcases hm with⟨rfl,rfl⟩|⟨rfl,rfl⟩|⟨rfl,rfl⟩|⟨rfl,rfl⟩
 ·rw[Qs]at hv;exact Kb (IC (by kernel_rfl) (t:=252) (by kernel_rfl) Tryz.underlying252 Tryz.underlying5 (by kernel_rfl) (by kernel_rfl) hL (name:= "strings.asciiSpace") (g:=1) (ao5 (i:=4) (by kernel_rfl))) (by kernel_rfl) j v hv
 ·rw[ahP]at hv;exact Kb (IC (by kernel_rfl) (t:=223) (by kernel_rfl) Tryz.underlying223 Tryz.underlying74 (by kernel_rfl) (by kernel_rfl) hL (name:= "internal/strconv.uint64pow10") (g:=0) (ao5 (i:=2) (by kernel_rfl))) (by kernel_rfl) j v hv
 ·rw[Qs]at hv;exact Kb (IC (by kernel_rfl) (t:=261) (by kernel_rfl) Tryz.underlying261 Tryz.underlying5 (by kernel_rfl) (by kernel_rfl) hL (name:= "math/bits.deBruijn32tab") (g:=2) (ao5 (i:=0) (by kernel_rfl))) (by kernel_rfl) j v hv
 ·rw[Qs]at hv;exact Kb (IC (by kernel_rfl) (t:=262) (by kernel_rfl) Tryz.underlying262 Tryz.underlying5 (by kernel_rfl) (by kernel_rfl) hL (name:= "math/bits.deBruijn64tab") (g:=3) (ao5 (i:=1) (by kernel_rfl))) (by kernel_rfl) j v hv
theorem aju:ownKnob Tryz.prog.godebug=none:=by kernel_rfl
def D7(h:Array Obj)(g:Nat)(l:apH apL):Array Obj:=h.modify g fun
 | .cells _ t frozen=> .cells l.toArray t frozen
 |o=>o
def xO(a b c:Nat):apH apL:=[.int .u16 (Int.ofNat a), .int .u16 (Int.ofNat b), .int .u16 (Int.ofNat c)]
def ajE:apH apL:=xO 9 13 1++(xO 32 133 101++(xO 160 5760 5600++(xO 8192 8202 1++(xO 8232 8233 1++(xO 8239 8287 48++xO 12288 12288 1)))))
noncomputable def AS(os:Os):apM:=
 let w0:=World.holding Tryz.prog os ⟨#[], #[],[]⟩
 {w0 with heap:=((D7 (D7 (D7 (D7 (D7 w0.heap 1 (p6 Gl)) 0 (zD Jt)) 2 (p6 VV)) 3 (p6 aaJ)) 4 [.pointer (some ⟨w0.heap.size,0,none⟩)]).push
    (.cells #[.slice (some ⟨w0.heap.size+1,0,none⟩) 7 7, .slice none 0 0, .int .i64 2] 283)).push (.cells ajE.toArray 286)}
theorem ads(os:Os)(args:Array apL):laidMetH Tryz.prog uX ((AS os).forCall (λ_ _=>0) ⟨#[],args,[]⟩).memory:=
 laidMetH_of_parts (laidMet_of_run' 8 (by kernel_rfl) (by kernel_rfl)) (by kernel_rfl)
def ML(P:apK)(w:apM)(t:TypeId)(v:apL):Bool:=
 match P.underlying t,v with
 |some (.pointer e), .pointer (some a)=>a.spot.isNone&&(match w.shape? a.block with
  |some (row,cells)=>liesAt P P.depth row (cells / P.cellsOf row) a.off e 1
  |none=>false)
 |_,v=>Cell.okB P t v
theorem adE{P:apK}{w:apM}{t:TypeId}{v:apL}(h:ML P w t v=true):Cell.ok P w .any 0 t v:=by
 unfold ML at h;split at h
 ·next e a ht=>
  rw[aoU]at h;unfold Cell.ok;simp only[ht];obtain⟨h1,h2⟩:=h;split at h2
  ·next row cells hs=>exact⟨trivial,by simpa using h1,row,cells,hs,h2⟩
  ·cases h2
 ·exact Cell.ok_of_okB h
def NR(P:apK)(w:apM)(t:TypeId)(cs:Array apL):Bool:=
 match P.cellTypes P.depth t with
 |some ts=>cs.size%ts.length==0&&(List.range cs.size).all λi=>
  match cs[i]?,ts[i%ts.length]? with
  |some v,some u=>ML P w u v
  |_,_=>false
 |none=>false
theorem aif{P:apK}{w:apM}{t:TypeId}{cs:Array apL}(h:NR P w t cs=true):Row.ok P w .any 0 t cs:=by
 unfold NR at h;split at h
 ·rename_i ts vt
  simp only[aoU,beq_iff_eq,api,List.mem_range]at h;refine⟨ts,vt,⟨cs.size / ts.length,(Nat.div_mul_cancel (Nat.dvd_of_mod_eq_zero h.1)).symm⟩,λi v hv=> ?_⟩;have hi:i<cs.size:=(ao7.1 hv).1;have:=h.2 i hi;rw[hv]at this;cases hu:ts[i%ts.length]? with
  |none=>simp [hu]at this
  |some u=>simp only[hu]at this;exact⟨u,rfl,adE this⟩
 ·cases h
def aae(P:apK)(w:apM):Bool:=
 let w₀:=(begin P (λ_ _=>0) default).world
 (List.range P.globals.size).all λg=>
  match (w₀.heap[g]?).bind Obj.row? with
  |none=>true
  |some (zero,t)=>
   match w.heap[g]? with
   |some (.cells cs t' frozen)=>decide (t'=t)&&decide (frozen=(0,0))&&cs.size==zero.size&&(!P.buildable t||NR P w t cs)
   |_=>false
theorem amR{P:apK}{w:apM}(hv:aae P w=true)
 (hr:(w.heap.toList.drop P.globals.size).take ((begin P (λ_ _=>0) default).world.heap.size-P.globals.size)=
  (begin P (λ_ _=>0) default).world.heap.toList.drop P.globals.size):w.Shaped P:=by
 refine⟨λg zero t hg hz=> ?_,λk h1 h2=> ?_⟩
 case refine_2=>
  have:=congrArg (·[k-P.globals.size]?) hr;simp only[List.getElem?_take,List.getElem?_drop,apf]at this;rw[if_pos (by omega),Nat.add_sub_cancel' h1]at this;exact this
 unfold aae at hv;simp only[api,List.mem_range]at hv;have:=hv g hg;rw[hz]at this;simp only at this;split at this
 ·rename_i cs t' fr hw
  simp only[aoU,decide_eq_true_eq,beq_iff_eq,Bool.or_eq_true,Bool.not_eq_true']at this;obtain⟨⟨⟨rfl,rfl⟩,hs⟩,hb⟩:=this;refine⟨cs,hw,hs,λaiY=> ?_⟩;rcases hb with hb|hb
  ·rw[aiY]at hb;cases hb
  ·exact aif hb
 ·cases this
theorem adP(os:Os)(args:Array apL):((AS os).forCall (λ_ _=>0) ⟨#[],args,[]⟩).Shaped Tryz.prog:=amR (by kernel_rfl) (by kernel_rfl)
theorem ajK{H:Type}{enc:TypeId×apL->H}{os:Os}{f:FuncId}{fn:Func}{s:ChangeSpec}{apart:Bool}(modest:Bool)(args:Array apL)(fuel:Nat)
 (bO:Input.okWideB Tryz.prog ((AS os).forCall (λ_ _=>0) ⟨#[],args,[]⟩) f ⟨#[],args,[]⟩=true)
 (aiM:s.preB enc Tryz.prog fn [] apart ((AS os).forCall (λ_ _=>0) ⟨#[],args,[]⟩).memory args fuel=true)
 (eN:s.sizedB enc Tryz.prog fn apart ((AS os).forCall (λ_ _=>0) ⟨#[],args,[]⟩).memory args fuel=true):
 ∃(w:apM)(tape:Tape)(i:Input),w.os=os/\(w.forCall tape i).Shaped Tryz.checked.prog/\i.vars=[]/\Input.okWide Tryz.checked.prog (w.forCall tape i) .any w.heap.size f i/\
  ((s.pre enc Tryz.checked.prog fn [] apart (w.forCall tape i).memory i.args/\laidMetH Tryz.prog uX (w.forCall tape i).memory)/\sizedMet enc Tryz.checked.prog fn (OpenSpec.ofChange s) apart (w.forCall tape i).memory i.args)/\({modest:=modest}:Assume).holds Tryz.checked.prog (lone (Frame.enter Tryz.checked.prog f i.args .normal) [] (w.forCall tape i)):=
 ⟨AS os,λ_ _=>0,⟨#[],args,[]⟩,rfl,adP os args,(Input.okWide_of_okWideB (base:=0) bO).1,(Input.okWide_of_okWideB bO).2,⟨⟨ChangeSpec.pre_of_preB aiM,ads os args⟩,sizedMet_of_sizedB eN⟩,by
  simp only[Assume.holds];exact⟨by simp,by simp,λ_=>Modest.zero,by simp,by simp⟩⟩
end Go.Proofs.YtmkmibahjanejaaGreatDoor
