/-
  Part 15 of the proof: Top.
-/
import Derived.Test.YtnnapanbbbcalaaGreatDoorPr14
import Derived.Test.YtnnapanbbbcalaaGreatDoorRows
import Derived.ProofKit
import Derived.OpenShut
import Derived.ShutString
import Derived.ChangeOld
import Derived.Lib.LaidTab
import Derived.LaidHandle
import Derived.JoinedOf
import Derived.ChangeVars
namespace Go.Proofs.YtnnapanbbbcalaaGreatDoor
open Go.RowKit
set_option maxRecDepth 100000
theorem ahL{P:ak7}{W:ak9}{name:String}{k:IntKind}{zs:ak4 Int}{l:ak4 (String×DataW Unit)}{g:Nat}{t e:TypeId}{n:Nat}
 (hg:P.globalNamed name=some g) (Cv:(P.globals[g]?).map (·.type)=some t) (ht:P.underlying t=some (.array n e)) (he:P.underlying e=some (.int k)) (hce:P.cellsOf e=1) (hct:P.cellsOf t=n)
 (h:laidMet P l W) (hm:(name,Lib.tabData k zs)∈l):Lib.TabIs P W name k zs:=by
 obtain⟨ps,hl,hx⟩:=h;clear hx
 induction l generalizing ps with
 |nil=>cases hm
 |cons x r ih=>
  obtain⟨x1,x2⟩:=x;obtain⟨g',t',cs,fuel,p,q,rM,ph,aiJ,hd,hr,_⟩:=hl;rcases akK.1 hm with hm|hm
  ·cases hm
   obtain rfl:=akz (hg.symm.trans rM);obtain rfl:=akz (Cv.symm.trans ph);unfold Lib.TabIs;rw[aiJ,<-Lib.cells_of_tab ht he hce hct hd]
  ·exact ih hm q hr
def HA(W:ak9):Prop:=∀(g:Nat)(l:ak4 ak8),(g,l)∈w8->∀(j:Nat)(v:ak8),l[j]?=some v->W.cell? ⟨g,j,none⟩=some v
def GK(W:ak9):Gh:={N:=0,Z:=λb=>b<W.heap.size,S:=λb _=>b<W.heap.size,aM:=λ_=>0,sg:=λ_=>undef,ow:=λ_=>none,fl:=λ_=>0,M:=0}
theorem acB{W:ak9}(h:HA W):bU (GK W) W []:=by
 refine⟨rfl,λb hb=>hb,λb _ hb=>hb,λn B hB=>by simp at hB,λm n b hm=> ?_,λg l hm j v hv=>⟨World.block_lt_of_cell? W _ (h g l hm j v hv),h g l hm j v hv⟩,Nat.zero_le _⟩;rw[sB (by simp)]at hm;cases hm
theorem YZ{P:ak7}{f:FuncId}{args:ak4 AV}{r:AV}(h:fX P f args (·=r)){W:ak9}(hT:HA W)(vs:Array ak8)(hl:vs.size=args.length)
 (hv:∀(i:Nat)(u:ak8)(c:AV),vs[i]?=some u->args[i]?=some c->aD (GK W) W u c):
 Calls P f vs W λe W'=>∃v G',e= .returned v/\aD G' W' v r/\Below W.heap.size W W':=by
 refine(h.2 (GK W) W vs (acB hT) hl hv).mono λe W' hp=> ?_;obtain⟨v,G',r',h',rfl,hE,_,_,hr,_,rfl⟩:=hp;exact⟨v,G',rfl,hr,hE.os,hE.tape,hE.output,hE.size,λk hk=>hE.old k hk⟩
theorem Zx{P:ak7}{f:FuncId}{args:ak4 AV}(h:fX P f args (·= .d (.v (.bool true)))){W:ak9}(hT:HA W)(vs:Array ak8)(hl:vs.size=args.length)
 (hv:∀(i:Nat)(u:ak8)(c:AV),vs[i]?=some u->args[i]?=some c->aD (GK W) W u c):
 Calls P f vs W λe W'=>e= .returned (.bool true)/\Below W.heap.size W W':=
 (YZ h hT vs hl hv).mono λe W' hp=>by
  obtain⟨v,G',rfl,hr,hb⟩:=hp;cases hr with
  |d h=>cases h;exact⟨rfl,hb⟩
theorem abp(l:ak4 Nat):vi l=(l.map Int.ofNat).map (λz=>Value.int .u8 z):=by simp [vi,List.map_map,Function.comp_def]
theorem ahf{P:ak7}{W:ak9}{name:String}{k:IntKind}{zs:ak4 Int}{g:Nat}(h:Lib.TabIs P W name k zs)(hg:P.globalNamed name=some g)(j:Nat)(v:ak8)(hj:(zs.map λz=>Value.int k z)[j]?=some v):W.cell? ⟨g,j,none⟩=some v:=by
 rw[akn]at hj;cases hz:zs[j]? with
 |none=>rw[hz]at hj;cases hj
 |some z=>
  rw[hz]at hj;cases hj
  have aL:j<zs.length:=(akg.1 hz).1;have:=h.cell hg j aL;rw[List.getD_eq_getElem?_getD,hz]at this;exact this
def sH:ak4 (String×DataW Unit):=Rows.evalSizesRow.laid
theorem abm:(sH.filter λx=>x.2.handleName?.isSome)=[]:=by kernel_rfl
theorem ahu{W:ak9}(h:laidMetH Tryz.prog sH W):laidMet Tryz.prog sH W:=by
 unfold laidMetH at h;rw[abm]at h;exact h
theorem ac9{W:ak9}(h:laidMetH Tryz.prog sH W):HA W:=by
 have hL:=ahu h;intro g l hm j v hv;unfold w8 at hm;simp only[akK,Prod.mk.injEq,akW,or_false]at hm;rcases hm with⟨rfl,rfl⟩
 ·rw[abp]at hv;exact ahf (ahL (by kernel_rfl) (t:=303) (by kernel_rfl) Tryz.underlying303 Tryz.underlying5 (by kernel_rfl) (by kernel_rfl) hL (name:= "strings.asciiSpace") (g:=0) (akt (i:=1) (by kernel_rfl))) (by kernel_rfl) j v hv
theorem aho:ownKnob Tryz.prog.godebug=none:=by kernel_rfl
def QB(h:Array Obj)(g:Nat)(l:ak4 ak8):Array Obj:=h.modify g fun
 | .cells _ t frozen=> .cells l.toArray t frozen
 |o=>o
def vq(a b c:Nat):ak4 ak8:=[.int .u16 (Int.ofNat a), .int .u16 (Int.ofNat b), .int .u16 (Int.ofNat c)]
def Y4:ak4 ak8:=vq 9 13 1++(vq 32 133 101++(vq 160 5760 5600++(vq 8192 8202 1++(vq 8232 8233 1++(vq 8239 8287 48++vq 12288 12288 1)))))
noncomputable def xy(os:Os):ak9:=
 let w0:=World.holding Tryz.prog os ⟨#[], #[],[]⟩
 {w0 with heap:=((QB (QB w0.heap 0 (vi B8)) 1 [.pointer (some ⟨w0.heap.size,0,none⟩)]).push
    (.cells #[.slice (some ⟨w0.heap.size+1,0,none⟩) 7 7, .slice none 0 0, .int .i64 2] 323)).push (.cells Y4.toArray 326)}
theorem aht(os:Os)(args:Array ak8):laidMetH Tryz.prog sH ((xy os).forCall (λ_ _=>0) ⟨#[],args,[]⟩).memory:=
 laidMetH_of_parts (laidMet_of_run' 8 (by kernel_rfl) (by kernel_rfl)) (by kernel_rfl)
def NU(P:ak7)(w:ak9)(t:TypeId)(v:ak8):Bool:=
 match P.underlying t,v with
 |some (.pointer e), .pointer (some a)=>a.spot.isNone&&(match w.shape? a.block with
  |some (row,cells)=>liesAt P P.depth row (cells / P.cellsOf row) a.off e 1
  |none=>false)
 |_,v=>Cell.okB P t v
theorem ajs{P:ak7}{w:ak9}{t:TypeId}{v:ak8}(h:NU P w t v=true):Cell.ok P w .any 0 t v:=by
 unfold NU at h;split at h
 ·next e a ht=>
  rw[aki]at h;unfold Cell.ok;simp only[ht];obtain⟨J,h2⟩:=h;split at h2
  ·next row cells hs=>exact⟨trivial,by simpa using J,row,cells,hs,h2⟩
  ·cases h2
 ·exact Cell.ok_of_okB h
def Np(P:ak7)(w:ak9)(t:TypeId)(cs:Array ak8):Bool:=
 match P.cellTypes P.depth t with
 |some ts=>cs.size%ts.length==0&&(List.range cs.size).all λi=>
  match cs[i]?,ts[i%ts.length]? with
  |some v,some u=>NU P w u v
  |_,_=>false
 |none=>false
theorem acT{P:ak7}{w:ak9}{t:TypeId}{cs:Array ak8}(h:Np P w t cs=true):Row.ok P w .any 0 t cs:=by
 unfold Np at h;split at h
 ·rename_i ts sN
  simp only[aki,beq_iff_eq,akG,List.mem_range]at h;refine⟨ts,sN,⟨cs.size / ts.length,(Nat.div_mul_cancel (Nat.dvd_of_mod_eq_zero h.1)).symm⟩,λi v hv=> ?_⟩;have hi:i<cs.size:=(akv.1 hv).1;have:=h.2 i hi;rw[hv]at this;cases hu:ts[i%ts.length]? with
  |none=>simp [hu]at this
  |some u=>simp only[hu]at this;exact⟨u,rfl,ajs this⟩
 ·cases h
def Tn(P:ak7)(w:ak9):Bool:=
 let w₀:=(begin P (λ_ _=>0) default).world
 (List.range P.globals.size).all λg=>
  match (w₀.heap[g]?).bind Obj.row? with
  |none=>true
  |some (zero,t)=>
   match w.heap[g]? with
   |some (.cells cs t' frozen)=>decide (t'=t)&&decide (frozen=(0,0))&&cs.size==zero.size&&(!P.buildable t||Np P w t cs)
   |_=>false
theorem ahe{P:ak7}{w:ak9}(hv:Tn P w=true)
 (hr:(w.heap.toList.drop P.globals.size).take ((begin P (λ_ _=>0) default).world.heap.size-P.globals.size)=
  (begin P (λ_ _=>0) default).world.heap.toList.drop P.globals.size):w.Shaped P:=by
 refine⟨λg zero t hg hz=> ?_,λk J h2=> ?_⟩
 case refine_2=>
  have:=congrArg (·[k-P.globals.size]?) hr;simp only[List.getElem?_take,List.getElem?_drop,akD]at this;rw[if_pos (by omega),Nat.add_sub_cancel' J]at this;exact this
 unfold Tn at hv;simp only[akG,List.mem_range]at hv;have:=hv g hg;rw[hz]at this;simp only at this;split at this
 ·rename_i cs t' fr hw
  simp only[aki,decide_eq_true_eq,beq_iff_eq,Bool.or_eq_true,Bool.not_eq_true']at this;obtain⟨⟨⟨rfl,rfl⟩,hs⟩,hb⟩:=this;refine⟨cs,hw,hs,λZn=> ?_⟩;rcases hb with hb|hb
  ·rw[Zn]at hb;cases hb
  ·exact acT hb
 ·cases this
theorem afg(os:Os)(args:Array ak8):((xy os).forCall (λ_ _=>0) ⟨#[],args,[]⟩).Shaped Tryz.prog:=ahe (by kernel_rfl) (by kernel_rfl)
theorem ajo{H:Type}{enc:TypeId×ak8->H}{os:Os}{f:FuncId}{fn:Func}{s:ChangeSpec}{apart:Bool}(modest:Bool)(args:Array ak8)(fuel:Nat)
 (ca:Input.okWideB Tryz.prog ((xy os).forCall (λ_ _=>0) ⟨#[],args,[]⟩) f ⟨#[],args,[]⟩=true)
 (YB:s.preB enc Tryz.prog fn [] apart ((xy os).forCall (λ_ _=>0) ⟨#[],args,[]⟩).memory args fuel=true)
 (ic:s.sizedB enc Tryz.prog fn apart ((xy os).forCall (λ_ _=>0) ⟨#[],args,[]⟩).memory args fuel=true):
 ∃(w:ak9)(tape:Tape)(i:Input),w.os=os/\(w.forCall tape i).Shaped Tryz.checked.prog/\i.vars=[]/\Input.okWide Tryz.checked.prog (w.forCall tape i) .any w.heap.size f i/\
  ((s.pre enc Tryz.checked.prog fn [] apart (w.forCall tape i).memory i.args/\laidMetH Tryz.prog sH (w.forCall tape i).memory)/\sizedMet enc Tryz.checked.prog fn (OpenSpec.ofChange s) apart (w.forCall tape i).memory i.args)/\({modest:=modest}:Assume).holds Tryz.checked.prog (lone (Frame.enter Tryz.checked.prog f i.args .normal) [] (w.forCall tape i)):=
 ⟨xy os,λ_ _=>0,⟨#[],args,[]⟩,rfl,afg os args,(Input.okWide_of_okWideB (base:=0) ca).1,(Input.okWide_of_okWideB ca).2,⟨⟨ChangeSpec.pre_of_preB YB,aht os args⟩,sizedMet_of_sizedB ic⟩,by
  simp only[Assume.holds];exact⟨by simp,by simp,λ_=>Modest.zero,by simp,by simp⟩⟩
end Go.Proofs.YtnnapanbbbcalaaGreatDoor
