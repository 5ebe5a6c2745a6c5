/-
  Part 19 of the proof: Top.
-/
import Derived.Test.YtdchibpnjpnkoaaGreatDoorPp18
import Derived.Test.YtdchibpnjpnkoaaGreatDoorRows
import Derived.ProofKit
import Derived.OpenShut
import Derived.ShutString
import Derived.ChangeOld
import Derived.Lib.LaidTab
import Derived.LaidHandle
import Derived.JoinedOf
import Derived.ChangeVars
namespace Go.Proofs.YtdchibpnjpnkoaaGreatDoor
open Go.RowKit
set_option maxRecDepth 100000
theorem aqe{P:asq}{W:ass}{name:String}{k:IntKind}{zs:asn Int}{l:asn (String×DataW Unit)}{g:Nat}{t e:TypeId}{n:Nat}
 (hg:P.globalNamed name=some g) (FD:(P.globals[g]?).map (·.type)=some t) (ht:P.underlying t=some (.array n e)) (he:P.underlying e=some (.int k)) (hce:P.cellsOf e=1) (hct:P.cellsOf t=n)
 (h:laidMet P l W) (hm:(name,Lib.tabData k zs)∈l):Lib.TabIs P W name k zs:=by
 obtain⟨ps,hl,hx⟩:=h;clear hx
 induction l generalizing ps with
 |nil=>cases hm
 |cons x r ih=>
  obtain⟨x1,x2⟩:=x;obtain⟨g',t',cs,fuel,p,q,sW,qP,ahB,hd,hr,_⟩:=hl;rcases ar2.1 hm with hm|hm
  ·cases hm
   obtain rfl:=arR (hg.symm.trans sW);obtain rfl:=arR (FD.symm.trans qP);unfold Lib.TabIs;rw[ahB,<-Lib.cells_of_tab ht he hce hct hd]
  ·exact ih hm q hr
def HX(W:ass):Prop:=∀(g:Nat)(l:asn asr),(g,l)∈Bo->∀(j:Nat)(v:asr),l[j]?=some v->W.cell? ⟨g,j,none⟩=some v
def JU(W:ass):Gh:={N:=0,Z:=λb=>b<W.heap.size,S:=λb _=>b<W.heap.size,bg:=λ_=>0,sg:=λ_=>undef,ow:=λ_=>none,fl:=λ_=>0,M:=0}
theorem agz{W:ass}(h:HX W):b9 (JU W) W []:=by
 refine⟨rfl,λb hb=>hb,λb _ hb=>hb,λn B hB=>by simp at hB,λm n b hm=> ?_,λg l hm j v hv=>⟨World.block_lt_of_cell? W _ (h g l hm j v hv),h g l hm j v hv⟩,Nat.zero_le _⟩;rw[AE (by simp)]at hm;cases hm
theorem alH{P:asq}{f:FuncId}{args:asn AV}{r:AV}(h:gD P f args (·=r)){W:ass}(hT:HX W)(vs:Array asr)(hl:vs.size=args.length)
 (hv:∀(i:Nat)(u:asr)(c:AV),vs[i]?=some u->args[i]?=some c->aJ (JU W) W u c):
 Calls P f vs W λe W'=>∃v G',e= .returned v/\aJ G' W' v r/\Below W.heap.size W W':=by
 refine(h.2 (JU W) W vs (agz hT) hl hv).mono λe W' hp=> ?_;obtain⟨v,G',r',h',rfl,hE,_,_,hr,_,rfl⟩:=hp;exact⟨v,G',rfl,hr,hE.os,hE.tape,hE.output,hE.size,λk hk=>hE.old k hk⟩
theorem alq{P:asq}{f:FuncId}{args:asn AV}(h:gD P f args (·= .d (.v (.bool true)))){W:ass}(hT:HX W)(vs:Array asr)(hl:vs.size=args.length)
 (hv:∀(i:Nat)(u:asr)(c:AV),vs[i]?=some u->args[i]?=some c->aJ (JU W) W u c):
 Calls P f vs W λe W'=>e= .returned (.bool true)/\Below W.heap.size W W':=
 (alH h hT vs hl hv).mono λe W' hp=>by
  obtain⟨v,G',rfl,hr,hb⟩:=hp;cases hr with
  |d h=>cases h;exact⟨rfl,hb⟩
theorem aeT(l:asn Nat):xf l=(l.map Int.ofNat).map (λz=>Value.int .u8 z):=by simp [xf,List.map_map,Function.comp_def]
theorem ap7{P:asq}{W:ass}{name:String}{k:IntKind}{zs:asn Int}{g:Nat}(h:Lib.TabIs P W name k zs)(hg:P.globalNamed name=some g)(j:Nat)(v:asr)(hj:(zs.map λz=>Value.int k z)[j]?=some v):W.cell? ⟨g,j,none⟩=some v:=by
 rw[arF]at hj;cases hz:zs[j]? with
 |none=>rw[hz]at hj;cases hj
 |some z=>
  rw[hz]at hj;cases hj
  have aS:j<zs.length:=(ary.1 hz).1;have:=h.cell hg j aS;rw[List.getD_eq_getElem?_getD,hz]at this;exact this
def ug:asn (String×DataW Unit):=Rows.simplifyProgRow.laid
theorem afg:(ug.filter λx=>x.2.handleName?.isSome)=[]:=by kernel_rfl
theorem aqG{W:ass}(h:laidMetH Tryz.prog ug W):laidMet Tryz.prog ug W:=by
 unfold laidMetH at h;rw[afg]at h;exact h
theorem ams{W:ass}(h:laidMetH Tryz.prog ug W):HX W:=by
 have hL:=aqG h;intro g l hm j v hv;unfold Bo at hm;simp only[ar2,Prod.mk.injEq,ase,or_false]at hm;rcases hm with⟨rfl,rfl⟩
 ·rw[aeT]at hv;exact ap7 (aqe (by kernel_rfl) (t:=236) (by kernel_rfl) Tryz.underlying236 Tryz.underlying5 (by kernel_rfl) (by kernel_rfl) hL (name:= "strings.asciiSpace") (g:=0) (arL (i:=1) (by kernel_rfl))) (by kernel_rfl) j v hv
theorem alY:ownKnob Tryz.prog.godebug=none:=by kernel_rfl
def YK(h:Array Obj)(g:Nat)(l:asn asr):Array Obj:=h.modify g fun
 | .cells _ t frozen=> .cells l.toArray t frozen
 |o=>o
def yf(a b c:Nat):asn asr:=[.int .u16 (Int.ofNat a), .int .u16 (Int.ofNat b), .int .u16 (Int.ofNat c)]
def ail:asn asr:=yf 9 13 1++(yf 32 133 101++(yf 160 5760 5600++(yf 8192 8202 1++(yf 8232 8233 1++(yf 8239 8287 48++yf 12288 12288 1)))))
noncomputable def AI(os:Os):ass:=
 let w0:=World.holding Tryz.prog os ⟨#[], #[],[]⟩
 {w0 with heap:=((YK (YK w0.heap 0 (xf Gu)) 1 [.pointer (some ⟨w0.heap.size,0,none⟩)]).push
    (.cells #[.slice (some ⟨w0.heap.size+1,0,none⟩) 7 7, .slice none 0 0, .int .i64 2] 271)).push (.cells ail.toArray 274)}
theorem afQ(os:Os)(args:Array asr):laidMetH Tryz.prog ug ((AI os).forCall (λ_ _=>0) ⟨#[],args,[]⟩).memory:=
 laidMetH_of_parts (laidMet_of_run' 8 (by kernel_rfl) (by kernel_rfl)) (by kernel_rfl)
def QG(P:asq)(w:ass)(t:TypeId)(v:asr):Bool:=
 match P.underlying t,v with
 |some (.pointer e), .pointer (some a)=>a.spot.isNone&&(match w.shape? a.block with
  |some (row,cells)=>liesAt P P.depth row (cells / P.cellsOf row) a.off e 1
  |none=>false)
 |_,v=>Cell.okB P t v
theorem akg{P:asq}{w:ass}{t:TypeId}{v:asr}(h:QG P w t v=true):Cell.ok P w .any 0 t v:=by
 unfold QG at h;split at h
 ·next e a ht=>
  rw[arA]at h;unfold Cell.ok;simp only[ht];obtain⟨h1,h2⟩:=h;split at h2
  ·next row cells hs=>exact⟨trivial,by simpa using h1,row,cells,hs,h2⟩
  ·cases h2
 ·exact Cell.ok_of_okB h
def Qx(P:asq)(w:ass)(t:TypeId)(cs:Array asr):Bool:=
 match P.cellTypes P.depth t with
 |some ts=>cs.size%ts.length==0&&(List.range cs.size).all λi=>
  match cs[i]?,ts[i%ts.length]? with
  |some v,some u=>QG P w u v
  |_,_=>false
 |none=>false
theorem ajF{P:asq}{w:ass}{t:TypeId}{cs:Array asr}(h:Qx P w t cs=true):Row.ok P w .any 0 t cs:=by
 unfold Qx at h;split at h
 ·rename_i ts vL
  simp only[arA,beq_iff_eq,arY,List.mem_range]at h;refine⟨ts,vL,⟨cs.size / ts.length,(Nat.div_mul_cancel (Nat.dvd_of_mod_eq_zero h.1)).symm⟩,λi v hv=> ?_⟩;have hi:i<cs.size:=(arN.1 hv).1;have:=h.2 i hi;rw[hv]at this;cases hu:ts[i%ts.length]? with
  |none=>simp [hu]at this
  |some u=>simp only[hu]at this;exact⟨u,rfl,akg this⟩
 ·cases h
def ZU(P:asq)(w:ass):Bool:=
 let w₀:=(begin P (λ_ _=>0) default).world
 (List.range P.globals.size).all λg=>
  match (w₀.heap[g]?).bind Obj.row? with
  |none=>true
  |some (zero,t)=>
   match w.heap[g]? with
   |some (.cells cs t' frozen)=>decide (t'=t)&&decide (frozen=(0,0))&&cs.size==zero.size&&(!P.buildable t||Qx P w t cs)
   |_=>false
theorem apM{P:asq}{w:ass}(hv:ZU P w=true)
 (hr:(w.heap.toList.drop P.globals.size).take ((begin P (λ_ _=>0) default).world.heap.size-P.globals.size)=
  (begin P (λ_ _=>0) default).world.heap.toList.drop P.globals.size):w.Shaped P:=by
 refine⟨λg zero t hg hz=> ?_,λk h1 h2=> ?_⟩
 case refine_2=>
  have:=congrArg (·[k-P.globals.size]?) hr;simp only[List.getElem?_take,List.getElem?_drop,arV]at this;rw[if_pos (by omega),Nat.add_sub_cancel' h1]at this;exact this
 unfold ZU at hv;simp only[arY,List.mem_range]at hv;have:=hv g hg;rw[hz]at this;simp only at this;split at this
 ·rename_i cs t' fr hw
  simp only[arA,decide_eq_true_eq,beq_iff_eq,Bool.or_eq_true,Bool.not_eq_true']at this;obtain⟨⟨⟨rfl,rfl⟩,hs⟩,hb⟩:=this;refine⟨cs,hw,hs,λafJ=> ?_⟩;rcases hb with hb|hb
  ·rw[afJ]at hb;cases hb
  ·exact ajF hb
 ·cases this
theorem ajG(os:Os)(args:Array asr):((AI os).forCall (λ_ _=>0) ⟨#[],args,[]⟩).Shaped Tryz.prog:=apM (by kernel_rfl) (by kernel_rfl)
theorem apB{H:Type}{enc:TypeId×asr->H}{os:Os}{f:FuncId}{fn:Func}{s:ChangeSpec}{apart:Bool}(modest:Bool)(args:Array asr)(fuel:Nat)
 (cf:Input.okWideB Tryz.prog ((AI os).forCall (λ_ _=>0) ⟨#[],args,[]⟩) f ⟨#[],args,[]⟩=true)
 (aoo:s.preB enc Tryz.prog fn [] apart ((AI os).forCall (λ_ _=>0) ⟨#[],args,[]⟩).memory args fuel=true)
 (iw:s.sizedB enc Tryz.prog fn apart ((AI os).forCall (λ_ _=>0) ⟨#[],args,[]⟩).memory args fuel=true):
 ∃(w:ass)(tape:Tape)(i:Input),w.os=os/\(w.forCall tape i).Shaped Tryz.checked.prog/\i.vars=[]/\Input.okWide Tryz.checked.prog (w.forCall tape i) .any w.heap.size f i/\
  ((s.pre enc Tryz.checked.prog fn [] apart (w.forCall tape i).memory i.args/\laidMetH Tryz.prog ug (w.forCall tape i).memory)/\sizedMet enc Tryz.checked.prog fn (OpenSpec.ofChange s) apart (w.forCall tape i).memory i.args)/\({modest:=modest}:Assume).holds Tryz.checked.prog (lone (Frame.enter Tryz.checked.prog f i.args .normal) [] (w.forCall tape i)):=
 ⟨AI os,λ_ _=>0,⟨#[],args,[]⟩,rfl,ajG os args,(Input.okWide_of_okWideB (base:=0) cf).1,(Input.okWide_of_okWideB cf).2,⟨⟨ChangeSpec.pre_of_preB aoo,afQ os args⟩,sizedMet_of_sizedB iw⟩,by
  simp only[Assume.holds];exact⟨by simp,by simp,λ_=>Modest.zero,by simp,by simp⟩⟩
end Go.Proofs.YtdchibpnjpnkoaaGreatDoor
