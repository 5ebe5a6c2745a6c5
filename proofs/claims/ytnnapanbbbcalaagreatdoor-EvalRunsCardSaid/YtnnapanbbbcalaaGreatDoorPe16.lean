/-
  Part 16 of the proof: Top.
-/
import Derived.Test.YtnnapanbbbcalaaGreatDoorPe15
import Derived.Test.YtnnapanbbbcalaaGreatDoorRows
import Derived.ProofKit
import Derived.OpenShut
import Derived.ShutString
import Derived.ChangeOld
import Derived.Lib.LaidTab
import Derived.LaidHandle
import Derived.JoinedOf
import Derived.ChangeVars
set_option linter.defProp false
namespace Go.Proofs.YtnnapanbbbcalaaGreatDoor
open Go.RowKit
set_option maxRecDepth 100000
def ahE{P:dg}{W:Zy}{name:String}{k:IntKind}{zs:I Int}{l:I (String×DataW Unit)}{g:Nat}{t e:TypeId}{n:Nat}
 (i:P.globalNamed name=some g) (j:(P.globals[g]?).map (·.type)=some t) (m:P.underlying t=some (.array n e)) (o:P.underlying e=some (.int k)) (b:P.cellsOf e=1) (c:P.cellsOf t=n)
 (h:laidMet P l W) (a:(name,Lib.tabData k zs)∈l):Lib.TabIs P W name k zs:=by
 obtain⟨u,v,w⟩:=h;clear w
 induction l generalizing u with
 |nil=>cases a
 |cons x r y=>
  obtain⟨E,F⟩:=x;obtain⟨G,H,J,f,p,q,z,A,d,B,C,_⟩:=v;rcases Za.1 a with a|a
  ·cases a
   obtain rfl:=Zw (i.symm.trans z);obtain rfl:=Zw (j.symm.trans A);unfold Lib.TabIs;rw[d,<-Lib.cells_of_tab m o b c B]
  ·exact y a q C
def OZ(W:Zy):Prop:=∀(g:Nat)(l:I kd),(g,l)∈AR->∀(j:Nat)(v:kd),l[j]?=some v->W.cell? ⟨g,j,none⟩=some v
def Mm(W:Zy):Gh:={N:=0,Z:=λb=>b<W.heap.size,S:=λb _=>b<W.heap.size,bg:=λ_=>0,sg:=λ_=>undef,ow:=λ_=>none,fl:=λ_=>0,M:=0}
def atm{W:Zy}(h:OZ W):cu (Mm W) W []:=by
 refine⟨rfl,λb c=>c,λb _ c=>c,λn B e=>by simp at e,λm n b a=> ?_,λg l a j v d=>⟨World.block_lt_of_cell? W _ (h g l a j v d),h g l a j v d⟩,Wv _⟩;rw[wX (by simp)]at a;cases a
def atf{P:dg}{f:FuncId}{args:I AV}{r:AV}(h:AFn P f args (·=r)){W:Zy}(d:OZ W)(b:Array kd)(g:b.size=args.length)
 (j:∀(i:Nat)(u:kd)(c:AV),b[i]?=some u->args[i]?=some c->aQ (Mm W) W u c):
 Calls P f b W λe W'=>∃v G',e= .returned v/\aQ G' W' v r/\Below W.heap.size W W':=by
 refine(h.2 (Mm W) W b (atm d) g j).mono λe W' l=> ?_;obtain⟨v,G',o,p,rfl,a,_,_,m,_,rfl⟩:=l;exact⟨v,G',rfl,m,a.os,a.tape,a.output,a.size,λk n=>a.old k n⟩
def aoT{P:dg}{f:FuncId}{args:I AV}(h:AFn P f args (·= .d (.v (.bool true)))){W:Zy}(b:OZ W)(a:Array kd)(g:a.size=args.length)
 (j:∀(i:Nat)(u:kd)(c:AV),a[i]?=some u->args[i]?=some c->aQ (Mm W) W u c):
 Calls P f a W λe W'=>e= .returned (.bool true)/\Below W.heap.size W W':=
 (atf h b a g j).mono λe W' k=>by
  obtain⟨v,n,rfl,l,m⟩:=k;cases l with
  |d h=>cases h;exact⟨rfl,m⟩
def aoz(l:I Nat):yW l=(l.map Int.ofNat).map (λz=>Value.int .u8 z):=by simp [yW,List.map_map,Function.comp_def]
def ama{P:dg}{W:Zy}{name:String}{k:IntKind}{zs:I Int}{g:Nat}(h:Lib.TabIs P W name k zs)(c:P.globalNamed name=some g)(j:Nat)(v:kd)(a:(zs.map λz=>Value.int k z)[j]?=some v):W.cell? ⟨g,j,none⟩=some v:=by
 rw[Zs]at a;cases b:zs[j]? with
 |none=>rw[b]at a;cases a
 |some z=>
  rw[b]at a;cases a
  have d:j<zs.length:=(Zo.1 b).1;have:=h.cell c j d;rw[List.getD_eq_getElem?_getD,b]at this;exact this
def wy:I (String×DataW Unit):=Rows.evalRunsRow.laid
def alu:(wy.filter λx=>x.2.handleName?.isSome)=[]:=by kernel_rfl
def arA{W:Zy}(h:laidMetH Tryz.prog wy W):laidMet Tryz.prog wy W:=by
 unfold laidMetH at h;rw[alu]at h;exact h
def anx{W:Zy}(h:laidMetH Tryz.prog wy W):OZ W:=by
 have c:=arA h;intro g l a j v b;unfold AR at a;simp only[Za,Prod.mk.injEq,Yx,or_false]at a;rcases a with⟨rfl,rfl⟩;{rw[aoz]at b;exact ama (ahE (by kernel_rfl) (t:=303) (by kernel_rfl) Tryz.underlying303 Tryz.underlying5 (by kernel_rfl) (by kernel_rfl) c (name:= "strings.asciiSpace") (g:=0) (ZY (i:=1) (by kernel_rfl))) (by kernel_rfl) j v b}
def asa:ownKnob Tryz.prog.godebug=none:=by kernel_rfl
def afJ(h:Array Obj)(g:Nat)(l:I kd):Array Obj:=h.modify g fun
 | .cells _ t frozen=>.cells l.toArray t frozen
 |o=>o
def Av(a b c:Nat):I kd:=[.int .u16 (Int.ofNat a),.int .u16 (Int.ofNat b),.int .u16 (Int.ofNat c)]
def ajn:I kd:=Av 9 13 1++(Av 32 133 101++(Av 160 5760 5600++(Av 8192 8202 1++(Av 8232 8233 1++(Av 8239 8287 48++Av 12288 12288 1)))))
noncomputable def AL(os:Os):Zy:=
 let a:=World.holding Tryz.prog os ⟨#[], #[],[]⟩
 {a with heap:=((afJ (afJ a.heap 0 (yW EB)) 1 [.pointer (some ⟨a.heap.size,0,none⟩)]).push
    (.cells #[.slice (some ⟨a.heap.size+1,0,none⟩) 7 7,.slice none 0 0,.int .i64 2] 323)).push (.cells ajn.toArray 326)}
def aq2(os:Os)(args:Array kd):laidMetH Tryz.prog wy ((AL os).forCall (λ_ _=>0) ⟨#[],args,[]⟩).memory:=
 laidMetH_of_parts (laidMet_of_run' 8 (by kernel_rfl) (by kernel_rfl)) (by kernel_rfl)
def Sb(P:dg)(w:Zy)(t:TypeId)(v:kd):Bool:=
 match P.underlying t,v with
 |some (.pointer e),.pointer (some a)=>a.spot.isNone&&(match w.shape? a.block with
  |some (b,cells)=>liesAt P P.depth b (cells / P.cellsOf b) a.off e 1
  |none=>false)
 |_,v=>Cell.okB P t v
def anR{P:dg}{w:Zy}{t:TypeId}{v:kd}(h:Sb P w t v=true):Cell.ok P w .any 0 t v:=by
 unfold Sb at h;split at h
 ·next e a d=>
  rw[Zr]at h;unfold Cell.ok;simp only[d];obtain⟨f,b⟩:=h;split at b;{next c cells g=>exact⟨trivial,by simpa using f,c,cells,g,b⟩};{cases b}
 ·exact Cell.ok_of_okB h
def TQ(P:dg)(w:Zy)(t:TypeId)(cs:Array kd):Bool:=
 match P.cellTypes P.depth t with
 |some a=>cs.size%a.length==0&&(List.range cs.size).all λi=>
  match cs[i]?,a[i%a.length]? with
  |some v,some u=>Sb P w u v
  |_,_=>false
 |none=>false
def as0{P:dg}{w:Zy}{t:TypeId}{cs:Array kd}(h:TQ P w t cs=true):Row.ok P w .any 0 t cs:=by
 unfold TQ at h;split at h
 ·rename_i a d
  simp only[Zr,Ua,Zd,List.mem_range]at h;refine⟨a,d,⟨cs.size / a.length,(Nat.div_mul_cancel (Nat.dvd_of_mod_eq_zero h.1)).symm⟩,λi v b=> ?_⟩;have e:i<cs.size:=(ZT.1 b).1;have:=h.2 i e;rw[b]at this;cases c:a[i%a.length]? with
  |none=>simp [c]at this
  |some u=>simp only[c]at this;exact⟨u,rfl,anR this⟩
 ·cases h
def aai(P:dg)(w:Zy):Bool:=
 let c:=(begin P (λ_ _=>0) default).world
 (List.range P.globals.size).all λg=>
  match (c.heap[g]?).bind Obj.row? with
  |none=>true
  |some (a,t)=>
   match w.heap[g]? with
   |some (.cells b d frozen)=>decide (d=t)&&decide (frozen=(0,0))&&b.size==a.size&&(!P.buildable t||TQ P w t b)
   |_=>false
def ahZ{P:dg}{w:Zy}(b:aai P w=true)
 (e:(w.heap.toList.drop P.globals.size).take ((begin P (λ_ _=>0) default).world.heap.size-P.globals.size)=
  (begin P (λ_ _=>0) default).world.heap.toList.drop P.globals.size):w.Shaped P:=by
 refine⟨λg d t f h=> ?_,λk i n=> ?_⟩
 case refine_2=>
  have:=congrArg (·[k-P.globals.size]?) e;simp only[List.getElem?_take,List.getElem?_drop,ZP]at this;rw[ab (by omega),Nat.add_sub_cancel' i]at this;exact this
 unfold aai at b;simp only[Zd,List.mem_range]at b;have:=b g f;rw[h]at this;simp only at this;split at this
 ·rename_i j o p l
  simp only[Zr,UR,Ua,aq,UA]at this;obtain⟨⟨⟨rfl,rfl⟩,m⟩,a⟩:=this;refine⟨j,l,m,λc=> ?_⟩;rcases a with a|a
  ·rw[c]at a;cases a
  ·exact as0 a
 ·cases this
def aiY(os:Os)(args:Array kd):((AL os).forCall (λ_ _=>0) ⟨#[],args,[]⟩).Shaped Tryz.prog:=ahZ (by kernel_rfl) (by kernel_rfl)
def akj{H:Type}{enc:TypeId×kd->H}{os:Os}{f:FuncId}{fn:Func}{s:ChangeSpec}{apart:Bool}(modest:Bool)(args:Array kd)(b:Nat)
 (d:Input.okWideB Tryz.prog ((AL os).forCall (λ_ _=>0) ⟨#[],args,[]⟩) f ⟨#[],args,[]⟩=true)
 (c:s.preB enc Tryz.prog fn [] apart ((AL os).forCall (λ_ _=>0) ⟨#[],args,[]⟩).memory args b=true)
 (e:s.sizedB enc Tryz.prog fn apart ((AL os).forCall (λ_ _=>0) ⟨#[],args,[]⟩).memory args b=true):
 ∃(w:Zy)(a:Tape)(i:Input),w.os=os/\(w.forCall a i).Shaped Tryz.checked.prog/\i.vars=[]/\Input.okWide Tryz.checked.prog (w.forCall a i) .any w.heap.size f i/\
  ((s.pre enc Tryz.checked.prog fn [] apart (w.forCall a i).memory i.args/\laidMetH Tryz.prog wy (w.forCall a i).memory)/\sizedMet enc Tryz.checked.prog fn (OpenSpec.ofChange s) apart (w.forCall a i).memory i.args)/\({modest:=modest}:Assume).holds Tryz.checked.prog (lone (Frame.enter Tryz.checked.prog f i.args .normal) [] (w.forCall a i)):=
 ⟨AL os,λ_ _=>0,⟨#[],args,[]⟩,rfl,aiY os args,(Input.okWide_of_okWideB (base:=0) d).1,(Input.okWide_of_okWideB d).2,⟨⟨ChangeSpec.pre_of_preB c,aq2 os args⟩,sizedMet_of_sizedB e⟩,by
  simp only[Assume.holds];exact⟨by simp,by simp,λ_=>Modest.zero,by simp,by simp⟩⟩
end Go.Proofs.YtnnapanbbbcalaaGreatDoor
