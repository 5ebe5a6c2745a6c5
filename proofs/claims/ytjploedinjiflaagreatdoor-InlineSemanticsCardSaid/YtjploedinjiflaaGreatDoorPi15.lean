/-
  Part 15 of the proof.
-/
import Derived.Test.YtjploedinjiflaaGreatDoorPi14
import Derived.Test.YtjploedinjiflaaGreatDoorRows
import Derived.ProofKit
import Derived.OpenShut
import Derived.ShutString
import Derived.ChangeOld
import Derived.Lib.LaidTab
import Derived.LaidHandle
import Derived.JoinedOf
import Derived.ChangeVars
set_option linter.defProp false
namespace Go.Proofs.YtjploedinjiflaaGreatDoor
open Go.RowKit
set_option maxRecDepth 100000
def am6{P:eG}{W:Zy}{name:String}{k:IntKind}{zs:U Int}{l:U (String×DataW Unit)}{g:Nat}{t e:TypeId}{n:Nat}
 (i:P.globalNamed name=some g) (j:(P.globals[g]?).map (·.type)=some t) (m:P.underlying t=some (.array n e)) (o:P.underlying e=some (.int k)) (b:P.cellsOf e=1) (c:P.cellsOf t=n)
 (h:laidMet P l W) (a:(name,Lib.tabData k zs)∈l):Lib.TabIs P W name k zs:=by
 obtain⟨u,v,w⟩:=h;clear w
 induction l generalizing u with
 |nil=>cases a
 |cons x r y=>
  obtain⟨E,F⟩:=x;obtain⟨G,H,J,f,p,q,z,A,d,B,C,_⟩:=v;rcases Za.1 a with a|a
  ·cases a
   obtain rfl:=Zl (i.symm.trans z);obtain rfl:=Zl (j.symm.trans A);unfold Lib.TabIs;rw[d,<-Lib.cells_of_tab m o b c B]
  ·exact y a q C
def PW(W:Zy):Prop:=∀(g:Nat)(l:U oZ),(g,l)∈DK->∀(j:Nat)(v:oZ),l[j]?=some v->W.cell? ⟨g,j,none⟩=some v
def Lk(W:Zy):Gh:={N:=0,Z:=λb=>b<W.heap.size,S:=λb _=>b<W.heap.size,bn:=λ_=>0,sg:=λ_=>undef,ow:=λ_=>none,fl:=λ_=>0,M:=0}
def api{W:Zy}(h:PW W):cp (Lk W) W []:=by
 refine⟨rfl,λb c=>c,λb _ c=>c,λn B e=>by simp at e,λm n b a=> ?_,λg l a j v d=>⟨World.block_lt_of_cell? W _ (h g l a j v d),h g l a j v d⟩,Wl _⟩;rw[Em gj]at a;cases a
def apA{P:eG}{f:FuncId}{args:U AV}{r:AV}(h:gq P f args (·=r)){W:Zy}(d:PW W)(b:Array oZ)(g:b.size=args.length)
 (j:∀(i:Nat)(u:oZ)(c:AV),b[i]?=some u->args[i]?=some c->aM (Lk W) W u c):
 Calls P f b W λe W'=>∃v G',e= .returned v/\aM G' W' v r/\Below W.heap.size W W':=by
 refine(h.2 (Lk W) W b (api d) g j).mono λe W' l=> ?_;obtain⟨v,G',o,p,rfl,a,_,_,m,_,rfl⟩:=l;exact⟨v,G',rfl,m,a.os,a.tape,a.output,a.size,λk n=>a.old k n⟩
def arD{P:eG}{f:FuncId}{args:U AV}(h:gq P f args (·= .d (.v (.bool true)))){W:Zy}(b:PW W)(a:Array oZ)(g:a.size=args.length)
 (j:∀(i:Nat)(u:oZ)(c:AV),a[i]?=some u->args[i]?=some c->aM (Lk W) W u c):
 Calls P f a W λe W'=>e= .returned (.bool true)/\Below W.heap.size W W':=
 (apA h b a g j).mono λe W' k=>by
  obtain⟨v,n,rfl,l,m⟩:=k;cases l with
  |d h=>cases h;exact⟨rfl,m⟩
def aiQ(l:U Nat):yU l=(l.map Int.ofNat).map (λz=>Value.int .u8 z):=by simp [yU,List.map_map,Function.comp_def]
def apb{P:eG}{W:Zy}{name:String}{k:IntKind}{zs:U Int}{g:Nat}(h:Lib.TabIs P W name k zs)(c:P.globalNamed name=some g)(j:Nat)(v:oZ)(a:(zs.map λz=>Value.int k z)[j]?=some v):W.cell? ⟨g,j,none⟩=some v:=by
 rw[Zm]at a;cases b:zs[j]? with
 |none=>rw[b]at a;cases a
 |some z=>
  rw[b]at a;cases a
  have d:j<zs.length:=(Zj.1 b).1;have:=h.cell c j d;rw[List.getD_eq_getElem?_getD,b]at this;exact this
def yk:U (String×DataW Unit):=Rows.inlineSemanticsRow.laid
def aoj:(yk.filter λx=>x.2.handleName?.isSome)=[]:=by kernel_rfl
def akH{W:Zy}(h:laidMetH Tryz.prog yk W):laidMet Tryz.prog yk W:=by
 unfold laidMetH at h;rw[aoj]at h;exact h
def aoM{W:Zy}(h:laidMetH Tryz.prog yk W):PW W:=by
 have c:=akH h;intro g l a j v b;unfold DK at a;simp only[Za,Prod.mk.injEq,Yt,or_false]at a;rcases a with⟨rfl,rfl⟩;{rw[aiQ]at b;exact apb (am6 km (t:=299) km Tryz.underlying299 Tryz.underlying5 km km c (name:= "strings.asciiSpace") (g:=0) (ZZ (i:=1) km)) km j v b}
def arE:ownKnob Tryz.prog.godebug=none:=by kernel_rfl
def acA(h:Array Obj)(g:Nat)(l:U oZ):Array Obj:=h.modify g fun
 | .cells _ t frozen=>.cells l.toArray t frozen
 |o=>o
def z7(a b c:Nat):U oZ:=[.int .u16 (Int.ofNat a),.int .u16 (Int.ofNat b),.int .u16 (Int.ofNat c)]
def asB:U oZ:=z7 9 13 1++(z7 32 133 101++(z7 160 5760 5600++(z7 8192 8202 1++(z7 8232 8233 1++(z7 8239 8287 48++z7 12288 12288 1)))))
noncomputable def Bv(os:Os):Zy:=
 let a:=World.holding Tryz.prog os ⟨#[], #[],[]⟩
 {a with heap:=((acA (acA a.heap 0 (yU Gp)) 2 [.pointer (some ⟨a.heap.size,0,none⟩)]).push
    (.cells #[.slice (some ⟨a.heap.size+1,0,none⟩) 7 7,.slice none 0 0,.int .i64 2] 334)).push (.cells asB.toArray 337)}
def aiR(os:Os)(args:Array oZ):laidMetH Tryz.prog yk ((Bv os).forCall (λ_ _=>0) ⟨#[],args,[]⟩).memory:=
 laidMetH_of_parts (laidMet_of_run' 8 km km) km
def R7(P:eG)(w:Zy)(t:TypeId)(v:oZ):Bool:=
 match P.underlying t,v with
 |some (.pointer e),.pointer (some a)=>a.spot.isNone&&(match w.shape? a.block with
  |some (b,cells)=>liesAt P P.depth b (cells / P.cellsOf b) a.off e 1
  |none=>false)
 |_,v=>Cell.okB P t v
def aiS{P:eG}{w:Zy}{t:TypeId}{v:oZ}(h:R7 P w t v=true):Cell.ok P w .any 0 t v:=by
 unfold R7 at h;split at h
 ·next e a d=>
  rw[Zo]at h;unfold Cell.ok;simp only[d];obtain⟨f,b⟩:=h;split at b;{next c cells g=>exact⟨trivial,by simpa using f,c,cells,g,b⟩};{cases b}
 ·exact Cell.ok_of_okB h
def S1(P:eG)(w:Zy)(t:TypeId)(cs:Array oZ):Bool:=
 match P.cellTypes P.depth t with
 |some a=>cs.size%a.length==0&&(List.range cs.size).all λi=>
  match cs[i]?,a[i%a.length]? with
  |some v,some u=>R7 P w u v
  |_,_=>false
 |none=>false
def aiD{P:eG}{w:Zy}{t:TypeId}{cs:Array oZ}(h:S1 P w t cs=true):Row.ok P w .any 0 t cs:=by
 unfold S1 at h;split at h
 ·rename_i a d
  simp only[Zo,TC,Zc,List.mem_range]at h;refine⟨a,d,⟨cs.size / a.length,(Nat.div_mul_cancel (Nat.dvd_of_mod_eq_zero h.1)).symm⟩,λi v b=> ?_⟩;have e:i<cs.size:=(ZP.1 b).1;have:=h.2 i e;rw[b]at this;cases c:a[i%a.length]? with
  |none=>simp [c]at this
  |some u=>simp only[c]at this;exact⟨u,rfl,aiS this⟩
 ·cases h
def aef(P:eG)(w:Zy):Bool:=
 let c:=(begin P (λ_ _=>0) default).world
 (List.range P.globals.size).all λg=>
  match (c.heap[g]?).bind Obj.row? with
  |none=>true
  |some (a,t)=>
   match w.heap[g]? with
   |some (.cells b d frozen)=>decide (d=t)&&decide (frozen=(0,0))&&b.size==a.size&&(!P.buildable t||S1 P w t b)
   |_=>false
def auo{P:eG}{w:Zy}(b:aef P w=true)
 (e:(w.heap.toList.drop P.globals.size).take ((begin P (λ_ _=>0) default).world.heap.size-P.globals.size)=
  (begin P (λ_ _=>0) default).world.heap.toList.drop P.globals.size):w.Shaped P:=by
 refine⟨λg d t f h=> ?_,λk i n=> ?_⟩
 case refine_2=>
  have:=congrArg (·[k-P.globals.size]?) e;simp only[List.getElem?_take,List.getElem?_drop,ZL]at this;rw[ae k7,Nat.add_sub_cancel' i]at this;exact this
 unfold aef at b;simp only[Zc,List.mem_range]at b;have:=b g f;rw[h]at this;simp only at this;split at this
 ·rename_i j o p l
  simp only[Zo,UL,TC,bh,UC]at this;obtain⟨⟨⟨rfl,rfl⟩,m⟩,a⟩:=this;refine⟨j,l,m,λc=> ?_⟩;rcases a with a|a
  ·rw[c]at a;cases a
  ·exact aiD a
 ·cases this
def asI(os:Os)(args:Array oZ):((Bv os).forCall (λ_ _=>0) ⟨#[],args,[]⟩).Shaped Tryz.prog:=auo km km
def arY{H:Type}{enc:TypeId×oZ->H}{os:Os}{f:FuncId}{fn:Func}{s:ChangeSpec}{apart:Bool}(modest:Bool)(args:Array oZ)(b:Nat)
 (e:Input.okWideB Tryz.prog ((Bv os).forCall (λ_ _=>0) ⟨#[],args,[]⟩) f ⟨#[],args,[]⟩=true)
 (c:s.preB enc Tryz.prog fn [] apart ((Bv os).forCall (λ_ _=>0) ⟨#[],args,[]⟩).memory args b=true)
 (d:s.sizedB enc Tryz.prog fn apart ((Bv os).forCall (λ_ _=>0) ⟨#[],args,[]⟩).memory args b=true):
 ∃(w:Zy)(a:Tape)(i:Input),w.os=os/\(w.forCall a i).Shaped Tryz.checked.prog/\i.vars=[]/\Input.okWide Tryz.checked.prog (w.forCall a i) .any w.heap.size f i/\
  ((s.pre enc Tryz.checked.prog fn [] apart (w.forCall a i).memory i.args/\laidMetH Tryz.prog yk (w.forCall a i).memory)/\sizedMet enc Tryz.checked.prog fn (OpenSpec.ofChange s) apart (w.forCall a i).memory i.args)/\({modest:=modest}:Assume).holds Tryz.checked.prog (lone (Frame.enter Tryz.checked.prog f i.args .normal) [] (w.forCall a i)):=
 ⟨Bv os,λ_ _=>0,⟨#[],args,[]⟩,rfl,asI os args,(Input.okWide_of_okWideB (base:=0) e).1,(Input.okWide_of_okWideB e).2,⟨⟨ChangeSpec.pre_of_preB c,aiR os args⟩,sizedMet_of_sizedB d⟩,by
  simp only[Assume.holds];exact⟨by simp,by simp,λ_=>Modest.zero,by simp,by simp⟩⟩
end Go.Proofs.YtjploedinjiflaaGreatDoor
