/-
  Part 1 of the proof: AbsGlob, AbsCore, AbsOps, AbsHeap, AbsStore, AbsApp, AbsOp, AbsOp2, AbsOp3, AbsMap, AbsVec, AbsVec2, AbsOp4.
-/
import Derived.WalkKit
import Derived.Laws.Strings
import Derived.Lib.Hide
import Derived.OrdersIn
import Derived.RangeFuncIn
import Derived.RangeFuncCalls
import Derived.RangeFuncLeaves
import Derived.RangeFuncFrom
import Derived.Deep.MidRow
import Derived.Laws.AppendOwn
import Derived.Maps.OwnOps
import Derived.KernelRfl
import Derived.Deep.AppendSrc
import Derived.Deep.Upon
import Derived.Laws.BytesString
import Derived.Laws.StructEq
import Derived.Laws.MakeOwn
import Derived.Laws.Cover3
namespace Go.Proofs.YtpeecnpmcbnahaaGreatDoor
open Go.RowKit
abbrev anc:=@Option.bind_some
abbrev ane:=@List.getElem?_eq_some_iff
abbrev anf:=@List.length_append
abbrev ang:=@Bool.and_eq_true
abbrev anh:=@List.length_cons
abbrev ani:=@List.getElem?_eq_getElem
abbrev anj:=@List.length_map
abbrev ank:=@List.mem_cons_self
abbrev anl:=@List.getElem?_map
abbrev anm:=@Nat.le_of_ble_eq_true
abbrev ann:=@List.mem_cons_of_mem
abbrev ano:=@List.getElem?_append_left
abbrev anp:=@Nat.le_refl
abbrev anq:=@List.length_nil
abbrev anr:=@List.mem_of_getElem?
abbrev ans:=@Nat.eq_of_beq_eq_true
abbrev ant:=@Array.getElem?_eq_some_iff
abbrev anu:=@List.getElem?_append_right
abbrev anv:=@List.append_assoc
abbrev anw:=@Nat.le_trans
abbrev anx:=@Option.some.inj
abbrev anz:=@Nat.zero_add
abbrev anA:=@List.append_nil
abbrev anB:=@Array.getElem?_eq_getElem
abbrev anC:=@Array.getElem?_toList
abbrev anD:=@Nat.lt_of_lt_of_le
abbrev anE:=@List.map_cons
abbrev anF:=@List.all_eq_true
abbrev anG:=@Int.toNat_natCast
abbrev anH:=@Nat.not_lt_zero
abbrev anI:=@List.getElem?_set_self
abbrev anJ:=@List.mem_cons
abbrev anK:=@List.map_congr_left
abbrev anL:=@List.getElem?_eq_none
abbrev anM:=@Array.length_toList
abbrev anN:=@List.getElem?_set_ne
abbrev anO:=@List.drop_zero
abbrev anP:=@List.length_replicate
abbrev anQ:=@List.getElem?_cons_succ
abbrev anR:=@List.mem_append
abbrev anS:=@List.take_append_drop
abbrev anT:=@Nat.lt_irrefl
abbrev anU:=@Nat.le_add_right
abbrev anV:=@List.not_mem_nil
abbrev anW:=@decide_eq_true
abbrev anX:=@decide_eq_false
abbrev anY:=@beq_self_eq_true
abbrev anZ:=@List.all_cons
abbrev an0:=@List.any_cons
abbrev an1:=@Nat.lt_succ_self
abbrev an2:=@Bool.or_eq_false_iff
abbrev an3:Type->Type:=List
abbrev an4:=ByteArray
abbrev an5:Type->Type:=Option
abbrev an6:=Program
abbrev an7:=Value
abbrev an8:=World
def bL(a:an4):an3 UInt8:=a.data.toList
theorem PY(a:an4):a.toList=bL a:=ByteArray.toList_eq a
theorem Gk{a b:an4}(h:bL a=bL b):a=b:=by cases a;cases b;simp only[bL,Array.toList_inj]at h;rw[h]
def vp(l:an3 Nat):an3 an7:=l.map λn=>Value.int .u8 (Int.ofNat n)
def C9:an3 Nat:=(List.range 256).map λn=>bif (Nat.ble 9 n&&Nat.ble n 13)||n==32 then 1 else 0
def An:an3 (Nat×an3 an7):=
 (0,vp C9)::
  []
def Bc:an3 (Nat×an3 an7)->Nat->an5 (an3 an7)
 |[],_=>none
 |(k,l)::r,g=>bif k==g then some l else Bc r g
theorem Um:∀{t:an3 (Nat×an3 an7)}{g:Nat}{l:an3 an7},Bc t g=some l->(g,l)∈t
 |[],g,l,h=>by cases h
 |(k,l')::r,g,l,h=>by
  unfold Bc at h;cases e:k==g with
  |true=>rw[e]at h;cases h;rw[beq_iff_eq]at e;subst e;simp
  |false=>rw[e]at h;exact ann _ (Um h)
inductive D where
 |v (u:Value)
 |sl (xs:List (List D))
 |ag (ds:List D)
inductive fj where
 |d (x:D)
 |bg (c:List D) (off:Nat)
 |fn (f:FuncId) (cs:List fj)
 |ni (f:FuncId) (cs:List fj)
inductive AV where
 |d (x:D)
 |agg (cs:List AV)
 |aZ (cs:List AV)
 |ptr (n off:Nat)
 |bg (xs:List (List D)) (i off:Nat)
 |own (n:Nat) (xs:List (List D))
 |full (xs:List (List D))
 |row (n off len cap k:Nat)
 |fn (f:FuncId) (cT:List AV)
 |mp (n:Nat)
 |cg (n:Nat)
 |vec (n o len L k:Nat)
 |dp (n i j L k:Nat)
 |hid (c:fj)
 |dead
inductive LS where
 |ready
 |busy
 |done (c:Code)
def LS.st:LS->LoopState
 | .ready=> .ready
 | .busy=> .busy
 | .done _=> .done
def LS.pd:LS->an5 Code
 | .done c=>some c
 |_=>none
inductive ao where
 |cells (cs:List AV)
 |front (e:TypeId) (k len:Nat)
 |vec (e:TypeId) (k:Nat) (cs:List (List AV))
 |map (kv:List (ByteArray×D))
 |iy (kv:List (ByteArray×D))
 |lp (ls:LS) (p:Nat) (as bd:Code) (cs:List AV)
 |it (sn:Nat×List Nat) (cs:List AV)
 |eG (T:TypeId) (cs:List AV)
 |ig (e:TypeId) (b:ByteArray)
 |gone
structure Gh where
 N:Nat
 Z:Nat->Prop
 S:Nat->Nat->Prop
 aO:Nat->Nat
 sg:Nat->Value
 ow:Nat->Option Nat
 fl:Nat->Nat
 M:Nat
inductive dg(S:Nat->Nat->Prop)(w:World):Value->D->Prop
 |v (u:Value):dg S w u (.v u)
 |sl (A:Option Addr) (b o c k:Nat) (xs:List (List D)) (u:Nat->Nat->Value)
    (hA:xs≠ []->A=some ⟨b,o,none⟩) (hc:xs.length<=c) (hm:c<=maxLen)
    (hk:∀x∈xs,x.length=k)
    (hS:∀i j,i<xs.length->j<k->S b (o+i*k+j)/\w.cell? ⟨b,o+i*k+j,none⟩=some (u i j)/\(u i j).oneCell'=true)
    (hu:∀(i j:Nat)(x:List D)(d:D),xs[i]?=some x->x[j]?=some d->dg S w (u i j) d):dg S w (.slice A xs.length c) (.sl xs)
 |ag (vs:Array Value) (ds:List D) (hl:vs.size=ds.length) (h:∀(i:Nat)(u:Value)(d:D),vs[i]?=some u->ds[i]?=some d->dg S w u d):dg S w (.agg vs) (.ag ds)
inductive nP(S:Nat->Nat->Prop)(w:World):Value->fj->Prop
 |d {u:Value} {x:D} (h:dg S w u x):nP S w u (.d x)
 |bg (c:List D) (off b o:Nat) (u:Nat->Value) (hS:∀j,j<c.length->S b (o+j)/\w.cell? ⟨b,o+j,none⟩=some (u j)) (hu:∀(j:Nat)(d:D),c[j]?=some d->dg S w (u j) d):nP S w (.pointer (some ⟨b,o+off,none⟩)) (.bg c off)
 |fn (f:FuncId) (vs:Array Value) (cs:List fj) (hl:vs.size=cs.length) (h:∀(i:Nat)(u:Value)(c:fj),vs[i]?=some u->cs[i]?=some c->nP S w u c):nP S w (.func (.func f) #[] vs) (.fn f cs)
 |ni (f:FuncId) (vs:Array Value) (cs:List fj) (hl:vs.size=cs.length) (h:∀(i:Nat)(u:Value)(c:fj),vs[i]?=some u->cs[i]?=some c->nP S w u c):nP S w (.func (.func f) vs #[]) (.ni f cs)
structure U4(s u:Value)(o len L k:Nat):Prop where
 ol:o+len<=L
 sl:∃A c,u= .slice A len c/\len<=c/\c<=maxLen/\L<=c+o/\(o<L->∃g cap,s= .slice (some ⟨g,0,none⟩) L cap/\A=some ⟨g,o*k,none⟩/\o+c=cap)
 all:o=0->len=L->u=s
structure VO(s u:Value)(i j L k:Nat):Prop where
 il:i<L
 pt:∃g cap,s= .slice (some ⟨g,0,none⟩) L cap/\u= .pointer (some ⟨g,i*k+j,none⟩)
inductive aD(G:Gh)(w:World):Value->AV->Prop
 |d {u:Value} {x:D} (h:dg G.S w u x):aD G w u (.d x)
 |agg (vs:Array Value) (cs:List AV) (hl:vs.size=cs.length) (h:∀(i:Nat)(u:Value)(c:AV),vs[i]?=some u->cs[i]?=some c->aD G w u c):aD G w (.agg vs) (.agg cs)
 |aZ (vs:Array Value) (cs:List AV) (hl:vs.size=cs.length) (h:∀(i:Nat)(u:Value)(c:AV),vs[i]?=some u->cs[i]?=some c->aD G w u c):aD G w (.tuple vs) (.aZ cs)
 |ptr (n off:Nat) (h:n<G.N):aD G w (.pointer (some ⟨G.aO n,off,none⟩)) (.ptr n off)
 |bg (xs:List (List D)) (i off b o:Nat) (u:Nat->Value) (x:List D) (hx:xs[i]?=some x)
  (hS:∀j,j<x.length->G.S b (o+j)/\w.cell? ⟨b,o+j,none⟩=some (u j)) (hu:∀(j:Nat)(d:D),x[j]?=some d->dg G.S w (u j) d):aD G w (.pointer (some ⟨b,o+off,none⟩)) (.bg xs i off)
 |own {u:Value} (n:Nat) (xs:List (List D)) (h:n<G.N) (hp:dg G.S w u (.sl xs)) (hle:xs.length<=G.fl n) (hf:xs.length=G.fl n->u=G.sg n):aD G w u (.own n xs)
 |full {u:Value} (xs:List (List D)) (hp:dg G.S w u (.sl xs)) (hf:∃A,u= .slice A xs.length xs.length):aD G w u (.full xs)
 |row (n off len cap k:Nat) (h:n<G.N) (hl:len<=cap) (hm:cap<=maxLen):aD G w (.slice (some ⟨G.aO n,off,none⟩) len cap) (.row n off len cap k)
 |fn (f:FuncId) (vs:Array Value) (cs:List AV) (hl:vs.size=cs.length) (h:∀(i:Nat)(u:Value)(c:AV),vs[i]?=some u->cs[i]?=some c->aD G w u c):aD G w (.func (.func f) #[] vs) (.fn f cs)
 |mp (n:Nat) (h:n<G.N):aD G w (.map (some (G.aO n))) (.mp n)
 |cg (n:Nat) (h:n<G.N):aD G w (.func (.yield (G.aO n)) #[] #[]) (.cg n)
 |vec {u:Value} (n o len L k:Nat) (h:n<G.N) (hs:∃A l c,u= .slice A l c) (hL:L<=G.fl n) (hf:L=G.fl n->U4 (G.sg n) u o len L k):aD G w u (.vec n o len L k)
 |dp {u:Value} (n i j L k:Nat) (h:n<G.N) (hs:∃b q,u= .pointer (some ⟨b,q,none⟩)) (hL:L<=G.fl n) (hf:L=G.fl n->VO (G.sg n) u i j L k):aD G w u (.dp n i j L k)
 |hid {u:Value} {c:fj} (h:nP G.S w u c) (J:u.oneCell'=true):aD G w u (.hid c)
 |dead (u:Value):aD G w u .dead
def la:an3 (an4×D)->an4->an5 D
 |[],_=>none
 |(k,d)::l,s=>bif bL k==bL s then some d else la l s
structure tD(S:Nat->Nat->Prop)(w:World)(es:Array MapEntry)(clock:Nat)(kv:List (ByteArray×D)):Prop where
 size:es.size<=maxLen
 stamped:MapKept.Stamped es clock
 AL:∀e∈es.toList,∃s d,e.key= .string s/\la kv s=some d/\dg S w e.val d
 all:∀s d,la kv s=some d->∃e∈es.toList,e.key= .string s
 len:es.size<=kv.length
 born:∀(i:Nat)(e:MapEntry),es[i]?=some e->e.born=i
 BJ:clock=es.size
structure xG(S:Nat->Nat->Prop)(w:World)(es:Array MapEntry)(clock:Nat)(kv:List (ByteArray×D)):Prop where
 ok:tD S w es clock kv
 ord:∀(i:Nat)(e:MapEntry),es[i]?=some e->∃p,kv[i]?=some p/\e.key= .string p.1/\dg S w e.val p.2
 all:kv.length=es.size
def ao.dL(G:Gh)(n:Nat):ao->an5 Nat
 | .cells _=>some (G.aO n)
 | .front _ _ _=>G.ow n
 | .vec _ _ _=>G.ow n
 | .map _=>some (G.aO n)
 | .iy _=>some (G.aO n)
 | .lp _ _ _ _ _=>some (G.aO n)
 | .it _ _=>some (G.aO n)
 | .eG _ _=>some (G.aO n)
 | .ig _ _=>G.ow n
 | .gone=>none
def bH(h:an3 ao)(G:Gh)(n:Nat):an5 Nat:=(h[n]?).bind (ao.dL G n)
theorem dx{h:an3 ao}{G:Gh}{n:Nat}{B:ao}(e:h[n]?=some B):bH h G n=B.dL G n:=by unfold bH;rw[e];rfl
theorem uV{h:an3 ao}{G:Gh}{n:Nat}(e:h[n]?=none):bH h G n=none:=by unfold bH;rw[e];rfl
theorem ng{h:an3 ao}{G:Gh}{n b:Nat}(e:bH h G n=some b):∃B,h[n]?=some B/\B.dL G n=some b:=by
 unfold bH at e;cases hx:h[n]? with
 |none=>rw[hx]at e;cases e
 |some B=>rw[hx]at e;exact⟨B,rfl,e⟩
def afD(v:an7):Prop:=v= .slice none 0 0\/∃g n cap,v= .slice (some ⟨g,0,none⟩) n cap/\cap≠0
def dP(G:Gh)(w:an8)(n:Nat):ao->Prop
 | .cells cs=>¬G.Z (G.aO n)/\(∀o,¬G.S (G.aO n) o)/\∃(vs:Array an7)(T:TypeId),w.heap[G.aO n]?=some (.cells vs T (0,0))/\vs.size=cs.length/\∀(i:Nat)(u:an7)(c:AV),vs[i]?=some u->cs[i]?=some c->aD G w u c
 | .front e k len=>G.fl n=len/\len<=maxLen/\((G.ow n=none/\∃A,G.sg n= .slice A len len)\/
  ∃(g cap:Nat)(cur:Array an7),G.ow n=some g/\G.sg n= .slice (some ⟨g,0,none⟩) len cap/\¬G.Z g/\w.heap[g]?=some (.cells cur e (0,0))/\len<=cap/\cap<=maxLen/\cur.size=cap*k/\∀o,len*k<=o->¬G.S g o)
 | .vec e k cs=>G.fl n=cs.length/\cs.length<=maxLen/\(∀c∈cs,c.length=k)/\((G.ow n=none/\cs=[]/\∃A,G.sg n= .slice A 0 0)\/
  ∃(g cap:Nat)(cur:Array an7),G.ow n=some g/\G.sg n= .slice (some ⟨g,0,none⟩) cs.length cap/\¬G.Z g/\w.heap[g]?=some (.cells cur e (0,0))/\cs.length<=cap/\cap<=maxLen/\cur.size=cap*k/\(∀o,¬G.S g o)/\
   ∀(i j:Nat)(c:an3 AV)(x:AV)(u:an7),cs[i]?=some c->c[j]?=some x->cur[i*k+j]?=some u->aD G w u x)
 | .map kv=>¬G.Z (G.aO n)/\(∀o,¬G.S (G.aO n) o)/\∃(es:Array MapEntry)(clock:Nat),w.heap[G.aO n]?=some (.map es clock)/\tD G.S w es clock kv
 | .iy kv=>¬G.Z (G.aO n)/\(∀o,¬G.S (G.aO n) o)/\∃(es:Array MapEntry)(clock:Nat),w.heap[G.aO n]?=some (.map es clock)/\xG G.S w es clock kv
 | .lp ls p as bd cs=>¬G.Z (G.aO n)/\(∀o,¬G.S (G.aO n) o)/\∃(fn:FuncId)(tm:Array an7)(D:Nat),w.heap[G.aO n]?=some (.loop {state:=ls.st,pending:=ls.pd,fn:=fn,tmps:=tm,params:= #[p],assign:=as,body:=bd,defers:=D})/\tm.size=cs.length/\∀(i:Nat)(u:an7)(c:AV),tm[i]?=some u->cs[i]?=some c->aD G w u c
 | .it sn cs=>¬G.Z (G.aO n)/\(∀o,¬G.S (G.aO n) o)/\∃(fn:Nat)(vs:Array an7)(_:Unit),w.heap[G.aO n]?=some (.mapIter (some fn) sn.1 sn.2.toArray sn.1)/\(vs.size=cs.length/\vs= #[.map (some fn)])/\∀(i:Nat)(u:an7)(c:AV),vs[i]?=some u->cs[i]?=some c->aD G w u c
 | .eG T cs=>¬G.Z (G.aO n)/\(∀o,¬G.S (G.aO n) o)/\∃(_:Unit)(vs:Array an7)(p:an7),w.heap[G.aO n]?=some (.cells (#[p]++vs) T (0,0))/\(vs.size=cs.length/\(p= .pointer none\/p= .pointer (some ⟨G.aO n,0,none⟩))/\∀v∈vs.toList,afD v)/\∀(i:Nat)(u:an7)(c:AV),vs[i]?=some u->cs[i]?=some c->aD G w u c
 | .ig e b=>G.fl n=b.size/\b.size<=maxLen/\((G.ow n=none/\b.size=0/\∃A,G.sg n= .slice A 0 0)\/
  ∃(g cap:Nat)(cur:Array an7),G.ow n=some g/\G.sg n= .slice (some ⟨g,0,none⟩) b.size cap/\¬G.Z g/\w.heap[g]?=some (.cells cur e (0,0))/\b.size<=cap/\cap<=maxLen/\cur.size=cap/\(∀o,¬G.S g o)/\∀(i:Nat)(u:UInt8),(bL b)[i]?=some u->cur[i]?=some (.int .u8 u.toNat))
 | .gone=>True
def HF(G:Gh)(w:an8):Prop:=(∀(g:Nat)(l:an3 an7),(g,l)∈An->∀(j:Nat)(v:an7),l[j]?=some v->G.S g j/\w.cell? ⟨g,j,none⟩=some v)/\G.M<=w.heap.size
structure bJ(G:Gh)(w:World)(h:List ao):Prop where
 len:h.length=G.N
 z:∀b,G.Z b->b<w.heap.size
 S:∀b o,G.S b o->b<w.heap.size
 cV:∀(n:Nat)(B:ao),h[n]?=some B->dP G w n B
 inj:∀(m n b:Nat),bH h G m=some b->bH h G n=some b->m=n
 gl:HF G w
structure bI(N:Nat)(G:Gh)(w:World)(G':Gh)(w':World):Prop where
 size:w.heap.size<=w'.heap.size
 S:∀b o,G.S b o->G'.S b o
 cell:∀b o,G.S b o->w'.cell? ⟨b,o,none⟩=w.cell? ⟨b,o,none⟩
 aO:∀n,n<N->G'.aO n=G.aO n
 fr:∀n,n<N->(G'.fl n=G.fl n/\G'.sg n=G.sg n)\/G.fl n<G'.fl n
 Z:((∀b,G.Z b->G'.Z b)/\∀b,G'.Z b->G.Z b\/w.heap.size<=b)/\G'.M=G.M
 old:∀b,G.Z b->w'.heap[b]?=w.heap[b]?
 os:w'.os=w.os
 tape:w'.tape=w.tape
 output:w'.output=w.output
 new:∀b o,G'.S b o->G.S b o\/¬G.Z b
theorem gU{Z Z':Nat->Prop}{m M M':Nat}(h:Z'=Z)(hM:M'=M:=by rfl):((∀b,Z b->Z' b)/\∀b,Z' b->Z b\/m<=b)/\M'=M:=⟨⟨λ_ k=>h▸k,λ_ k=> .inl (h▸k)⟩,hM⟩
theorem bI.refl(N:Nat)(G:Gh)(w:an8):bI N G w G w:=
 ⟨anp _,λ_ _ h=>h,λ_ _ _=>rfl,λ_ _=>rfl,λ_ _=> .inl ⟨rfl,rfl⟩,gU rfl,λ_ _=>rfl,rfl,rfl,rfl,λ_ _ h=> .inl h⟩
theorem bI.trans{N:Nat}{G G1 G2:Gh}{w w1 w2:an8}(h:bI N G w G1 w1)(k:bI N G1 w1 G2 w2):bI N G w G2 w2:=
 ⟨anw h.size k.size,λb o hs=>k.S b o (h.S b o hs),λb o hs=>(k.cell b o (h.S b o hs)).trans (h.cell b o hs),λn hn=>(k.aO n hn).trans (h.aO n hn),
  λn hn=>by
   rcases h.fr n hn with⟨J,h2⟩|J<;>rcases k.fr n hn with⟨k1,k2⟩|k1
   ·exact .inl ⟨k1.trans J,k2.trans h2⟩
   ·exact .inr (J▸k1)
   ·exact .inr (k1▸J)
   ·exact .inr (Nat.lt_trans J k1),
  ⟨⟨λb hb=>k.Z.1.1 b (h.Z.1.1 b hb),λb hb=>(k.Z.1.2 b hb).elim (h.Z.1.2 b) λhs=> .inr (anw h.size hs)⟩,k.Z.2.trans h.Z.2⟩,λb hb=>(k.old b (h.Z.1.1 b hb)).trans (h.old b hb),k.os.trans h.os,k.tape.trans h.tape,k.output.trans h.output,λb o hs=>(k.new b o hs).elim (h.new b o) (λhn=> .inr λhz=>hn (h.Z.1.1 b hz))⟩
theorem bI.less{N M:Nat}{G G':Gh}{w w':an8}(h:bI N G w G' w')(hM:M<=N):bI M G w G' w':=
 ⟨h.size,h.S,h.cell,λn hn=>h.aO n (anD hn hM),λn hn=>h.fr n (anD hn hM),h.Z,h.old,h.os,h.tape,h.output,h.new⟩
theorem bI.lf{N:Nat}{G G':Gh}{w w':an8}(h:bI N G w G' w'){b:Nat}(hb:b<w.heap.size)(hz:¬G.Z b):¬G'.Z b:=λk=>(h.Z.1.2 b k).elim hz λhs=>anT _ (anD hb hs)
def rz(G:Gh)(w:an8)(ds:an3 Deferred):Prop:=∃l:an3 Nat,l.Nodup/\ds=l.map (λD=>{target:= .collected D,args:= #[]})/\∀D∈l,G.M<=D/\G.Z D/\w.heap[D]?=some (.deferred (some []))
theorem rz.nil(G:Gh)(w:an8):rz G w []:=⟨[],List.nodup_nil,rfl,λ_ h=>absurd h anV⟩
theorem rz.keep{N:Nat}{G G':Gh}{w w':an8}{ds:an3 Deferred}(h:rz G w ds)(hE:bI N G w G' w'):rz G' w' ds:=
 let ⟨l,J,h2,h3⟩:=h
 ⟨l,J,h2,λD hD=>⟨hE.Z.2▸(h3 D hD).1,hE.Z.1.1 D (h3 D hD).2.1,(hE.old D (h3 D hD).2.1).trans (h3 D hD).2.2⟩⟩
theorem HF.keep{N:Nat}{G G':Gh}{w w':an8}(h:HF G w)(hE:bI N G w G' w'):HF G' w':=⟨λg l hm j v hv=>
 ⟨hE.S _ _ (h.1 g l hm j v hv).1,(hE.cell _ _ (h.1 g l hm j v hv).1).trans (h.1 g l hm j v hv).2⟩,by rw[hE.Z.2];exact anw h.2 hE.size⟩
theorem dg.keep{S S':Nat->Nat->Prop}{w w':an8}(hS:∀b o,S b o->S' b o)(hc:∀b o,S b o->w'.cell? ⟨b,o,none⟩=w.cell? ⟨b,o,none⟩){u:an7}{x:D}(h:dg S w u x):dg S' w' u x:=by
 induction h with
 |v u=>exact .v u
 |sl A b o c k xs u hA fI hm hk qW _ ih=>
  exact .sl A b o c k xs u hA fI hm hk (λi j hi hj=>⟨hS _ _ (qW i j hi hj).1,(hc _ _ (qW i j hi hj).1).trans (qW i j hi hj).2.1,(qW i j hi hj).2.2⟩) ih
 |ag vs ds hl _ ih=>exact .ag vs ds hl ih
theorem nP.keep{S S':Nat->Nat->Prop}{w w':an8}(hS:∀b o,S b o->S' b o)(hc:∀b o,S b o->w'.cell? ⟨b,o,none⟩=w.cell? ⟨b,o,none⟩){u:an7}{x:fj}(h:nP S w u x):nP S' w' u x:=by
 induction h with
 |d h=>exact .d (h.keep hS hc)
 |bg c off b o u J h2=>exact .bg c off b o u (λj hj=>⟨hS _ _ (J j hj).1,(hc _ _ (J j hj).1).trans (J j hj).2⟩) (λj d hd=>(h2 j d hd).keep hS hc)
 |fn f vs cs hl _ ih=>exact .fn f vs cs hl ih
 |ni f vs cs hl _ ih=>exact .ni f vs cs hl ih
theorem aD.keep{G G':Gh}{w w':an8}(hE:bI G.N G w G' w')(hN:G.N<=G'.N){u:an7}{x:AV}(h:aD G w u x):aD G' w' u x:=by
 induction h with
 |d h=>exact .d (h.keep hE.S hE.cell)
 |agg vs cs hl _ ih=>exact .agg vs cs hl ih
 |aZ vs cs hl _ ih=>exact .aZ vs cs hl ih
 |ptr n off h=>rw[<-hE.aO n h];exact .ptr n off (anD h hN)
 |bg xs i off b o u x hx hS hu=>exact .bg xs i off b o u x hx (λj hj=>⟨hE.S _ _ (hS j hj).1,(hE.cell _ _ (hS j hj).1).trans (hS j hj).2⟩) (λj d hd=>(hu j d hd).keep hE.S hE.cell)
 |own n xs h hp hle hf=>
  refine .own n xs (anD h hN) (hp.keep hE.S hE.cell) ?_ ?_
  ·rcases hE.fr n h with⟨J,_⟩|J
   ·omega
   ·omega
  ·intro e;rcases hE.fr n h with⟨J,h2⟩|J
   ·rw[h2];exact hf (e.trans J)
   ·omega
 |full xs hp hf=>exact .full xs (hp.keep hE.S hE.cell) hf
 |row n off len cap k h hl hm=>rw[<-hE.aO n h];exact .row n off len cap k (anD h hN) hl hm
 |fn f vs cs hl _ ih=>exact .fn f vs cs hl ih
 |mp n h=>rw[<-hE.aO n h];exact .mp n (anD h hN)
 |cg n h=>rw[<-hE.aO n h];exact .cg n (anD h hN)
 |vec n o len L k h hs hL hf=>
  refine .vec n o len L k (anD h hN) hs ?_ ?_
  ·rcases hE.fr n h with⟨J,_⟩|J<;>omega
  ·intro e;rcases hE.fr n h with⟨J,h2⟩|J
   ·rw[h2];exact hf (e.trans J)
   ·omega
 |dp n i j L k h hs hL hf=>
  refine .dp n i j L k (anD h hN) hs ?_ ?_
  ·rcases hE.fr n h with⟨J,_⟩|J<;>omega
  ·intro e;rcases hE.fr n h with⟨J,h2⟩|J
   ·rw[h2];exact hf (e.trans J)
   ·omega
 |hid h J=>exact .hid (h.keep hE.S hE.cell) J
 |dead u=>exact .dead u
structure St where
 n:Nat
 t:List (Nat×AV)
 h:List ao
def bm:an3 (Nat×AV)->Nat->AV
 |[],_=> .dead
 |(k,x)::l,i=>bif i==k then x else bm l i
theorem kX(k:Nat)(x:AV)(l:an3 (Nat×AV))(i:Nat):bm ((k,x)::l) i=if i=k then x else bm l i:=by
 simp only[bm,cond_eq_ite,beq_iff_eq]
def fy(b:Bool)(p:Prop):Prop:=cond b p False
theorem bK{b:Bool}{p:Prop}:fy b p↔b=true/\p:=by cases b<;>simp [fy]
def cf(a b:Nat):Bool:=a-b==0
theorem c6{a b:Nat}:cf a b=true↔a<=b:=by simp [cf];omega
def Uj:IntKind->Nat
 | .i8=>0| .i16=>1| .i32=>2| .i64=>3| .u8=>4| .u16=>5| .u32=>6| .u64=>7
def wC(a b:IntKind):Bool:=Uj a==Uj b
theorem L0{a b:IntKind}:wC a b=true↔a=b:=by cases a<;>cases b<;>decide
def St.put(s:St)(dst:an5 Nat)(x:AV):St:=
 match dst with
 |none=>s
 |some d=>bif s.n-d==0 then s else{s with t:=(d,x)::s.t}
theorem qQ{s:St}{d:Nat}(h:d<s.n)(x:AV):s.put (some d) x={s with t:=(d,x)::s.t}:=by
 have:(s.n-d==0)=false:=by simp;omega
 simp only[St.put,this,cond_false]
theorem DF{s:St}{d:Nat}(h:¬d<s.n)(x:AV):s.put (some d) x=s:=by
 have:(s.n-d==0)=true:=by simp;omega
 simp only[St.put,this,cond_true]
def St.wh(s:St)(h:an3 ao):St:={s with h:=h}
def Mo:an7->AV
 | .agg vs=> .agg (vs.toList.map λu=> .d (.v u))
 | .tuple vs=> .aZ (vs.toList.map λu=> .d (.v u))
 |u=> .d (.v u)
def ev(s:St):Operand->AV
 | .tmp t=>bm s.t t
 | .const v=>Mo v
 | .func f=> .fn f []
 | .global g=>match Bc An g with
   |some l=> .bg [l.map .v] 0 0
   |none=> .dead
def AV.ky:AV->Bool
 | .d (.v u)=>u.oneCell'
 | .d (.sl _)| .ptr .. | .bg .. | .own .. | .full _| .row .. | .fn .. | .mp _| .cg _| .hid _| .vec .. | .dp .. =>true
 | .agg _| .aZ _| .dead| .d (.ag _)=>false
def AV.cells:AV->an3 AV
 | .agg cs=>cs
 |x=>[x]
def AV.jD:AV->Bool
 | .agg cs=>cs.all AV.ky
 |x=>x.ky
def D.um:D->D
 | .v (.slice none 0 0)=> .sl []
 |x=>x
def AV.wJ:AV->an5 D
 | .d x=>some x.um
 | .own _ xs=>some (.sl xs)
 | .full xs=>some (.sl xs)
 |_=>none
def AV.fE:AV->an5 (an3 (an3 D))
 | .d (.sl xs)=>some xs
 | .own _ xs=>some xs
 | .full xs=>some xs
 | .d (.v (.slice none 0 0))=>some []
 |_=>none
def AV.int?:AV->an5 Int
 | .d (.v (.int _ n))=>some n
 |_=>none
def fj.av:fj->AV
 | .d x=> .d x
 | .bg c off=> .bg [c] 0 off
 | .fn f cs=> .hid (.fn f cs)
 | .ni f cs=> .hid (.ni f cs)
def fj.app(as:an3 AV):fj->an5 (FuncId×an3 AV)
 | .fn g cs=>some (g,as++cs.map fj.av)
 | .ni g cs=>some (g,cs.map fj.av++as)
 |_=>none
mutual
def AV.cap:AV->an5 fj
 | .d x=>some (.d x)
 | .own _ xs=>some (.d (.sl xs))
 | .full xs=>some (.d (.sl xs))
 | .bg xs i off=>match xs[i]? with
   |some c=>some (.bg c off)
   |none=>none
 | .fn f cs=>match AV.w9 cs with
   |some l=>some (.fn f l)
   |none=>none
 | .hid c=>some c
 |_=>none
def AV.w9:an3 AV->an5 (an3 fj)
 |[]=>some []
 |x::l=>match x.cap,AV.w9 l with
  |some c,some l=>some (c::l)
  |_,_=>none
end
def No(f:FuncId)(first cT:an3 AV):an5 AV:=
 match first with
 |[]=>some (.fn f cT)
 |l=>match AV.w9 l,cT with
  |some cs,[]=>some (.hid (.ni f cs))
  |_,_=>none
def fW(P:an6)(t:TypeId):an5 Nat:=(P.info? t).map (·.size)
def mr(P:an6)(t:TypeId):an5 Bool:=(P.underlying t).map fun| .struct _=>true| .array .. =>true|_=>false
def sy(P:an6)(t:TypeId)(i:Nat):an5 (Nat×Nat×Bool):=
 match P.underlying t with
 |some (.struct fs)=>match fs[i]? with
  |some f=>match fW P f.type,mr P f.type with
   |some (k+1),some g=>some (f.offset,k+1,g)
   |_,_=>none
  |none=>none
 |_=>none
def eP(P:an6)(t:TypeId):an5 (TypeId×Nat):=
 match P.underlying t with
 |some (.slice e)=>(fW P e).map λk=>(e,k)
 |_=>none
def td(P:an6)(t:TypeId):an5 (Nat×TypeId×Nat):=
 match P.underlying t with
 |some (.array n e)=>(fW P e).map λk=>(n,e,k)
 |_=>none
def h1(P:an6)(t:TypeId):Bool:=match P.underlying t with|some .string=>true|_=>false
def Aq(P:an6)(t:TypeId):Bool:=match P.underlying t with|some .bool=>true|_=>false
def qZ(P:an6)(t:TypeId):an5 IntKind:=match P.underlying t with|some (.int k)=>some k|_=>none
def Fl(P:an6)(t:TypeId):Bool:=match P.underlying t with|some (.int .u8)=>true|_=>false
def iJ(P:an6)(t:TypeId):an5 an7:=(P.info? t).bind (·.zero)
def qw(P:an6)(t:TypeId):an5 Nat:=(P.info? t).map (·.bytes)
def Rn(op:BinOp)(k:IntKind)(a b:Int):an5 an7:=
 match op with
 | .add=>some (.int k (k.wrap (a+b)))
 | .sub=>some (.int k (k.wrap (a-b)))
 | .mul=>some (.int k (k.wrap (a*b)))
 | .eql=>some (.bool (a==b))
 | .neq=>some (.bool (a !=b))
 | .lss=>some (.bool (a<b))
 | .leq=>some (.bool (a<=b))
 | .gtr=>some (.bool (a>b))
 | .geq=>some (.bool (a>=b))
 | .and=>some (.int k (k.wrap (BitVec.ofInt k.bits a&&&BitVec.ofInt k.bits b).toNat))
 | .or=>some (.int k (k.wrap (BitVec.ofInt k.bits a|||BitVec.ofInt k.bits b).toNat))
 | .xor=>some (.int k (k.wrap (BitVec.ofInt k.bits a^^^BitVec.ofInt k.bits b).toNat))
 | .andNot=>some (.int k (k.wrap (BitVec.ofInt k.bits a&&& ~~~BitVec.ofInt k.bits b).toNat))
 |_=>none
def Qx(op:BinOp)(a b:an4):an5 an7:=
 match op with
 | .eql=>some (.bool (bL a==bL b))
 | .neq=>some (.bool (!(bL a==bL b)))
 | .lss=>some (.bool (Op.bytesLess (bL a) (bL b)))
 | .leq=>some (.bool (Op.bytesLess (bL a) (bL b)||bL a==bL b))
 | .gtr=>some (.bool (!(Op.bytesLess (bL a) (bL b)||bL a==bL b)))
 | .geq=>some (.bool (!Op.bytesLess (bL a) (bL b)))
 |_=>none
def LG(op:BinOp)(a b:Bool):an5 an7:=
 match op with
 | .eql=>some (.bool (a==b))
 | .neq=>some (.bool (!(a==b)))
 |_=>none
def Me(op:BinOp)(k:IntKind)(a b:Int):an5 an7:=
 match op with
 | .quo=>some (.int k (k.wrap (a.tdiv b)))
 | .rem=>some (.int k (a.tmod b))
 |_=>none
def P9(op:BinOp)(k:IntKind)(a b:Int):an5 an7:=
 match op with
 | .shl=>some (.int k (k.wrap (a*2^(min b.toNat k.bits))))
 | .shr=>some (.int k (a.fdiv (2^(min b.toNat k.bits))))
 |_=>none
def Iv(op:UnOp)(x:an7):an5 an7:=
 match op,x with
 | .not, .bool b=>some (.bool (!b))
 | .neg, .int k n=>some (.int k (k.wrap (0-n)))
 | .xor, .int k n=>some (.int k (k.wrap (BitVec.ofInt k.bits (if k.signed then-1 else k.max)^^^BitVec.ofInt k.bits n).toNat))
 |_,_=>none
def iP(cs:an3 AV)(off:Nat)(ys:an3 AV):an3 AV:=cs.take off++ys++cs.drop (off+ys.length)
def nR(k:Nat):Nat->an3 D->an3 (an3 D)
 |0,_=>[]
 |n+1,l=>l.take k::nR k n (l.drop k)
def pK(places:an3 (Nat×Nat)):an3 AV->an3 (Nat×AV)->an5 (an3 AV)
 |cs,[]=>some cs
 |cs,(i,x)::r=>
  match places[i]? with
  |some (off,k)=>bif x.cells.length==k&&cf (off+k) cs.length then pK places (iP cs off x.cells) r else none
  |none=>none
def mV:an3 AV->an5 (an3 D)
 |[]=>some []
 |x::r=>match x.wJ,mV r with
  |some d,some l=>some (d::l)
  |_,_=>none
def E7(P:an6)(fs:an3 Field):an5 (an3 (Nat×Nat)):=fs.mapM λf=>(fW P f.type).map λk=>(f.offset,k)
def Ko(P:an6)(f:FuncId):Bool:=
 match P.funcs[f]? with
 |some fn=>fn.body.isSome&& !(fn.name== "runtime.NumGoroutine")
 |none=>false
def cF(P:an6)(f:FuncId)(args:an3 AV)(h:an3 ao)(K:AV->an3 ao->Prop):Prop:=
 Ko P f=true/\∀(G:Gh)(w:an8)(vs:Array an7),bJ G w h->vs.size=args.length->(∀(i:Nat)(u:an7)(c:AV),vs[i]?=some u->args[i]?=some c->aD G w u c)->
  Calls P f vs w λe w'=>∃v G' r h',e= .returned v/\bI G.N G w G' w'/\G.N<=G'.N/\bJ G' w' h'/\aD G' w' v r/\K r h'
theorem cF.mono{P:an6}{f:FuncId}{args:an3 AV}{h:an3 ao}{K K':AV->an3 ao->Prop}(hc:cF P f args h K)(hk:∀r h',K r h'->K' r h'):cF P f args h K':=
 ⟨hc.1,λG w vs hi hl hr=>(hc.2 G w vs hi hl hr).mono λ_ _ ⟨v,G',r,h',e,x1,x2,x3,x4,x5⟩=>⟨v,G',r,h',e,x1,x2,x3,x4,hk _ _ x5⟩⟩
def sq(h:an3 ao)(p:AV)(K:an3 AV->Nat->Prop):Prop:=
 match p with
 | .ptr n off=>match h[n]? with
   |some (.cells cs)=>K cs off
   |_=>False
 | .bg xs i off=>match xs[i]? with
   |some cs=>K (cs.map .d) off
   |none=>False
 |_=>False
def n8(P:an6)(t:TypeId)(h:an3 ao)(p:AV)(K:AV->Prop):Prop:=
 sq h p λcs off=>match mr P t,fW P t with
  |some true,some k=>fy (cf (off+k) cs.length) (K (.agg ((cs.drop off).take k)))
  |some false,some _=>match cs[off]? with
   |some c=>K c
   |none=>False
  |_,_=>False
def vJ(P:an6)(t:TypeId)(h:an3 ao)(p x:AV)(K:an3 ao->Prop):Prop:=
 match p with
 | .ptr n off=>match h[n]? with
   |some (.cells cs)=>match fW P t with
    |some k=>fy (k==x.cells.length&&x.jD&&cf (off+x.cells.length) cs.length) (K (h.set n (.cells (iP cs off x.cells))))
    |none=>False
   |_=>False
 |_=>False
def sb(P:an6)(T:TypeId)(x i:AV)(K:AV->Prop):Prop:=
 match eP P T with
 |some (_,k)=>
  match x with
  | .row n off len _ k'=>match i.int? with
    |some z=>fy (k'==k) (0<=z/\z<len/\K (.ptr n (off+z.toNat*k)))
    |none=>False
  |_=>match x.fE,i.int? with
   |some xs,some z=>0<=z/\(match xs[z.toNat]? with|some c=>c.length=k/\K (.bg [c] 0 0)|none=>False)
   |_,_=>False
 |none=>match td P T,x,i.int? with
  |some (n,_,k), .ptr b off,some z=>0<=z/\z<n/\K (.ptr b (off+z.toNat*k))
  |some (n,_,k), .bg xs i off,some z=>fy (k==1) (0<=z/\z<n/\(match xs[i]? with|some c=>(match c[off+z.toNat]? with|some d=>K (.bg [[d]] 0 0)|none=>False)|none=>False))
  |_,_,_=>False
def rI(P:an6)(T:TypeId)(x:AV)(K:Nat->Prop):Prop:=
 match x with
 | .d (.v (.string s))=>fy (h1 P T) (K s.size)
 | .row _ _ len _ _=>fy (eP P T).isSome (K len)
 |x=>match x.fE with
  |some xs=>fy (eP P T).isSome (K xs.length)
  |none=>False
def jT(ρ:Operand->AV)(x:an5 Operand)(aiR:Nat)(K:Nat->Prop):Prop:=
 match x with
 |none=>K aiR
 |some y=>match (ρ y).int? with
  |some z=>0<=z/\K z.toNat
  |none=>False
def tw(P:an6)(T:TypeId)(ρ:Operand->AV)(x:AV)(lo hi mx:an5 Operand)(K:AV->Prop):Prop:=
 match mx with
 |none=>
  match x with
  | .d (.v (.string b))=>fy (h1 P T) (jT ρ hi b.size λh=>h<=b.size/\jT ρ lo 0 λl=>l<=h/\K (.d (.v (.string (b.extract l h)))))
  | .ptr n off=>match td P T with
    |some (m,_,k)=>fy (cf m 4096) (jT ρ hi m λh=>fy (cf h m) (jT ρ lo 0 λl=>fy (cf l h&& !cf m l) (K (.row n (off+l*k) (h-l) (m-l) k))))
    |none=>False
  |x=>match x.fE,eP P T with
   |some xs,some (_,k)=>(∀c∈xs,c.length=k)/\jT ρ hi xs.length λh=>h<=xs.length/\jT ρ lo 0 λl=>l<=h/\K (.d (.sl ((xs.take h).drop l)))
   |_,_=>False
 |some m=>match lo,hi with
  |none,some y=>match x.fE,eP P T with
   |some xs,some (_,k)=>(∀c∈xs,c.length=k)/\jT ρ (some m) 0 λc=>c<=xs.length/\jT ρ (some y) 0 λh=>h=c/\K (.full (xs.take h))
   |_,_=>False
  |_,_=>False
def vf(h:an3 ao)(k:Nat)(x:AV)(K:an3 (an3 D)->Prop):Prop:=
 match x with
 | .row n off len _ k'=>match h[n]? with
   |some (.cells cs)=>match mV ((cs.drop off).take (len*k))with
    |some ds=>fy (k'==k&&cf (off+len*k) cs.length&&((cs.drop off).take (len*k)).all AV.ky) (K (nR k len ds))
    |none=>False
   |_=>False
 |x=>match x.fE with
  |some ys=>(∀c∈ys,c.length=k)/\K ys
  |none=>False
def tU(P:an6)(T:TypeId)(h:an3 ao)(x y:AV)(K:AV->an3 ao->Prop):Prop:=
 match eP P T with
 |some (e,k)=>match iJ P e,qw P e with
  |some z,some cN=>fy (cf 1 k&&z.cells.toList.length==k)<|vf h k y λys=>
   match x with
   | .own n xs=>match h[n]? with
     |some (.front e' k' len)=>fy (e'==e&&k'==k)<|len=xs.length/\(∀c∈xs,c.length=k)/\xs.length+ys.length<=maxLen/\(xs.length+ys.length)*cN<=140737488355328/\K (.own n (xs++ys)) (h.set n (.front e k (xs.length+ys.length)))
     |_=>False
   | .d (.v (.slice none 0 0))=>ys.length<=maxLen/\ys.length*cN<=140737488355328/\K (.own h.length ys) (h++[.front e k ys.length])
   | .full xs=>(∀c∈xs,c.length=k)/\xs.length+ys.length<=maxLen/\(xs.length+ys.length)*cN<=140737488355328/\K (.own h.length (xs++ys)) (h++[.front e k (xs.length+ys.length)])
   |_=>False
  |_,_=>False
 |none=>False
def OQ(P:an6)(T:TypeId):an5 (an3 (Nat×Nat)):=
 match P.underlying T with
 |some (.struct fs)=>E7 P fs.toList
 |_=>none
def wL(P:an6)(T:TypeId)(ps:an3 (Nat×AV))(K:AV->Prop):Prop:=
 match OQ P T,iJ P T with
 |some places,some z=>match pK places (z.cells.toList.map λu=> .d (.v u)) ps with
  |some cs=>fy ((ps.all λp=>p.2.jD)&&z.cells.toList.all Value.oneCell') (K (.agg cs))
  |none=>False
 |_,_=>False
def ux(k:Nat):Nat->Nat->an3 (Nat×Nat)
 |_,0=>[]
 |o,n+1=>(o,k)::ux k (o+k) n
def sB:Nat->an3 AV->an3 AV
 |0,_=>[]
 |n+1,l=>l++sB n l
def w7(P:an6)(T:TypeId)(len:Nat)(ps:an3 (Nat×AV))(K:AV->Prop):Prop:=
 match eP P T with
 |some (e,k)=>match iJ P e with
  |some z=>match pK (ux k 0 len) (sB len (z.cells.toList.map λu=> .d (.v u))) ps with
   |some cs=>match mV cs with
    |some ds=>fy (cf 1 k&&cf (len*k) 16777216&&z.cells.toList.length==k&&z.cells.toList.all Value.oneCell'&&(ps.all λp=>p.2.jD)) (K (.full (nR k len ds)))
    |none=>False
   |none=>False
  |none=>False
 |none=>False
def D9(P:an6)(t:TypeId)(x y:AV):an5 Bool:=
 match x,y with
 | .d (.v (.int k a)), .d (.v (.int k' b))=>bif wC k k'&&(qZ P t).isSome then some (a==b)else none
 | .d (.v (.string a)), .d (.v (.string b))=>bif h1 P t then some (bL a==bL b)else none
 | .d (.v (.bool a)), .d (.v (.bool b))=>bif Aq P t then some (a==b)else none
 |_,_=>none
def zQ(P:an6)(sub:TypeId->an3 AV->an3 AV->an5 Bool):an3 Field->an3 AV->an3 AV->an5 Bool
 |[],_,_=>some true
 |f::fs,xs,ys=>bif f.name== "_" then none else
  match mr P f.type with
  |some false=>match xs[f.offset]?,ys[f.offset]? with
   |some x,some y=>match D9 P f.type x y,zQ P sub fs xs ys with
    |some a,some b=>some (a&&b)
    |_,_=>none
   |_,_=>none
  |some true=>match fW P f.type with
   |some k=>bif cf (f.offset+k) xs.length&&cf (f.offset+k) ys.length then match sub f.type ((xs.drop f.offset).take k) ((ys.drop f.offset).take k),zQ P sub fs xs ys with
    |some a,some b=>some (a&&b)
    |_,_=>none
    else none
   |none=>none
  |none=>none
def HT(P:an6):Nat->TypeId->an3 AV->an3 AV->an5 Bool
 |0=>λ_ _ _=>none
 |d+1=>λT xs ys=>match P.underlying T with
  |some (.struct fs)=>bif P.stoodInHeld T then none else zQ P (HT P d) fs.toList xs ys
  |_=>none
def Jw(P:an6)(T:TypeId)(xs ys:an3 AV):an5 Bool:=
 match P.underlying T with
 |some (.struct fs)=>bif P.stoodInHeld T||P.eqGuardType P.depth T then none else zQ P (HT P 4) fs.toList xs ys
 |_=>none
def xJ(op:BinOp)(b:Bool):an5 an7:=
 match op with
 | .eql=>some (.bool b)
 | .neq=>some (.bool (!b))
 |_=>none
def wU(P:an6)(T:TypeId)(op:BinOp)(x y:AV)(K:AV->Prop):Prop:=
 match x,y with
 | .d (.v (.int k a)), .d (.v (.int k' b))=>
   match Me op k a b with
   |some v=>fy (wC k k') (b≠0/\K (.d (.v v)))
   |none=>match P9 op k a b with
    |some v=>0<=b/\K (.d (.v v))
    |none=>match Rn op k a b with
     |some v=>fy (wC k k') (K (.d (.v v)))
     |none=>False
 | .d (.v (.string a)), .d (.v (.string b))=>match Qx op a b with
   |some v=>K (.d (.v v))
   |none=>match op with
    | .add=>a.size+b.size<=maxLen/\K (.d (.v (.string (a++b))))
    |_=>False
 | .d (.v (.bool a)), .d (.v (.bool b))=>match LG op a b with
   |some v=>fy (Aq P T) (K (.d (.v v)))
   |none=>False
 | .agg xs, .agg ys=>match Jw P T xs ys with
   |some b=>match xJ op b with
    |some v=>K (.d (.v v))
    |none=>False
   |none=>False
 |_,_=>False
def vN(op:UnOp)(x:AV)(K:AV->Prop):Prop:=
 match x with
 | .d (.v u)=>match Iv op u with
   |some v=>K (.d (.v v))
   |none=>False
 |_=>False
def xn(P:an6)(src dst:TypeId)(x:AV)(K:AV->Prop):Prop:=
 match x with
 | .d (.v (.int _ n))=>match qZ P src,qZ P dst with
   |some _,some k=>K (.d (.v (.int k (k.wrap n))))
   |_,_=>False
 | .d (.v (.string b))=>fy (h1 P src&&h1 P dst) (K (.d (.v (.string b))))
 |x=>match x.fE,eP P src with
  |some xs,some (e,_)=>fy (Fl P e&&h1 P dst) (∃ns:an3 Int,xs=ns.map (λn=>[.v (.int .u8 n)])/\K (.d (.v (.string ⟨(ns.map λn=>UInt8.ofNat n.toNat).toArray⟩))))
  |_,_=>False
def vS(P:an6)(T:TypeId)(x:AV)(f:Nat)(K:AV->Prop):Prop:=
 match sy P T f,x with
 |some (off,k,true), .agg cs=>fy (cf (off+k) cs.length) (K (.agg ((cs.drop off).take k)))
 |some (off,_,false), .agg cs=>match cs[off]? with
  |some c=>K c
  |none=>False
 |_,_=>False
def tG(P:an6)(T:TypeId):an5 (TypeId×TypeId):=
 match P.underlying T with
 |some (.map k e)=>some (k,e)
 |_=>none
inductive Sd
 |no
 |lt (n:Nat)
def Sd.ok:Sd->Prop
 | .no=>True
 | .lt n=>n<maxLen
def Ge:D->AV
 | .ag ds=> .agg (ds.map .d)
 |d=> .d d
def AJ:an7->AV
 | .agg vs=> .agg (vs.toList.map λv=> .d (D.um (.v v)))
 |v=> .d (.v v)
def ry(Xr:Bool)(z:an7):an5 D->AV
 |some d=>bif Xr then .aZ [Ge d, .d (.v (.bool true))]else Ge d
 |none=>bif Xr then .aZ [AJ z, .d (.v (.bool false))]else AJ z
def AV.Pv:AV->an5 D
 | .agg cs=>(mV cs).map .ag
 |x=>x.wJ
def pD(P:an6)(op:Op)(ρ:Operand->AV)(h:an3 ao):an5 (AV×an3 ao×Sd):=
 match op with
 | .makeMap T none=>match tG P T with
   |some _=>some (.mp h.length,h++[.map []], .no)
   |none=>none
 | .lookup T m i ok=>match tG P T with
   |some (k,e)=>match iJ P e with
    |some z=>match ρ m,ρ i with
     | .mp n, .d (.v (.string s))=>match h[n]? with
       |some (.map kv)=>bif h1 P k then some (ry ok z (la kv s),h, .no)else none
       |_=>none
     |_,_=>none
    |none=>none
   |none=>none
 | .mapUpdate T m i x=>match tG P T with
   |some (k,_)=>match ρ m,ρ i,(ρ x).Pv with
    | .mp n, .d (.v (.string s)),some d=>match h[n]? with
      |some (.map kv)=>bif h1 P k then some (.d (.v undef),h.set n (.map ((s,d)::kv)), .lt kv.length)else none
      |_=>none
    |_,_,_=>none
   |none=>none
 |_=>none
inductive VA
 |no
 |el (c:List AV)
 |st (c:List AV) (cs:List (List AV))
 |mk (cs:List (List AV)) (len m:Nat)
 |ap (cs ys:List (List AV)) (L len:Nat)
 |ix (i:Nat)
 |ol (o len:Nat)
def PX(P:an6)(t:TypeId)(c:an3 AV)(j:Nat):an5 AV:=
 match mr P t,fW P t with
 |some true,some k=>bif cf (j+k) c.length then some (.agg ((c.drop j).take k))else none
 |some false,some _=>c[j]?
 |_,_=>none
def bU(xs:an3 (an3 D)):an3 (an3 AV):=xs.map λc=>c.map AV.d
def zh(h:an3 ao)(k:Nat)(y:AV)(ys:an3 (an3 AV)):Prop:=
 (∃xs,y.fE=some xs/\(∀c∈xs,c.length=k)/\ys=bU xs)\/(∃n o len L e cs,y= .vec n o len L k/\h[n]?=some (.vec e k cs)/\cs.length=L/\ys=(cs.drop o).take len/\∀c∈ys,c.all AV.ky=true)
def ub(ρ:Operand->AV)(d:Int):an5 Operand->an5 Int
 |none=>some d
 |some y=>(ρ y).int?
def ij(P:an6)(op:Op)(ρ:Operand->AV)(h:an3 ao)(a:VA):an5 (AV×an3 ao×Prop):=
 match op with
 | .indexAddr T x i=>match ρ x,(ρ i).int?,eP P T,a with
   | .vec n o len L k,some z,some (_,k'), .ix i'=>match h[n]? with
     |some (.vec _ k2 cs)=>bif k'==k&&k2==k then some (.dp n i' 0 L k,h,cs.length=L/\0<=z/\z<len/\i'=o+z.toNat)else none
     |_=>none
   |_,_,_,_=>none
 | .fieldAddr S x f=>match ρ x,sy P S f with
   | .dp n i j L k,some (fo,_,_)=>some (.dp n i (j+fo) L k,h,True)
   |_,_=>none
 | .nilCheck x=>match ρ x with
   | .dp n i j L k=>some (.dp n i j L k,h,True)
   |_=>none
 | .load t p=>match ρ p,a with
   | .dp n i j L k, .el c=>match h[n]?,PX P t c j with
     |some (.vec _ k' cs),some x=>bif k'==k then some (x,h,cs.length=L/\cs[i]?=some c)else none
     |_,_=>none
   |_,_=>none
 | .store t p x=>match ρ p,a with
   | .dp n i j L k, .st c cw=>match h[n]?,fW P t with
     |some (.vec e k' cs),some q=>bif k'==k&&q==(ρ x).cells.length&&(ρ x).jD&&cf (j+(ρ x).cells.length) k&&cf 1 k then some (.d (.v undef),h.set n (.vec e k cw),cs.length=L/\cs[i]?=some c/\cw=cs.set i (iP c j (ρ x).cells))else none
     |_,_=>none
   |_,_=>none
 | .slice T x lo hi none=>match ρ x,eP P T,a with
   | .vec n o len L k,some (_,k'), .ol o' gP=>match ub ρ 0 lo,ub ρ len hi with
     |some l,some u=>match h[n]? with
      |some (.vec _ k2 cs)=>bif k'==k&&k2==k then some (.vec n o' gP L k,h,cs.length=L/\0<=l/\l<=u/\u<=(L:Int)-o/\o'=o+l.toNat/\gP=u.toNat-l.toNat)else none
      |_=>none
     |_,_=>none
   |_,_,_=>none
 | .makeSlice T l c=>match eP P T,(ρ l).int?,(ρ c).int?,a with
   |some (e,k),some l,some c, .mk cs len m=>match iJ P e,qw P e with
    |some z,some cN=>bif cf 1 k&&z.cells.toList.length==k&&z.cells.toList.all Value.oneCell' then some (.vec h.length 0 len m k,h++[.vec e k cs],0<=l/\l<=c/\l.toNat=len/\c.toNat=m/\cs=List.replicate m (z.cells.toList.map λu=> .d (.v u))/\m<=maxLen/\cN*m<=281474976710656)else none
    |_,_=>none
   |_,_,_,_=>none
 | .call c=>match c.callee with
   | .builtin .len=>match c.args.toList,c.argTypes.toList with
     |[x],[T]=>match ρ x with
      | .vec n _ len L k=>match h[n]? with
        |some (.vec _ k2 cs)=>bif (eP P T).isSome&&k2==k then some (.d (.v (.int .i64 len)),h,cs.length=L)else none
        |_=>none
      |_=>none
     |_,_=>none
   | .builtin .append=>match c.args.toList,c.argTypes.toList with
     |[x,y],[T,U]=>match eP P T,eP P U,a with
      |some (e,k),some _, .ap cw ys L' gP=>match iJ P e,qw P e with
       |some z,some cN=>bif cf 1 k&&z.cells.toList.length==k then
        match ρ x with
        | .vec n o len L k1=>match h[n]? with
          |some (.vec e1 k2 cs)=>bif k1==k&&k2==k&&e1==e then some (.vec n o gP L' k,h.set n (.vec e k cw),cs.length=L/\zh h k (ρ y) ys/\gP=len+ys.length/\
           ((o+len+ys.length<=L/\L'=L/\cw=cs.take (o+len)++ys++cs.drop (o+len+ys.length))\/(o=0/\len=L/\L'=L+ys.length/\cw=cs++ys/\L'<=maxLen/\L'*cN<=140737488355328)))else none
          |_=>none
        | .d (.v (.slice none 0 0))=>some (.vec h.length 0 gP L' k,h++[.vec e k cw],zh h k (ρ y) ys/\cw=ys/\gP=ys.length/\L'=ys.length/\L'<=maxLen/\L'*cN<=140737488355328)
        | .full xs=>some (.vec h.length 0 gP L' k,h++[.vec e k cw],xs=[]/\zh h k (ρ y) ys/\cw=ys/\gP=ys.length/\L'=ys.length/\L'<=maxLen/\L'*cN<=140737488355328)
        |_=>none
       else none
       |_,_=>none
      |_,_,_=>none
     |_,_=>none
   |_=>none
 |_=>none
def JX(mx:Bool)(k:IntKind):Int->an3 AV->an5 (IntKind×Int)
 |a,[]=>some (k,a)
 |a, .d (.v (.int _ b))::l=>JX mx k (bif mx then(if b>a then b else a)else(if b<a then b else a)) l
 |_,_=>none
def BD(mx:Bool):an3 AV->an5 (IntKind×Int)
 | .d (.v (.int k a))::l=>JX mx k a l
 |_=>none
def cD(P:an6)(o:Oper)(ρ:Operand->AV)(h:an3 ao)(C:AV->an3 ao->Prop):Prop:=
 match o.op with
 | .move x| .assign x=>C (ρ x) h
 | .pick c a b=>match ρ c with
   | .d (.v (.bool t))=>(t=true->C (ρ a) h)/\(t=false->C (ρ b) h)
   |_=>False
 | .alloc e=>match iJ P e with
   |some z=>C (.ptr h.length 0) (h++[ao.cells (z.cells.toList.map λu=> .d (.v u))])
   |none=>False
 | .box _ x=>fy (ρ x).jD<|C (.ptr h.length 0) (h++[ao.cells (ρ x).cells])
 | .load t a=>n8 P t h (ρ a) λx=>C x h
 | .store t a x=>vJ P t h (ρ a) (ρ x) λh'=>C (.d (.v undef)) h'
 | .nilCheck x=>match ρ x with
   | .ptr n off=>C (.ptr n off) h
   | .bg xs i off=>C (.bg xs i off) h
   | .fn f cs=>C (.fn f cs) h
   |_=>False
 | .fieldAddr S x f=>match sy P S f with
   |some (fo,_,_)=>match ρ x with
    | .ptr n off=>C (.ptr n (off+fo)) h
    | .bg xs i off=>C (.bg xs i (off+fo)) h
    |_=>False
   |none=>False
 | .field T x f=>vS P T (ρ x) f λy=>C y h
 | .indexAddr T x i=>sb P T (ρ x) (ρ i) λy=>C y h
 | .index T x i=>match ρ x,(ρ i).int? with
   | .d (.v (.string b)),some z=>fy (h1 P T) (0<=z/\(match b[z.toNat]? with|some c=>C (.d (.v (.int .u8 c.toNat))) h|none=>False))
   |_,_=>False
 | .build T ps=>wL P T (ps.toList.map λp=>(p.1,ρ p.2)) λy=>C y h
 | .buildSlice T len ps=>w7 P T len (ps.toList.map λp=>(p.1,ρ p.2)) λy=>C y h
 | .slice T x lo hi mx=>tw P T ρ (ρ x) lo hi mx λy=>C y h
 | .extract x i=>match ρ x with
   | .aZ cs=>match cs[i]? with
     |some c=>C c h
     |none=>False
   |_=>False
 | .makeFunc (.func f) first cT=>match No f (first.toList.map ρ) (cT.toList.map ρ)with
   |some x=>C x h
   |none=>False
 | .binOp op T x y _=>wU P T op (ρ x) (ρ y) λv=>C v h
 | .unOp op _ x=>vN op (ρ x) λv=>C v h
 | .convert a b x=>xn P a b (ρ x) λv=>C v h
 | .call c=>match c.callee with
   | .builtin .len=>match c.args.toList,c.argTypes.toList with
     |[x],[T]=>rI P T (ρ x) λn=>C (.d (.v (.int .i64 n))) h
     |_,_=>False
   | .builtin .append=>match c.args.toList,c.argTypes.toList with
     |[x,y],[T,U]=>fy (eP P U).isSome<|tU P T h (ρ x) (ρ y) λv h'=>C v h'
     |_,_=>False
   | .builtin .max=>match BD true (c.args.toList.map ρ)with
     |some (k,a)=>C (.d (.v (.int k a))) h
     |none=>False
   | .builtin .min=>match BD false (c.args.toList.map ρ)with
     |some (k,a)=>C (.d (.v (.int k a))) h
     |none=>False
   | .value f=>match ρ f with
     | .fn g cT=>cF P g (c.args.toList.map ρ++cT) h λr h'=>C r h'
     | .hid q=>∃g as,q.app (c.args.toList.map ρ)=some (g,as)/\cF P g as h λr h'=>C r h'
     |_=>False
   |_=>False
 |op=>match pD P op ρ h with
  |some (x,h',p)=>p.ok/\C x h'
  |none=>False
def CP(P:an6)(o:Oper)(K:St->Prop)(s:St):Prop:=
 match o.op with
 | .binOp op T x y _=>match (ev s x).fE,ev s y,eP P T,xJ op true,xJ op false with
   |some xs, .d (.v (.slice none 0 0)),some _,some v1,some v2=>(xs=[]->K (s.put o.dst (.d (.v v1))))/\K (s.put o.dst (.d (.v v2)))
   |_,_,_,_,_=>False
 |_=>False
def Jz(P:an6)(o:Oper)(K:St->Prop)(s:St):Prop:=∃a x h' p,ij P o.op (ev s) s.h a=some (x,h',p)/\p/\K ((s.wh h').put o.dst x)
def qB(P:an6)(o:Oper)(K:St->Prop)(s:St):Prop:=cD P o (ev s) s.h λx h=>K ((s.wh h).put o.dst x)
def aj6(P:an6)(o:Oper)(K:St->Prop)(s:St):Prop:=Jz P o K s\/CP P o K s\/qB P o K s
theorem lL(b o n:Nat):(⟨b,o,none⟩:Addr).add n=⟨b,o+n,none⟩:=by unfold Addr.add;split<;>simp_all
structure cJ(G:Gh)(w:World)(a:Act)(s:St):Prop where
 size:a.tmps.size=s.n
 tmp:∀i,aD G w (a.tmps.getD i undef) (bm s.t i)
 inv:bJ G w s.h
 df:rz G w a.defers
theorem nP.av{G:Gh}{w:an8}{u:an7}{c:fj}(h:nP G.S w u c):aD G w u c.av:=by
 cases h with
 |d h=>exact .d h
 |bg c off b o u J h2=>exact .bg [c] 0 off b o u c rfl J h2
 |fn f vs cs hl h=>exact .hid (.fn f vs cs hl h) rfl
 |ni f vs cs hl h=>exact .hid (.ni f vs cs hl h) rfl
theorem aD.ky{G:Gh}{w:an8}{u:an7}{x:AV}(h:aD G w u x)(hb:x.ky=true):u.oneCell'=true:=by
 cases h with
 |d hp=>cases hp with
  |v u=>exact hb
  |sl=>rfl
  |ag=>simp [AV.ky]at hb
 |agg=>simp [AV.ky]at hb
 |aZ=>simp [AV.ky]at hb
 |own n xs _ hp=>cases hp;rfl
 |vec n o len L k _ hs=>obtain⟨A,l,c,rfl⟩:=hs;rfl
 |dp n i j L k _ hs=>obtain⟨b,q,rfl⟩:=hs;rfl
 |full xs hp=>cases hp;rfl
 |hid h J=>exact J
 |dead=>simp [AV.ky]at hb
 |_=>rfl
theorem aD.cells{G:Gh}{w:an8}{u:an7}{x:AV}(h:aD G w u x)(hb:x.jD=true):
 u.cells.size=x.cells.length/\∀(i:Nat)(v:an7)(c:AV),u.cells[i]?=some v->x.cells[i]?=some c->aD G w v c/\v.oneCell'=true:=by
 have one:x.ky=true->x.cells=[x]->u.cells.size=x.cells.length/\∀(i:Nat)(v:an7)(c:AV),u.cells[i]?=some v->x.cells[i]?=some c->aD G w v c/\v.oneCell'=true:=by
  intro hc hx;have ho:=h.ky hc;have hu:u.cells= #[u]:=by cases u<;>simp_all [Value.cells,Value.oneCell']
  rw[hu,hx];refine⟨rfl,λi v c J h2=> ?_⟩
  match i with
  |0=>simp at J h2;subst J;subst h2;exact⟨h,ho⟩
  |i+1=>simp at h2
 cases x with
 |agg cs=>
  cases h with
  |agg vs cs hl hr=>
   refine⟨hl,λi v c J h2=> ?_⟩;have hv:=hr i v c J h2;refine⟨hv,hv.ky ?_⟩;simp only[AV.jD,anF]at hb;exact hb c (anr h2)
 |aZ cs=>simp [AV.jD,AV.ky]at hb
 |dead=>simp [AV.jD,AV.ky]at hb
 |_=>exact one hb rfl
theorem bJ.lt{G:Gh}{w:an8}{h:an3 ao}(hi:bJ G w h){n:Nat}{B:ao}(hb:h[n]?=some B):n<G.N:=by
 rw[<-hi.len];exact(ane.1 hb).1
theorem bJ.gX{G:Gh}{w:an8}{h:an3 ao}(hi:bJ G w h){n b:Nat}(hb:bH h G n=some b):b<w.heap.size:=by
 obtain⟨B,hB,hb⟩:=ng hb;have hr:=hi.cV n B hB;cases B with
 |gone=>cases hb
 |cells cs=>
  obtain⟨_,_,vs,T,hh,_⟩:=hr;cases hb
  exact(ant.1 hh).1
 |lp ls p as bd cs=>
  obtain⟨_,_,fn,vs,T,hh,_⟩:=hr;cases hb
  exact(ant.1 hh).1
 |it sn cs=>
  obtain⟨_,_,fn,vs,T,hh,_⟩:=hr;cases hb
  exact(ant.1 hh).1
 |eG T0 cs=>
  obtain⟨_,_,fn,vs,T,hh,_⟩:=hr;cases hb
  exact(ant.1 hh).1
 |map kv=>
  obtain⟨_,_,es,c,hh,_⟩:=hr;cases hb
  exact(ant.1 hh).1
 |iy kv=>
  obtain⟨_,_,es,c,hh,_⟩:=hr;cases hb
  exact(ant.1 hh).1
 |front e k len=>
  have hb:G.ow n=some b:=hb;obtain⟨_,_,J|⟨g,cap,cur,J,_,_,hh,_⟩⟩:=hr
  ·rw[J.1]at hb;cases hb
  ·rw[J]at hb;cases hb;exact(ant.1 hh).1
 |ig e b2=>
  have hb:G.ow n=some b:=hb;obtain⟨_,_,J|⟨g,cap,cur,J,_,_,hh,_⟩⟩:=hr
  ·rw[J.1]at hb;cases hb
  ·rw[J]at hb;cases hb;exact(ant.1 hh).1
 |vec e k cs=>
  have hb:G.ow n=some b:=hb;obtain⟨_,_,_,J|⟨g,cap,cur,J,_,_,hh,_⟩⟩:=hr
  ·rw[J.1]at hb;cases hb
  ·rw[J]at hb;cases hb;exact(ant.1 hh).1
theorem dP.lf{G:Gh}{w:an8}{n b:Nat}{B:ao}(hr:dP G w n B)(hb:B.dL G n=some b):¬G.Z b:=by
 cases B with
 |gone=>cases hb
 |cells cs=>cases hb;exact hr.1
 |lp ls p as bd cs=>cases hb;exact hr.1
 |it sn cs=>cases hb;exact hr.1
 |eG T0 cs=>cases hb;exact hr.1
 |map kv=>cases hb;exact hr.1
 |iy kv=>cases hb;exact hr.1
 |front e k len=>
  have hb:G.ow n=some b:=hb;obtain⟨_,_,J|⟨g,cap,cur,J,_,hz,_⟩⟩:=hr
  ·rw[J.1]at hb;cases hb
  ·rw[J]at hb;cases hb;exact hz
 |ig e b2=>
  have hb:G.ow n=some b:=hb;obtain⟨_,_,J|⟨g,cap,cur,J,_,hz,_⟩⟩:=hr
  ·rw[J.1]at hb;cases hb
  ·rw[J]at hb;cases hb;exact hz
 |vec e k cs=>
  have hb:G.ow n=some b:=hb;obtain⟨_,_,_,J|⟨g,cap,cur,J,_,hz,_⟩⟩:=hr
  ·rw[J.1]at hb;cases hb
  ·rw[J]at hb;cases hb;exact hz
theorem tD.keep{S S':Nat->Nat->Prop}{w w':an8}{es:Array MapEntry}{c:Nat}{kv:an3 (an4×D)}(h:tD S w es c kv)(hS:∀b o,S b o->S' b o)(hc:∀b o,S b o->w'.cell? ⟨b,o,none⟩=w.cell? ⟨b,o,none⟩):tD S' w' es c kv:=
 ⟨h.size,h.stamped,λe he=>let ⟨s,d,J,h2,h3⟩:=h.AL e he;⟨s,d,J,h2,h3.keep hS hc⟩,h.all,h.len,h.born,h.BJ⟩
theorem xG.keep{S S':Nat->Nat->Prop}{w w':an8}{es:Array MapEntry}{c:Nat}{kv:an3 (an4×D)}(h:xG S w es c kv)(hS:∀b o,S b o->S' b o)(hc:∀b o,S b o->w'.cell? ⟨b,o,none⟩=w.cell? ⟨b,o,none⟩):xG S' w' es c kv:=
 ⟨h.ok.keep hS hc,λi e he=>let ⟨p,J,h2,h3⟩:=h.ord i e he;⟨p,J,h2,h3.keep hS hc⟩,h.all⟩
theorem dP.keep{G G':Gh}{w w':an8}{n:Nat}(hn:n<G.N)(hE:bI G.N G w G' w')(hN:G.N<=G'.N){B:ao}
 (hg:G'.fl n=G.fl n/\G'.sg n=G.sg n/\G'.ow n=G.ow n)
 (ho:∀b,B.dL G n=some b->w'.heap[b]?=w.heap[b]?/\∀o,¬G.S b o->¬G'.S b o)
 (h:dP G w n B):dP G' w' n B:=by
 obtain⟨f1,f2,f3⟩:=hg;cases B with
 |gone=>trivial
 |cells cs=>
  obtain⟨J,h2,vs,T,h3,h4,h5⟩:=h;obtain⟨c2,c1⟩:=ho _ rfl;refine⟨by rw[hE.aO n hn];exact hE.lf (ant.1 h3).1 J,by rw[hE.aO n hn];exact λo=>c1 o (h2 o),vs,T,by rw[hE.aO n hn,c2];exact h3,h4,λi u c hu hc=>(h5 i u c hu hc).keep hE hN⟩
 |lp ls p as bd cs=>
  obtain⟨J,h2,fn,vs,T,h3,h4,h5⟩:=h;obtain⟨c2,c1⟩:=ho _ rfl;refine⟨by rw[hE.aO n hn];exact hE.lf (ant.1 h3).1 J,by rw[hE.aO n hn];exact λo=>c1 o (h2 o),fn,vs,T,by rw[hE.aO n hn,c2];exact h3,h4,λi u c hu hc=>(h5 i u c hu hc).keep hE hN⟩
 |it sn cs=>
  obtain⟨J,h2,fn,vs,T,h3,h4,h5⟩:=h;obtain⟨c2,c1⟩:=ho _ rfl;refine⟨by rw[hE.aO n hn];exact hE.lf (ant.1 h3).1 J,by rw[hE.aO n hn];exact λo=>c1 o (h2 o),fn,vs,T,by rw[hE.aO n hn,c2];exact h3,h4,λi u c hu hc=>(h5 i u c hu hc).keep hE hN⟩
 |eG T0 cs=>
  obtain⟨J,h2,fn,vs,T,h3,h4,h5⟩:=h;obtain⟨c2,c1⟩:=ho _ rfl;refine⟨by rw[hE.aO n hn];exact hE.lf (ant.1 h3).1 J,by rw[hE.aO n hn];exact λo=>c1 o (h2 o),fn,vs,T,by rw[hE.aO n hn,c2];exact h3,by rw[hE.aO n hn];exact h4,λi u c hu hc=>(h5 i u c hu hc).keep hE hN⟩
 |map kv=>
  obtain⟨J,h2,es,c,h3,h4⟩:=h;obtain⟨c2,c1⟩:=ho _ rfl;exact⟨by rw[hE.aO n hn];exact hE.lf (ant.1 h3).1 J,by rw[hE.aO n hn];exact λo=>c1 o (h2 o),es,c,by rw[hE.aO n hn,c2];exact h3,h4.keep hE.S hE.cell⟩
 |iy kv=>
  obtain⟨J,h2,es,c,h3,h4⟩:=h;obtain⟨c2,c1⟩:=ho _ rfl;exact⟨by rw[hE.aO n hn];exact hE.lf (ant.1 h3).1 J,by rw[hE.aO n hn];exact λo=>c1 o (h2 o),es,c,by rw[hE.aO n hn,c2];exact h3,h4.keep hE.S hE.cell⟩
 |ig e b=>
  obtain⟨J,hm,h2⟩:=h;refine⟨f1.trans J,hm,?_⟩;rcases h2 with⟨h2,h0,A,h3⟩|⟨g,cap,cur,h2,h3,h4,h5,h6,h7,h8,h9,bE⟩
  ·exact .inl ⟨f3.trans h2,h0,A,f2.trans h3⟩
  ·obtain⟨f5,f6⟩:=ho g h2;exact .inr ⟨g,cap,cur,f3.trans h2,f2.trans h3,hE.lf (ant.1 h5).1 h4,f5.trans h5,h6,h7,h8,λo=>f6 o (h9 o),bE⟩
 |front e k len=>
  obtain⟨J,hm,h2⟩:=h;refine⟨f1.trans J,hm,?_⟩;rcases h2 with⟨h2,A,h3⟩|⟨g,cap,cur,h2,h3,h4,h5,h6,h7,h8,h9⟩
  ·exact .inl ⟨f3.trans h2,A,f2.trans h3⟩
  ·obtain⟨f5,f6⟩:=ho g h2;exact .inr ⟨g,cap,cur,f3.trans h2,f2.trans h3,hE.lf (ant.1 h5).1 h4,f5.trans h5,h6,h7,h8,λo ho=>f6 o (h9 o ho)⟩
 |vec e k cs=>
  obtain⟨J,hm,hk,h2⟩:=h;refine⟨f1.trans J,hm,hk,?_⟩;rcases h2 with⟨h2,e2,A,h3⟩|⟨g,cap,cur,h2,h3,h4,h5,h6,h7,h8,h9,bE⟩
  ·exact .inl ⟨f3.trans h2,e2,A,f2.trans h3⟩
  ·obtain⟨f5,f6⟩:=ho g h2;exact .inr ⟨g,cap,cur,f3.trans h2,f2.trans h3,hE.lf (ant.1 h5).1 h4,f5.trans h5,h6,h7,h8,λo=>f6 o (h9 o),λi j c x u hc hx hu=>(bE i j c x u hc hx hu).keep hE hN⟩
theorem cJ.put{G:Gh}{w:an8}{a:Act}{s:St}(h:cJ G w a s){v:an7}{x:AV}(hv:aD G w v x)(dst:an5 Nat):cJ G w (a.put dst v) (s.put dst x):=by
 cases dst with
 |none=>exact h
 |some d=>
  by_cases hd:d<s.n
  ·have e1:s.put (some d) x={s with t:=(d,x)::s.t}:=qQ hd x;rw[e1];refine⟨by simp [Act.put,h.size],λi=> ?_,h.inv,h.df⟩;by_cases hi:i=d
   ·subst hi;have:(a.tmps.setIfInBounds i v).getD i undef=v:=by simp [Array.getD,h.size,hd]
    simp only[Act.put,this,kX,if_true];exact hv
   ·have:(a.tmps.setIfInBounds d v).getD i undef=a.tmps.getD i undef:=by simp [Array.getElem?_setIfInBounds_ne (Ne.symm hi)]
    simp only[Act.put,this,kX,if_neg hi];exact h.tmp i
  ·have e1:s.put (some d) x=s:=DF hd x;have e2:a.put (some d) v=a:=by
    have:a.tmps.setIfInBounds d v=a.tmps:=Array.setIfInBounds_eq_of_size_le (by rw[h.size];omega);simp [Act.put,this]
   rw[e1,e2];exact h
theorem cJ.move{G G':Gh}{w w':an8}{a:Act}{s:St}(h:cJ G w a s)(hE:bI G.N G w G' w')(hN:G.N<=G'.N){h':an3 ao}(hi:bJ G' w' h'):cJ G' w' a {s with h:=h'}:=
 ⟨h.size,λi=>(h.tmp i).keep hE hN,hi,h.df.keep hE⟩
theorem cJ.ev{G:Gh}{w:an8}{a:Act}{s:St}(h:cJ G w a s)(x:Operand):aD G w (a.eval x) (ev s x):=by
 cases x with
 |tmp t=>exact h.tmp t
 |const v=>
  show aD G w v (Mo v);unfold Mo;split
  ·rename_i vs
   exact .agg vs _ (by simp) λi u c hu hc=>by
    simp only[anl,anC,hu,Option.map_some,Option.some.injEq]at hc;subst hc;exact .d (.v u)
  ·rename_i vs
   exact .aZ vs _ (by simp) λi u c hu hc=>by
    simp only[anl,anC,hu,Option.map_some,Option.some.injEq]at hc;subst hc;exact .d (.v u)
  ·exact .d (.v v)
 |global g=>
  show aD G w (.pointer (some ⟨g,0,none⟩)) (match Bc An g with|some l=> .bg [l.map .v] 0 0|none=> .dead);split
  ·next l hl=>
   have hg:=h.inv.gl.1 g l (Um hl);have:=aD.bg (G:=G) (w:=w) [l.map .v] 0 0 g 0 (λj=>l.getD j undef) (l.map .v) rfl (λj hj=> ?_) (λj d hd=> ?_)
   ·exact this
   ·rw[anj]at hj;have e:l[j]?=some l[j]:=ani hj;rw[anz];refine⟨(hg j _ e).1,?_⟩;rw[(hg j _ e).2];simp [hj]
   ·rw[anl]at hd;cases e:l[j]? with
    |none=>rw[e]at hd;cases hd
    |some v=>
     rw[e]at hd;cases hd
     have:l.getD j undef=v:=by simp [List.getD,e]
     rw[this];exact .v v
  ·exact .dead _
 |func f=>exact .fn f #[] [] rfl λi u c hu=>by simp at hu
def Gh.cO(G:Gh)(b:Nat):Gh:={G with N:=G.N+1,aO:=λn=>if n=G.N then b else G.aO n}
theorem rD(G:Gh)(w:an8)(hz:∀b,G.Z b->b<w.heap.size)(hS:∀b o,G.S b o->b<w.heap.size)(o:Obj):bI G.N G w (G.cO w.heap.size) (w.alloc o):=
 ⟨by simp,λ_ _ h=>h,λb _ h=>World.cell?_alloc_lt _ _ _ (hS _ _ h),λn hn=>by simp [Gh.cO,Nat.ne_of_lt hn],λ_ _=> .inl ⟨rfl,rfl⟩,gU rfl,
  λb hb=>Below.heap_alloc w o b (hz b hb),rfl,rfl,rfl,λ_ _ h=> .inl h⟩
theorem WB{G:Gh}{w:an8}{h:an3 ao}(hi:bJ G w h)(vs:Array an7)(T:TypeId)(cs:an3 AV)(hl:vs.size=cs.length)
 (hr:∀(i:Nat)(u:an7)(c:AV),vs[i]?=some u->cs[i]?=some c->aD G w u c):
 bJ (G.cO w.heap.size) (w.alloc (.cells vs T)) (h++[.cells cs])/\aD (G.cO w.heap.size) (w.alloc (.cells vs T)) (.pointer (some ⟨w.heap.size,0,none⟩)) (.ptr h.length 0):=by
 have hE:=rD G w hi.z hi.S (.cells vs T);have hN:G.N<=(G.cO w.heap.size).N:=Nat.le_succ _;have fX:(G.cO w.heap.size).aO h.length=w.heap.size:=by simp [Gh.cO,hi.len]
 have lh:∀n(B:ao),n<G.N->B.dL (G.cO w.heap.size) n=B.dL G n:=λn B hn=>by
  cases B<;>simp [ao.dL,Gh.cO,Nat.ne_of_lt hn]
 have fk:∀n,n<G.N->bH (h++[.cells cs]) (G.cO w.heap.size) n=bH h G n:=λn hn=>by
  have aI:n<h.length:=by rw[hi.len];exact hn
  unfold bH;rw[ano aI,ani aI];exact lh n _ hn
 have rX:bH (h++[.cells cs]) (G.cO w.heap.size) h.length=some w.heap.size:=by
  rw[dx (B:= .cells cs) (by simp)];exact congrArg some fX
 refine⟨⟨by simp [Gh.cO,hi.len],λb hb=>anD (hi.z b hb) hE.size,λb o hs=>anD (hi.S b o hs) hE.size,λn B hB=> ?_,λm n b hm hn=> ?_,hi.gl.keep hE⟩,?_⟩
 ·by_cases hn:n<h.length
  ·rw[ano hn]at hB;have eN:n<G.N:=hi.len▸hn;exact dP.keep eN hE hN ⟨rfl,rfl,rfl⟩ (λb hb=>⟨Below.heap_alloc w _ _ (hi.gX (n:=n) ((dx hB).trans hb)),λo h=>h⟩) (hi.cV n B hB)
  ·have ku:n=h.length:=by
    have:=(ane.1 hB).1;simp at this;omega
   subst ku;simp at hB;subst hB;exact⟨by rw[fX];exact λhz=>anT _ (hi.z _ hz),λo hs=>by rw[fX]at hs;exact anT _ (hi.S _ _ hs),vs,T,by rw[fX];exact World.alloc_heap_new w _,hl,λi u c hu hc=>(hr i u c hu hc).keep hE hN⟩
 ·have key:∀n b,bH (h++[.cells cs]) (G.cO w.heap.size) n=some b->(n<G.N/\bH h G n=some b)\/(n=h.length/\b=w.heap.size):=λn b hn=>by
   by_cases aI:n<G.N
   ·exact .inl ⟨aI,by rw[<-fk n aI];exact hn⟩
   ·by_cases e:n=h.length
    ·subst e;rw[rX]at hn;cases hn;exact .inr ⟨rfl,rfl⟩
    ·rw[uV (anL (by simp;have:=hi.len;omega))]at hn;cases hn
  rcases key m b hm with⟨_,fZ⟩|⟨rfl,rfl⟩<;>rcases key n _ hn with⟨_,eN⟩|⟨rfl,hb⟩
  ·exact hi.inj m n b fZ eN
  ·have:=hi.gX fZ;omega
  ·have:=hi.gX eN;omega
  ·rfl
 ·have:=aD.ptr (G:=G.cO w.heap.size) (w:=w.alloc (.cells vs T)) h.length 0 (by simp [Gh.cO,hi.len])
  rwa [fX]at this
theorem Lm(w:an8)(g:Nat)(cs:Array an7):(w.setRow g cs).heap.size=w.heap.size:=by simp [World.setRow]
theorem ac8(w:an8)(g:Nat)(cs:Array an7)(b o:Nat)(h:b≠g):(w.setRow g cs).cell? ⟨b,o,none⟩=w.cell? ⟨b,o,none⟩:=World.cell?_of_block (setRow_other w g b cs h)
theorem al3{G:Gh}{w:an8}{g:Nat}(cs:Array an7)(hg:¬G.Z g)(hS:∀b o,G.S b o->(w.setRow g cs).cell? ⟨b,o,none⟩=w.cell? ⟨b,o,none⟩):bI G.N G w G (w.setRow g cs):=
 ⟨by rw[Lm];exact anp _,λ_ _ h=>h,hS,λ_ _=>rfl,λ_ _=> .inl ⟨rfl,rfl⟩,gU rfl,λb hb=>setRow_other w g b cs (λe=>hg (e▸hb)),rfl,rfl,rfl,λ_ _ h=> .inl h⟩
theorem C0(cs ys:an3 AV)(off:Nat)(h:off+ys.length<=cs.length):(iP cs off ys).length=cs.length:=by
 simp [iP];omega
theorem akx{R:an7->AV->Prop}(vs us:Array an7)(cs ys:an3 AV)(off:Nat)(hl:vs.size=cs.length)(hu:us.size=ys.length)(hb:off+ys.length<=cs.length)
 (hr:∀(i:Nat)(u:an7)(c:AV),vs[i]?=some u->cs[i]?=some c->R u c) (px:∀(i:Nat)(u:an7)(c:AV),us[i]?=some u->ys[i]?=some c->R u c):
 ∀(i:Nat)(u:an7)(c:AV),(vs.toList.take off++us.toList++vs.toList.drop (off+us.toList.length)).toArray[i]?=some u->(iP cs off ys)[i]?=some c->R u c:=by
 intro i u c J h2;have nZ:us.toList.length=ys.length:=by rw[anM,hu]
 rw[nZ]at J;rw[List.getElem?_toArray]at J;unfold iP at h2;simp only[anv]at J h2;have wx:vs.toList.length=cs.length:=by rw[anM,hl]
 by_cases h:i<off
 ·rw[ano (by simp;omega),List.getElem?_take_of_lt h]at J;rw[ano (by simp;omega),List.getElem?_take_of_lt h]at h2;exact hr i u c (by rw[<-anC];exact J) h2
 ·rw[anu (by simp;omega)]at J h2;simp only[List.length_take,wx]at J h2;rw[Nat.min_eq_left (by omega)]at J h2;by_cases h':i-off<ys.length
  ·rw[ano (by rw[nZ];exact h')]at J;rw[ano h']at h2;exact px (i-off) u c (by rw[<-anC];exact J) h2
  ·rw[anu (by rw[nZ];omega),List.getElem?_drop]at J;rw[anu (by omega),List.getElem?_drop]at h2;rw[nZ]at J;rw[show off+ys.length+(i-off-ys.length)=i by omega]at J h2;exact hr i u c (by rw[<-anC];exact J) h2
theorem agS{P:an6}{G:Gh}{w:an8}{h:an3 ao}(hi:bJ G w h){n off:Nat}{cs:an3 AV}(hn:h[n]?=some (.cells cs)){t:TypeId}{v:an7}{x:AV}
 (hv:aD G w v x) (hb:x.jD=true) (ht:fW P t=some x.cells.length) (ho:off+x.cells.length<=cs.length):
 ∃w',(storeVar t ⟨G.aO n,off,none⟩ v).run P w= .ok () w'/\bI G.N G w G w'/\bJ G w' (h.set n (.cells (iP cs off x.cells))):=by
 obtain⟨hz,hS,vs,T,hh,hl,hr⟩:=hi.cV n _ hn;obtain⟨yr,Od⟩:=hv.cells hb;obtain⟨i,jS,kL⟩:∃i,P.info? t=some i/\i.size=x.cells.length:=by
  unfold fW at ht;cases hq:P.info? t with
  |none=>rw[hq]at ht;cases ht
  |some i=>rw[hq]at ht;exact⟨i,rfl,by simpa using ht⟩
 have ly:=run_storeCells_at P (G.aO n) off T v.cells.toList 0 vs w hh (by rw[anM,yr,hl];simpa using ho) (λu hu=>by
  obtain⟨j,hj⟩:=List.mem_iff_getElem?.1 hu;have iX:v.cells[j]?=some u:=by rw[<-anC];exact hj
  have zS:j<x.cells.length:=by rw[<-yr];exact(ant.1 iX).1
  exact(Od j u _ iX (ani zS)).2)
 simp only[Nat.add_zero]at ly;obtain⟨w',eX⟩:∃w',w'=w.setRow (G.aO n) (vs.toList.take off++v.cells.toList++vs.toList.drop (off+v.cells.toList.length)).toArray:=⟨_,rfl⟩;rw[<-eX]at ly;have hE:bI G.N G w G w':=by
  rw[eX];exact al3 _ hz λb o hs=>ac8 w _ _ b o (λe=>hS o (e▸hs))
 have e8:∀m,m≠n->(h.set n (.cells (iP cs off x.cells)))[m]?=h[m]?:=λm hm=>by rw[anN (Ne.symm hm)]
 have mH:(h.set n (.cells (iP cs off x.cells)))[n]?=some (.cells (iP cs off x.cells)):=by
  rw[anI (ane.1 hn).1]
 have eo:∀m,bH (h.set n (.cells (iP cs off x.cells))) G m=bH h G m:=λm=>by
  by_cases e:m=n
  ·subst e;rw[dx mH,dx hn];rfl
  ·unfold bH;rw[e8 m e]
 have lE:bH h G n=some (G.aO n):=dx hn;refine⟨w',?_,hE,⟨by rw[List.length_set];exact hi.len,λb hb=>anD (hi.z b hb) hE.size,λb o hs=>anD (hi.S b o hs) hE.size,λm B hB=> ?_,λm m' b J h2=>hi.inj m m' b (by rw[<-eo];exact J) (by rw[<-eo];exact h2),hi.gl.keep hE⟩⟩
 ·unfold storeVar;simp only[sizeOf,typeInfo,Sem.run_bind,yr];simp [jS,kL,ly]
 ·by_cases e:m=n
  ·subst e;rw[mH]at hB;cases hB
   refine⟨hz,hS,_,T,by rw[eX];exact setRow_heap w _ vs _ T _ hh,?_,λi u c hu hc=> ?_⟩
   ·rw[C0 _ _ _ ho];have:v.cells.toList.length=x.cells.length:=by rw[anM];exact yr
    simp only[List.size_toArray,anf,List.length_take,List.length_drop,anM,hl,yr];omega
   ·exact(akx (R:=aD G w) vs v.cells cs x.cells off hl yr ho hr (λi u c J h2=>(Od i u c J h2).1) i u c hu hc).keep hE (anp _)
  ·rw[e8 m e]at hB;have cA:∀b,bH h G m=some b->b≠G.aO n:=λb hb eb=>e (hi.inj m n b hb (by rw[eb];exact lE));refine dP.keep (hi.lt hB) hE (anp _) ⟨rfl,rfl,rfl⟩ (λb hb=>⟨?_,λo h=>h⟩) (hi.cV m B hB);rw[eX];exact setRow_other w _ _ _ (cA _ ((dx hB).trans hb))
theorem dg.qD{S:Nat->Nat->Prop}{w:an8}{v:an7}{xs:an3 (an3 D)}(h:dg S w v (.sl xs)):
 ∃(A:an5 Addr)(b o c k:Nat)(u:Nat->Nat->an7),v= .slice A xs.length c/\(xs≠ []->A=some ⟨b,o,none⟩)/\xs.length<=c/\c<=maxLen/\(∀x∈xs,x.length=k)/\
  (∀i j,i<xs.length->j<k->S b (o+i*k+j)/\w.cell? ⟨b,o+i*k+j,none⟩=some (u i j)/\(u i j).oneCell'=true)/\
  (∀(i j:Nat)(x:an3 D)(d:D),xs[i]?=some x->x[j]?=some d->dg S w (u i j) d):=by
 cases h with
 |sl A b o c k xs u hA hc hm hk hS hu=>exact⟨A,b,o,c,k,u,rfl,hA,hc,hm,hk,hS,hu⟩
structure Rd(S:Nat->Nat->Prop)(w:World)(k:Nat)(xs:List (List D))(us:List Value):Prop where
 len:us.length=xs.length*k
 wid:∀x∈xs,x.length=k
 one:∀u∈us,u.oneCell'=true
 rel:∀(i j:Nat)(x:List D)(d:D),xs[i]?=some x->x[j]?=some d->∃u,us[i*k+j]?=some u/\dg S w u d
theorem Rd.keep{S S':Nat->Nat->Prop}{w w':an8}{k:Nat}{xs:an3 (an3 D)}{us:an3 an7}(h:Rd S w k xs us)(hS:∀b o,S b o->S' b o)(hc:∀b o,S b o->w'.cell? ⟨b,o,none⟩=w.cell? ⟨b,o,none⟩):Rd S' w' k xs us:=
 ⟨h.len,h.wid,h.one,λi j x d hx hd=>let ⟨u,J,h2⟩:=h.rel i j x d hx hd;⟨u,J,h2.keep hS hc⟩⟩
theorem Rd.append{S:Nat->Nat->Prop}{w:an8}{k:Nat}{xs ys:an3 (an3 D)}{us vs:an3 an7}(h:Rd S w k xs us)(h':Rd S w k ys vs):Rd S w k (xs++ys) (us++vs):=by
 refine⟨by rw[anf,anf,h.len,h'.len,Nat.add_mul],λx hx=> ?_,λu hu=> ?_,λi j x d hx hd=> ?_⟩
 ·rcases anR.1 hx with hx|hx
  ·exact h.wid x hx
  ·exact h'.wid x hx
 ·rcases anR.1 hu with hu|hu
  ·exact h.one u hu
  ·exact h'.one u hu
 ·by_cases hi:i<xs.length
  ·rw[ano hi]at hx;obtain⟨u,J,h2⟩:=h.rel i j x d hx hd;exact⟨u,by rw[ano (ane.1 J).1];exact J,h2⟩
  ·rw[anu (by omega)]at hx;obtain⟨u,J,h2⟩:=h'.rel (i-xs.length) j x d hx hd;refine⟨u,?_,h2⟩;have e:i*k+j=xs.length*k+((i-xs.length)*k+j):=by rw[Nat.sub_mul];have:=Nat.mul_le_mul_right k (Nat.le_of_not_lt hi);omega
   rw[e,anu (by rw[h.len];omega),h.len,Nat.add_sub_cancel_left];exact J
theorem Rd.B3{S:Nat->Nat->Prop}{w:an8}{k:Nat}{xs:an3 (an3 D)}{us:an3 an7}(h:Rd S w k xs us)(b c:Nat)(hc:xs.length<=c)(hm:c<=maxLen)
 (hS:∀o,o<xs.length*k->S b o) (hcell:∀(o:Nat)(u:an7),us[o]?=some u->w.cell? ⟨b,o,none⟩=some u):dg S w (.slice (some ⟨b,0,none⟩) xs.length c) (.sl xs):=by
 refine .sl _ b 0 c k xs (λi j=>us.getD (i*k+j) undef) (λ_=>rfl) hc hm h.wid (λi j hi hj=> ?_) (λi j x d hx hd=> ?_)
 ·have aI:i*k+j<xs.length*k:=by
   have:(i+1)*k<=xs.length*k:=Nat.mul_le_mul_right k hi;rw[Nat.add_mul]at this;omega
  have hg:us[i*k+j]?=some (us[i*k+j]'(by rw[h.len];exact aI)):=ani (by rw[h.len];exact aI);rw[anz];refine⟨hS _ aI,?_,?_⟩
  ·rw[hcell _ _ hg];simp [hg]
  ·simp only[List.getD_eq_getElem?_getD,hg,Option.getD_some];exact h.one _ (List.getElem_mem _)
 ·obtain⟨u,J,h2⟩:=h.rel i j x d hx hd;simp only[List.getD_eq_getElem?_getD,J,Option.getD_some];exact h2
theorem dg.rd{S:Nat->Nat->Prop}{w:an8}{v:an7}{xs:an3 (an3 D)}{k:Nat}(h:dg S w v (.sl xs))(gv:0<k)(hk:∀x∈xs,x.length=k):
 ∃us,Rd S w k xs us/\∃A c,v= .slice A xs.length c/\xs.length<=c/\c<=maxLen/\(xs≠ []->∃b o,A=some ⟨b,o,none⟩/\∀(j:Nat)(u:an7),us[j]?=some u->S b (o+j)/\w.cell? ⟨b,o+j,none⟩=some u):=by
 obtain⟨A,b,o,c,k',u,rfl,hA,hc,hm,gM,hS,hu⟩:=h.qD;by_cases hx:xs=[]
 ·subst hx;exact⟨[],⟨by simp,(λ_ h=>by cases h),(λ_ h=>by cases h),λi j x d hx=>by simp at hx⟩,A,c,rfl,hc,hm,λh=>absurd rfl h⟩
 ·have ek:k'=k:=by
   obtain⟨x,mX⟩:=List.exists_mem_of_ne_nil xs hx;rw[<-gM x mX,hk x mX]
  subst ek;refine⟨(List.range (xs.length*k')).map λt=>u (t / k') (t%k'),⟨by simp,hk,λv hv=> ?_,λi j x d hx hd=> ?_⟩,A,c,rfl,hc,hm,λcA=>⟨b,o,hA cA,λj v hv=> ?_⟩⟩
  ·obtain⟨t,ht,rfl⟩:=List.mem_map.1 hv;have qR:=List.mem_range.1 ht;exact(hS (t / k') (t%k') (Nat.div_lt_of_lt_mul (by rw[Nat.mul_comm];exact qR)) (Nat.mod_lt _ gv)).2.2
  ·have hj:j<k':=by rw[<-hk x (anr hx)];exact(ane.1 hd).1
   have hi:i<xs.length:=(ane.1 hx).1;refine⟨u i j,?_,hu i j x d hx hd⟩;have aI:i*k'+j<xs.length*k':=by
    have:(i+1)*k'<=xs.length*k':=Nat.mul_le_mul_right k' hi;rw[Nat.add_mul]at this;omega
   rw[anl,List.getElem?_range aI];simp only[Option.map_some,Option.some.injEq];rw[show(i*k'+j)/ k'=i by rw[Nat.add_comm,Nat.add_mul_div_right _ _ gv,Nat.div_eq_of_lt hj,anz],show(i*k'+j)%k'=j by rw[Nat.add_comm,Nat.add_mul_mod_self_right,Nat.mod_eq_of_lt hj]]
  ·rw[anl]at hv;by_cases hj:j<xs.length*k'
   ·rw[List.getElem?_range hj]at hv;simp only[Option.map_some,Option.some.injEq]at hv;subst hv;have:=hS (j / k') (j%k') (Nat.div_lt_of_lt_mul (by rw[Nat.mul_comm];exact hj)) (Nat.mod_lt _ gv);have e:o+j / k'*k'+j%k'=o+j:=by have:=Nat.div_add_mod j k';rw[Nat.mul_comm]at this;omega
    rw[e]at this;exact⟨this.1,this.2.1⟩
   ·rw[anL (by simp;omega)]at hv;cases hv
theorem dg.src{P:an6}{S:Nat->Nat->Prop}{w:an8}{v:an7}{xs:an3 (an3 D)}{k:Nat}(h:dg S w v (.sl xs))(gv:0<k)(hk:∀x∈xs,x.length=k){tx e':TypeId}(ht:P.underlying tx=some (.slice e')):
 ∃us,Rd S w k xs us/\Src P k tx v xs.length us w:=by
 obtain⟨us,hr,A,c,rfl,_,_,hA⟩:=h.rd gv hk;refine⟨us,hr,?_⟩;by_cases hx:xs=[]
 ·subst hx;have mv:us=[]:=List.eq_nil_of_length_eq_zero (by rw[hr.len];simp);subst mv;cases A with
  |none=>exact Src.ofNil w ht c
  |some a=>exact Src.ofSlice w ht a 0 c [] (by simp) (λj u hu=>by simp at hu) (λu hu=>by cases hu)
 ·obtain⟨b,o,rfl,hc⟩:=hA hx;exact Src.ofSlice w ht _ _ c us hr.len (λj u hu=>by rw[lL];exact(hc j u hu).2) hr.one
def Gh.ia(G:Gh)(v:an7)(len:Nat):Gh:=
 {G with N:=G.N+1,sg:=λn=>if n=G.N then v else G.sg n,fl:=λn=>if n=G.N then len else G.fl n,ow:=λn=>if n=G.N then none else G.ow n}
theorem Ny{G:Gh}{w:an8}{h:an3 ao}(hi:bJ G w h){v:an7}{xs:an3 (an3 D)}(hv:dg G.S w v (.sl xs))(hf:∃A,v= .slice A xs.length xs.length)(e:TypeId)(k:Nat):
 bI G.N G w (G.ia v xs.length) w/\G.N<=(G.ia v xs.length).N/\bJ (G.ia v xs.length) w (h++[.front e k xs.length])/\aD (G.ia v xs.length) w v (.own h.length xs):=by
 have cA:∀n,n<G.N->n≠G.N:=λn hn=>Nat.ne_of_lt hn;have hE:bI G.N G w (G.ia v xs.length) w:=⟨anp _,λ_ _ h=>h,λ_ _ _=>rfl,λ_ _=>rfl,λn hn=> .inl ⟨by simp [Gh.ia,cA n hn],by simp [Gh.ia,cA n hn]⟩,gU rfl,λ_ _=>rfl,rfl,rfl,rfl,λ_ _ h=> .inl h⟩;have hN:G.N<=(G.ia v xs.length).N:=Nat.le_succ _;have Uw:xs.length<=maxLen:=by
  obtain⟨A,b,o,c,k',u,_,_,J,h2,_⟩:=hv.qD;exact anw J h2
 have lh:∀n(B:ao),n<G.N->B.dL (G.ia v xs.length) n=B.dL G n:=λn B hn=>by
  cases B<;>simp [ao.dL,Gh.ia,Nat.ne_of_lt hn]
 have hold:∀n b,bH (h++[.front e k xs.length]) (G.ia v xs.length) n=some b->bH h G n=some b:=λn b hb=>by
  by_cases hn:n<h.length
  ·unfold bH at hb ⊢;rw[ano hn,ani hn]at hb;rw[ani hn];rw[<-hb];exact(lh n _ (hi.len▸hn)).symm
  ·by_cases en:n=h.length
   ·subst en;rw[dx (B:= .front e k xs.length) (by simp)]at hb;simp [ao.dL,Gh.ia,hi.len]at hb
   ·rw[uV (anL (by simp;omega))]at hb;cases hb
 refine⟨hE,hN,⟨by simp [Gh.ia,hi.len],hi.z,hi.S,λn B hB=> ?_,λm n b hm hn=>hi.inj m n b (hold m b hm) (hold n b hn),hi.gl.keep hE⟩,?_⟩
 ·by_cases hn:n<h.length
  ·rw[ano hn]at hB;have eN:n<G.N:=hi.len▸hn;exact dP.keep eN hE hN ⟨by simp [Gh.ia,cA n eN],by simp [Gh.ia,cA n eN],by simp [Gh.ia,cA n eN]⟩ (λb hb=>⟨rfl,λo h=>h⟩) (hi.cV n B hB)
  ·have ku:n=h.length:=by
    have:=(ane.1 hB).1;simp at this;omega
   subst ku;simp at hB;subst hB;obtain⟨A,hA⟩:=hf;exact⟨by simp [Gh.ia,hi.len],Uw, .inl ⟨by simp [Gh.ia,hi.len],A,by simp [Gh.ia,hi.len,hA]⟩⟩
 ·exact .own h.length xs (by simp [Gh.ia,hi.len]) hv (by simp [Gh.ia,hi.len]) (λ_=>by simp [Gh.ia,hi.len])
theorem Qi{P:an6}{e k b:Nat}(hk:fW P e=some k)(hb:qw P e=some b):∃i,P.info? e=some i/\i.size=k/\i.bytes=b:=by
 unfold fW at hk;unfold qw at hb;cases hq:P.info? e with
 |none=>rw[hq]at hk;cases hk
 |some i=>rw[hq]at hk hb;exact⟨i,rfl,by simpa using hk,by simpa using hb⟩
def Gh.grow(G:Gh)(n:Nat)(S:Nat->Nat->Prop)(v:an7)(len:Nat)(ow:an5 Nat):Gh:=
 {G with S:=S,sg:=λm=>if m=n then v else G.sg m,fl:=λm=>if m=n then len else G.fl m,ow:=λm=>if m=n then ow else G.ow m}
theorem XL{G:Gh}{w w':an8}{h:an3 ao}(hi:bJ G w h){n e k len gP:Nat}(hn:h[n]?=some (.front e k len))(S:Nat->Nat->Prop)(v:an7)(g:Nat)
 (hE:bI G.N G w (G.grow n S v gP (some g)) w') (hg:g=w.heap.size\/G.ow n=some g) (hgw:g<w'.heap.size)
 (hS:∀b o,S b o->G.S b o\/b=g) (ja:∀b,b<w.heap.size->b≠g->w'.heap[b]?=w.heap[b]?)
 (hB:dP (G.grow n S v gP (some g)) w' n (.front e k gP)):bJ (G.grow n S v gP (some g)) w' (h.set n (.front e k gP)):=by
 have e8:∀m,m≠n->(h.set n (.front e k gP))[m]?=h[m]?:=λm hm=>by rw[anN (Ne.symm hm)]
 have mH:(h.set n (.front e k gP))[n]?=some (.front e k gP):=by rw[anI (ane.1 hn).1]
 have lh:∀m(B:ao),m≠n->B.dL (G.grow n S v gP (some g)) m=B.dL G m:=λm B hm=>by
  cases B<;>simp [ao.dL,Gh.grow,hm]
 have eo:∀m,m≠n->bH (h.set n (.front e k gP)) (G.grow n S v gP (some g)) m=bH h G m:=λm hm=>by
  unfold bH;rw[e8 m hm];cases h[m]? with
  |none=>rfl
  |some B=>exact lh m B hm
 have xT:∀m,m≠n->bH h G m≠some g:=λm hm hb=>by
  rcases hg with hg|hg
  ·have:=hi.gX hb;omega
  ·exact hm (hi.inj m n g hb ((dx hn).trans hg))
 refine⟨by rw[List.length_set];exact hi.len,λb hb=>anD (hi.z b hb) hE.size,λb o hs=> ?_,λm B hm=> ?_,λm m' b J h2=> ?_,hi.gl.keep hE⟩
 ·rcases hS b o hs with hs|hs
  ·exact anD (hi.S b o hs) hE.size
  ·rw[hs];exact hgw
 ·by_cases em:m=n
  ·subst em;rw[mH]at hm;cases hm;exact hB
  ·rw[e8 m em]at hm;refine dP.keep (hi.lt hm) hE (anp _) ⟨by simp [Gh.grow,em],by simp [Gh.grow,em],by simp [Gh.grow,em]⟩ (λb hb=> ?_) (hi.cV m B hm);have hr:bH h G m=some b:=(dx hm).trans hb;have cA:b≠g:=λe'=>xT m em (by rw[hr,e']);refine⟨ja _ (hi.gX hr) cA,λo jG hs=> ?_⟩;rcases hS _ o hs with hs|hs
   ·exact jG hs
   ·exact cA hs
 ·by_cases e1:m=n<;>by_cases e2:m'=n
  ·rw[e1,e2]
  ·subst e1;rw[eo m' e2]at h2;have:bH (h.set m (.front e k gP)) (G.grow m S v gP (some g)) m=some g:=by rw[dx mH];simp [ao.dL,Gh.grow]
   rw[this]at J;cases J;exact absurd h2 (xT m' e2)
  ·subst e2;rw[eo m e1]at J;have:bH (h.set m' (.front e k gP)) (G.grow m' S v gP (some g)) m'=some g:=by rw[dx mH];simp [ao.dL,Gh.grow]
   rw[this]at h2;cases h2;exact absurd J (xT m e1)
  ·rw[eo m e1]at J;rw[eo m' e2]at h2;exact hi.inj m m' b J h2
set_option maxHeartbeats 1000000 in
theorem VZ{P:an6}{G:Gh}{w:an8}{h:an3 ao}(hi:bJ G w h){T tx ty e k cN:Nat}{i:TypeInfo}{z:an7}(hT:P.underlying T=some (.slice e))(ld:P.info? e=some i)(hz:i.zero=some z)(ny:i.size=k)(vC:i.bytes=cN)(j9:z.cells.size=k)
 (gv:0<k) {n:Nat} {xs ys:an3 (an3 D)} (hn:h[n]?=some (.front e k xs.length)) {u v:an7} (hu:aD G w u (.own n xs)) (nA:∀x∈xs,x.length=k)
 {us:an3 an7} (hr:Rd G.S w k ys us) (hs:Src P k tx v ys.length us w) (w8:xs.length+ys.length<=maxLen) (py:(xs.length+ys.length)*cN<=140737488355328):
 ∃r w' G',(Builtin.append_ #[T,tx] ty #[u,v]).run P w= .ok r w'/\bI G.N G w G' w'/\G.N<=G'.N/\bJ G' w' (h.set n (.front e k (xs.length+ys.length)))/\aD G' w' r (.own n (xs++ys)):=by
 subst ny;subst vC;have nV:=hi.lt hn;obtain⟨ml,Uw,hbr⟩:=hi.cV n _ hn;obtain⟨hp,UP⟩:dg G.S w u (.sl xs)/\u=G.sg n:=by
  cases hu with
  |own _ _ _ hp hle hf=>exact⟨hp,hf ml.symm⟩
 obtain⟨olds,AB,A,c,zt,lk,xE,hA⟩:=hp.rd gv nA;have Pm:h.set n (.front e i.size (xs.length+0))=h:=by
  rw[Nat.add_zero];refine List.ext_getElem? λm=> ?_;by_cases em:m=n
  ·subst em;rw[anI (ane.1 hn).1,hn]
  ·rw[anN (Ne.symm em)]
 by_cases hy:ys.length=0
 ·have jO:ys=[]:=List.eq_nil_of_length_eq_zero hy;subst jO;have mv:us=[]:=List.eq_nil_of_length_eq_zero (by rw[hr.len];simp);subst mv;have:=run_append_nothing (P:=P) w T tx ty e i hT ld A xs.length c lk v hs;refine⟨u,w,G,by rw[zt];exact this,bI.refl _ _ _,anp _,?_,by rw[anA];exact hu⟩;simp only[anq];rw[Pm];exact hi
 ·have XD:0<ys.length:=Nat.pos_of_ne_zero hy;have MM:xs.length+ys.length<=9223372036854775807:=by simp only[maxLen]at w8;omega
  have Qo:Rd G.S w i.size (xs++ys) (olds++us):=AB.append hr;have grow:c<xs.length+ys.length->∃r w' G',(Builtin.append_ #[T,tx] ty #[u,v]).run P w= .ok r w'/\bI G.N G w G' w'/\G.N<=G'.N/\bJ G' w' (h.set n (.front e i.size (xs.length+ys.length)))/\aD G' w' r (.own n (xs++ys)):=by
   intro hg;have hold:(Builtin.firstCells i.size xs.length (.slice A xs.length c)).run P w.drew= .ok olds.toArray w.drew:=by
    by_cases hx:xs=[]
    ·subst hx;have:olds=[]:=List.eq_nil_of_length_eq_zero (by rw[AB.len];simp);subst this;cases A with
     |none=>exact run_firstCells_none _ _ _ _ _
     |some a=>exact run_firstCells_some _ _ _ _ _ _ [] (by simp) (λj u hu=>by simp at hu)
    ·obtain⟨b,o,rfl,hc⟩:=hA hx;exact run_firstCells_some _ _ _ _ _ _ olds AB.len (λj u hu=>by rw[lL];exact(hc j u hu).2)
   have dz:=run_append_grow_src (P:=P) w T tx ty e i z hT ld hz A xs.length c olds hold v ys.length us hs hg (by omega) (growslice_fits hg py);obtain⟨cap,jU⟩:∃cap,cap=grownCap w (xs.length+ys.length) c e:=⟨_,rfl⟩;have j0:xs.length+ys.length<=cap:=by rw[jU];exact grownCap_ge _ _ _ _
   have hle:cap<=maxLen:=by rw[jU];exact grownCap_le_maxLen _ _ _ _ w8
   rw[<-jU]at dz;obtain⟨cur,kt⟩:∃cur,cur=(olds++us).toArray++Builtin.zeroCells z.cells (cap-(xs.length+ys.length)):=⟨_,rfl⟩;rw[<-kt]at dz;obtain⟨w',eX⟩:∃w',w'=w.drew.alloc (.cells cur e):=⟨_,rfl⟩;rw[<-eX]at dz;have gx:cur.size=cap*i.size:=by
     have:=size_zeroCells z.cells (cap-(xs.length+ys.length));rw[kt,Array.size_append,this,List.size_toArray,Qo.len,j9,anf,<-Nat.add_mul]
     congr 1
     omega
   have fk:w'.heap[w.heap.size]?=some (.cells cur e (0,0)):=by rw[eX];exact World.alloc_heap_new w.drew _
   have NM:∀b,b<w.heap.size->w'.heap[b]?=w.heap[b]?:=λb hb=>by rw[eX];exact Below.heap_alloc w.drew _ b hb
   have hX:w'.heap.size=w.heap.size+1:=by rw[eX];simp
   obtain⟨S,hS⟩:∃S:Nat->Nat->Prop,S=λb o=>G.S b o\/(b=w.heap.size/\o<(xs.length+ys.length)*i.size):=⟨_,rfl⟩;have hcell:∀b o,G.S b o->w'.cell? ⟨b,o,none⟩=w.cell? ⟨b,o,none⟩:=λb o hs=>World.cell?_of_block (NM b (hi.S b o hs));have hE:bI G.N G w (G.grow n S (.slice (some ⟨w.heap.size,0,none⟩) (xs.length+ys.length) cap) (xs.length+ys.length) (some w.heap.size)) w':=
    ⟨by rw[hX];exact Nat.le_succ _,λb o h=>by show S b o;rw[hS];exact .inl h,hcell,λ_ _=>rfl,
     λm _=>by
      by_cases em:m=n
      ·right;subst em;simp only[Gh.grow,if_true,ml];omega
      ·left;exact⟨by simp [Gh.grow,em],by simp [Gh.grow,em]⟩,
     gU rfl,λb hb=>NM b (hi.z b hb),by rw[eX];rfl,by rw[eX];rfl,by rw[eX];rfl,λb o hs=>by
      have cv:S b o:=hs;rw[hS]at cv;rcases cv with h|⟨rfl,_⟩
      ·exact .inl h
      ·exact .inr λhz=>anT _ (hi.z _ hz)⟩
   have hP:dg S w' (.slice (some ⟨w.heap.size,0,none⟩) (xs++ys).length cap) (.sl (xs++ys)):=by
    refine(Qo.keep (S':=S) (w':=w') (λb o h=>by rw[hS];exact .inl h) hcell).B3 w.heap.size cap (by rw[anf];exact j0) hle (λo ho=>by rw[hS];exact .inr ⟨rfl,by rw[anf]at ho;exact ho⟩) (λo x ho=> ?_);rw[cell_of_row w' w.heap.size o cur e (0,0) fk,kt,Array.getElem?_append_left (by simp only[List.size_toArray];exact(ane.1 ho).1),List.getElem?_toArray];exact ho
   rw[anf]at hP;refine⟨_,w',_,by rw[zt];exact dz,hE,anp _,XL hi hn S _ w.heap.size hE (.inl rfl) (by rw[hX];exact an1 _) (λb o hs=> ?_) (λb hb _=>NM b hb) ?_,?_⟩
   ·rw[hS]at hs;exact hs.imp id And.left
   ·refine⟨by simp [Gh.grow],w8, .inr ⟨w.heap.size,cap,cur,by simp [Gh.grow],by simp [Gh.grow],λhz=>anT _ (hi.z _ hz),fk,j0,hle,gx,λo ho hs=> ?_⟩⟩;have cv:S w.heap.size o:=hs;rw[hS]at cv;rcases cv with cv|⟨_,cv⟩
    ·have:=hi.S _ _ cv;omega
    ·omega
   ·exact .own n (xs++ys) nV hP (by simp [Gh.grow]) (λ_=>by simp [Gh.grow])
  rcases hbr with⟨iC,A',jY⟩|⟨g,cap,cur,iC,jY,KQ,qi,Oq,PK,Ul,XK⟩
  ·refine grow ?_;rw[UP,jY]at zt;cases zt
   omega
  ·have T4:=zt;rw[UP,jY]at T4;injection T4 with eA0 _ e1;have e2:=e1.symm;subst e2;subst eA0;by_cases qn:xs.length+ys.length<=c
   ·
    have l6:xs.length*i.size+us.length<=cur.size:=by rw[hr.len,Ul,<-Nat.add_mul];exact Nat.mul_le_mul_right _ qn
    have CG:∀o,w.cell? ⟨g,o,none⟩=cur[o]?:=λo=>cell_of_row w g o cur e (0,0) qi;have AF:∀j,j<us.length->(w.cell? ⟨g,0+xs.length*i.size+j,none⟩).isSome=true:=λj hj=>by
     rw[CG,anz,anB (by omega)];rfl
    have dz:=run_append_room_src (P:=P) w T tx ty e i hT ld g 0 xs.length c v ys.length us hs qn AF
     (λj hj=>by unfold World.frozen?;rw[qi];simp)
    rw[anz]at dz AF;obtain⟨w',eX⟩:∃w',w'=w.setCells g (xs.length*i.size) us:=⟨_,rfl⟩;rw[<-eX]at dz;have aeK:g<w.heap.size:=(ant.1 qi).1;have ly:=run_storeCells_at P g (xs.length*i.size) e us 0 cur w qi (by simpa using l6) hs.one;have wi:=run_storeCells_cells (P:=P) g (xs.length*i.size) us 0 w (by simpa using AF) (λj hj=>by unfold World.frozen?;rw[qi];simp) hs.one;simp only[Nat.add_zero]at ly wi;rw[ly]at wi;have wD:w'=w.setRow g (cur.toList.take (xs.length*i.size)++us++cur.toList.drop (xs.length*i.size+us.length)).toArray:=by
      rw[eX];injection wi with _ e2;exact e2.symm
    obtain⟨pH,Rq⟩:∃pH:Array an7,pH=(cur.toList.take (xs.length*i.size)++us++cur.toList.drop (xs.length*i.size+us.length)).toArray:=⟨_,rfl⟩;rw[<-Rq]at wD;have oG:w'.heap[g]?=some (.cells pH e (0,0)):=by rw[wD];exact setRow_heap w g cur pH e _ qi
    have ja:∀b,b≠g->w'.heap[b]?=w.heap[b]?:=λb hb=>by rw[wD];exact setRow_other w g b pH hb
    have hX:w'.heap.size=w.heap.size:=by rw[wD];exact Lm w g pH
    have fI:∀o,pH[o]?=if o<xs.length*i.size then cur[o]? else if o<xs.length*i.size+us.length then us[o-xs.length*i.size]? else cur[o]?:=λo=>by
     rw[Rq,List.getElem?_toArray,anv];have hl:cur.toList.length=cur.size:=anM;by_cases J:o<xs.length*i.size
     ·rw[if_pos J,ano (by simp;omega),List.getElem?_take_of_lt J,anC]
     ·rw[if_neg J,anu (by simp;omega)];simp only[List.length_take,hl];rw[Nat.min_eq_left (by omega)];by_cases h2:o<xs.length*i.size+us.length
      ·rw[if_pos h2,ano (by omega)]
      ·rw[if_neg h2,anu (by omega),List.getElem?_drop,show xs.length*i.size+us.length+(o-xs.length*i.size-us.length)=o by omega,anC]
    have aca:pH.size=cur.size:=by
     rw[Rq];simp only[List.size_toArray,anf,List.length_take,List.length_drop,anM];omega
    have hcell:∀b o,G.S b o->w'.cell? ⟨b,o,none⟩=w.cell? ⟨b,o,none⟩:=λb o hs=>by
     by_cases eb:b=g
     ·subst eb;have ho:o<xs.length*i.size:=Nat.lt_of_not_le λhle=>XK o hle hs;rw[CG,cell_of_row w' b o pH e (0,0) oG,fI,if_pos ho]
     ·exact World.cell?_of_block (ja b eb)
    obtain⟨S,hS⟩:∃S:Nat->Nat->Prop,S=λb o=>G.S b o\/(b=g/\o<(xs.length+ys.length)*i.size):=⟨_,rfl⟩;have hE:bI G.N G w (G.grow n S (.slice (some ⟨g,0,none⟩) (xs.length+ys.length) c) (xs.length+ys.length) (some g)) w':=
     ⟨by rw[hX];exact anp _,λb o h=>by show S b o;rw[hS];exact .inl h,hcell,λ_ _=>rfl,
      λm _=>by
       by_cases em:m=n
       ·right;subst em;simp only[Gh.grow,if_true,ml];omega
       ·left;exact⟨by simp [Gh.grow,em],by simp [Gh.grow,em]⟩,
      gU rfl,λb hb=>ja b (λe=>KQ (e▸hb)),by rw[wD];rfl,by rw[wD];rfl,by rw[wD];rfl,λb o hs=>by
       have cv:S b o:=hs;rw[hS]at cv;rcases cv with h|⟨rfl,_⟩
       ·exact .inl h
       ·exact .inr KQ⟩
    have hP:dg S w' (.slice (some ⟨g,0,none⟩) (xs++ys).length c) (.sl (xs++ys)):=by
     refine(Qo.keep (S':=S) (w':=w') (λb o h=>by rw[hS];exact .inl h) hcell).B3 g c (by rw[anf];exact qn) PK (λo ho=>by rw[hS];exact .inr ⟨rfl,by rw[anf]at ho;exact ho⟩) (λo x ho=> ?_);rw[cell_of_row w' g o pH e (0,0) oG,fI];have kp:olds.length=xs.length*i.size:=AB.len;by_cases J:o<xs.length*i.size
     ·rw[if_pos J];rw[ano (by omega)]at ho;have hx:xs≠ []:=λe=>by subst e;simp at J
      obtain⟨b,o',eA,hc⟩:=hA hx;cases eA
      have:=(hc o x ho).2;rw[anz,CG]at this;exact this
     ·rw[if_neg J];rw[anu (by omega),kp]at ho;have:=(ane.1 ho).1;rw[if_pos (by omega)];exact ho
    rw[anf]at hP;refine⟨_,w',_,by rw[zt];exact dz,hE,anp _,XL hi hn S _ g hE (.inr iC) (by rw[hX];exact aeK) (λb o hs=> ?_) (λb _ hb=>ja b hb) ?_,?_⟩
    ·rw[hS]at hs;exact hs.imp id And.left
    ·refine⟨by simp [Gh.grow],w8, .inr ⟨g,c,pH,by simp [Gh.grow],by simp [Gh.grow],KQ,oG,qn,PK,by rw[aca,Ul],λo ho hs=> ?_⟩⟩;have cv:S g o:=hs;rw[hS]at cv;rcases cv with cv|⟨_,cv⟩
     ·exact XK o (anw (Nat.mul_le_mul_right _ (anU _ _)) ho) cv
     ·omega
    ·exact .own n (xs++ys) nV hP (by simp [Gh.grow]) (λ_=>by simp [Gh.grow])
   ·exact grow (by omega)
def WF(r:an5 Nat):Fence:={Fence.wide with round:=r}
def iS(N0:Nat)(G:Gh)(w:an8)(K:St->Prop)(a':Act)(w':an8):Prop:=∃G' s',bI N0 G w G' w'/\N0<=G'.N/\cJ G' w' a' s'/\K s'
section
variable {P:an6} {r:an5 Nat} {n N0:Nat} {G:Gh} {w:an8} {a:Act} {s:St} {o:Oper} {K:St->Prop} {Q:Exit->Act->an8->Prop}
theorem l8(gV:∀c,o.op≠ .defer c)(hs:cJ G w a s)(cq:N0<=G.N){v:an7}{x:AV}{w':an8}{G':Gh}{h':an3 ao}(hr:(execOp a.eval o).run P w= .ok (.value v) w')
 (hE:bI G.N G w G' w') (hN:G.N<=G'.N) (hi:bJ G' w' h') (hv:aD G' w' v x) (hK:K ((s.wh h').put o.dst x)):o.wpIn (WF r) n P a w (iS N0 G w K) Q:=by
 refine⟨λ_ _=>trivial,?_⟩;rw[Oper.semAt_eq _ _ _ gV,hr];exact⟨G',_,hE.less cq,anw cq hN,((hs.move hE hN hi).put hv o.dst),hK⟩
theorem ft(gV:∀c,o.op≠ .defer c)(hs:cJ G w a s)(cq:N0<=G.N){v:an7}{x:AV}(hr:(execOp a.eval o).run P w= .ok (.value v) w)(hv:aD G w v x)(hK:K (s.put o.dst x)):
 o.wpIn (WF r) n P a w (iS N0 G w K) Q:=
 l8 gV hs cq hr (bI.refl _ _ _) (anp _) hs.inv hv hK
theorem PT(gV:∀c,o.op≠ .defer c)(hs:cJ G w a s)(cq:N0<=G.N){w':an8}{G':Gh}{h':an3 ao}(hr:(execOp a.eval o).run P w= .ok .skip w')
 (hE:bI G.N G w G' w') (hN:G.N<=G'.N) (hi:bJ G' w' h') (hK:K ((s.wh h').put o.dst (.d (.v undef)))):o.wpIn (WF r) n P a w (iS N0 G w K) Q:=by
 refine⟨λ_ _=>trivial,?_⟩;rw[Oper.semAt_eq _ _ _ gV,hr];exact⟨G',_,hE.less cq,anw cq hN,((hs.move hE hN hi).put (.d (.v undef)) o.dst),hK⟩
theorem Zm{t k:Nat}(h:fW P t=some k):∃i,P.info? t=some i/\i.size=k:=by
 unfold fW at h;cases hq:P.info? t with
 |none=>rw[hq]at h;cases h
 |some i=>rw[hq]at h;exact⟨i,rfl,by simpa using h⟩
theorem F5{t:Nat}{z:an7}(h:iJ P t=some z):∃i,P.info? t=some i/\i.zero=some z:=by
 unfold iJ at h;cases hq:P.info? t with
 |none=>rw[hq]at h;cases h
 |some i=>rw[hq]at h;exact⟨i,rfl,by simpa using h⟩
theorem Cu{t:Nat}{z:an7}(h:iJ P t=some z)(w:an8):(zeroValue t).run P w= .ok z w:=by
 obtain⟨i,J,h2⟩:=F5 h;simp [zeroValue,typeInfo,J,h2]
theorem mz{t k:Nat}(h:fW P t=some k)(w:an8):(sizeOf t).run P w= .ok k w:=by
 obtain⟨i,J,h2⟩:=Zm h;simp [sizeOf,typeInfo,J,h2]
theorem CY{t:Nat}{g:Bool}(h:mr P t=some g)(w:an8):(isAgg t).run P w= .ok g w:=by
 unfold mr at h;cases hq:P.underlying t with
 |none=>rw[hq]at h;cases h
 |some d=>
  rw[hq]at h;unfold isAgg;rw[Sem.run_bind,run_underlying hq w];simp only[Option.map_some,Option.some.injEq]at h;subst h;cases d<;>rfl
theorem acO{t:Nat}(h:mr P t=some true):∃d,P.underlying t=some d/\d.isRow=true:=by
 unfold mr at h;cases hq:P.underlying t with
 |none=>rw[hq]at h;cases h
 |some d=>rw[hq]at h;refine⟨d,rfl,?_⟩;cases d<;>simp_all [TypeDesc.isRow]
theorem UK{t:Nat}{C:AV->Prop}:∀(b o:Nat)(cs:an3 AV)(off:Nat)(us:Nat->an7),(∀j,j<cs.length->w.cell? ⟨b,o+j,none⟩=some (us j))->(∀(j:Nat)(c:AV),cs[j]?=some c->aD G w (us j) c)->
 (match mr P t,fW P t with
  |some true,some k=>fy (cf (off+k) cs.length) (C (.agg ((cs.drop off).take k)))
  |some false,some _=>match cs[off]? with
   |some c=>C c
   |none=>False
  |_,_=>False)->∃u x,(loadVar t ⟨b,o+off,none⟩).run P w= .ok u w/\aD G w u x/\C x:=by
 intro b o cs off us J h2 h3;split at h3
 ·rename_i k hg hk
  obtain⟨hlen,hC⟩:=bK.1 h3;rw[c6]at hlen;obtain⟨d,ve,nI⟩:=acO hg;have Ke:((List.range k).map λj=>us (off+j)).length=k:=by simp
  have dz:=run_loadVar_mid (P:=P) w b (o+off) t ((List.range k).map λj=>us (off+j)) d (λj u hu=>by
   rw[anl]at hu;by_cases hj:j<k
   ·rw[List.getElem?_range hj]at hu;simp only[Option.map_some,Option.some.injEq]at hu;subst hu;have:=J (off+j) (by omega)
    rwa [<-Nat.add_assoc]at this
   ·rw[anL (by simp;omega)]at hu;cases hu) ve nI (by rw[Ke];exact hk)
  refine⟨_,_,dz, .agg _ _ (by simp;omega) λi u c hu hc=> ?_,hC⟩;rw[List.getElem?_toArray,anl]at hu;rw[List.getElem?_take]at hc;split at hc
  ·rename_i ny
   rw[List.getElem?_range ny]at hu;simp only[Option.map_some,Option.some.injEq]at hu;subst hu;rw[List.getElem?_drop]at hc;exact h2 (off+i) c hc
  ·cases hc
 ·rename_i k hg hk
  split at h3
  ·rename_i c hc
   refine⟨us off,c,?_,h2 off c hc,h3⟩;unfold loadVar;rw[Sem.run_bind,CY hg w];simp only[Result.andThen_ok,Bool.false_eq_true,if_false];unfold load;simp only[Sem.run,J off (ane.1 hc).1]
  ·exact h3.elim
 ·exact h3.elim
theorem ZE{t:Nat}{p:AV}{v:an7}{C:AV->Prop}(hi:bJ G w s.h)(hv:aD G w v p)(h:n8 P t s.h p C):∃u x,(Instr.loadAt t v).run P w= .ok u w/\aD G w u x/\C x:=by
 have key:=UK (P:=P) (G:=G) (w:=w) (t:=t) (C:=C);unfold n8 sq at h;cases p with
 |ptr m off=>
  simp only at h;split at h
  ·rename_i cs hm
   obtain⟨_,_,vs,T,hh,hl,hr⟩:=hi.cV m _ hm;cases hv with
   |ptr _ _ wZ=>
    obtain⟨u,x,J,h2,h3⟩:=key (G.aO m) 0 cs off (λj=>vs.getD j undef) (λj hj=>by
     have iX:j<vs.size:=by rw[hl];exact hj
     rw[anz,cell_of_row w (G.aO m) j vs T (0,0) hh];simp [Array.getD,iX]) (λj c hc=>by
     have iX:j<vs.size:=by rw[hl];exact(ane.1 hc).1
     exact hr j _ c (by simp [Array.getD,iX]) hc) h
    rw[anz]at J;exact⟨u,x,by simp [Instr.loadAt,Instr.sureAddr,J],h2,h3⟩
  ·exact h.elim
 |bg xs i off=>
  simp only at h;split at h
  ·rename_i cs gx
   cases hv with
   |bg _ _ _ b o us x hx hS hu=>
    rw[hx]at gx;cases gx
    obtain⟨u,y,J,h2,h3⟩:=key b o (cs.map .d) off us (λj hj=>(hS j (by simpa using hj)).2) (λj c hc=>by
     rw[anl]at hc;cases hd:cs[j]? with
     |none=>rw[hd]at hc;cases hc
     |some d=>rw[hd]at hc;cases hc;exact .d (hu j d hd)) h
    exact⟨u,y,by simp [Instr.loadAt,Instr.sureAddr,J],h2,h3⟩
  ·exact h.elim
 |_=>exact h.elim
theorem aD.list{u:an7}{x:AV}{xs:an3 (an3 D)}(h:aD G w u x)(hx:x.fE=some xs):dg G.S w u (.sl xs):=by
 unfold AV.fE at hx;split at hx
 ·cases hx;cases h with|d h=>exact h
 ·cases hx;cases h with|own _ _ _ h=>exact h
 ·cases hx;cases h with|full _ h=>exact h
 ·cases hx
  cases h with
  |d h=>
   cases h with
   |v=>exact .sl none 0 0 0 0 [] (λ_ _=>undef) (λh=>absurd rfl h) (anp _) (by simp) (λ_ h=>by cases h) (λi j hi=>by simp at hi) (λi j x d hx=>by simp at hx)
 ·cases hx
theorem aD.int{u:an7}{x:AV}{z:Int}(h:aD G w u x)(hx:x.int?=some z):∃k,u= .int k z:=by
 unfold AV.int? at hx;split at hx
 ·rename_i k m
  cases hx
  cases h with
  |d h=>cases h with|v=>exact⟨k,rfl⟩
 ·cases hx
theorem aD.bool{u:an7}{t:Bool}(h:aD G w u (.d (.v (.bool t)))):u= .bool t:=by
 cases h with|d h=>cases h with|v=>rfl
theorem aD.val{u v:an7}(h:aD G w u (.d (.v v))):u=v:=by
 cases h with|d h=>cases h with|v=>rfl
theorem jV{T e k:Nat}(h:eP P T=some (e,k)):P.underlying T=some (.slice e)/\fW P e=some k:=by
 unfold eP at h;split at h
 ·rename_i e' he
  cases hq:fW P e' with
  |none=>rw[hq]at h;cases h
  |some k'=>rw[hq]at h;simp at h;obtain⟨rfl,rfl⟩:=h;exact⟨he,hq⟩
 ·cases h
theorem Lv{T m e k:Nat}(h:td P T=some (m,e,k)):P.underlying T=some (.array m e)/\fW P e=some k:=by
 unfold td at h;split at h
 ·rename_i m' e' he
  cases hq:fW P e' with
  |none=>rw[hq]at h;cases h
  |some k'=>rw[hq]at h;simp at h;obtain⟨rfl,rfl,rfl⟩:=h;exact⟨he,hq⟩
 ·cases h
theorem ahe{T:Nat}{x i:AV}{u v:an7}{C:AV->Prop}(hu:aD G w u x)(hv:aD G w v i)(h:sb P T x i C):∃p y,(Instr.indexAt T u v).run P w= .ok p w/\aD G w p y/\C y:=by
 unfold sb at h;split at h
 ·rename_i e k hT
  obtain⟨fB,fS⟩:=jV hT;split at h
  ·rename_i m off len cap k'
   split at h
   ·rename_i z hz
    obtain⟨tq,h0,aI,hC⟩:=bK.1 h;rw[beq_iff_eq]at tq;subst tq;obtain⟨kz,rfl⟩:=hv.int hz;cases hu with
    |row _ _ _ _ _ hm hl qd=>
     have hN:(z.toNat:Int)=z:=Int.toNat_of_nonneg h0;refine⟨_,_,?_, .ptr m (off+z.toNat*k') hm,hC⟩;simp [Instr.indexAt,asIntOf,run_underlying fB,h0,aI,mz fS,lL]
   ·exact h.elim
  ·split at h
   ·rename_i xs z lK hz
    obtain⟨h0,h⟩:=h;obtain⟨kz,rfl⟩:=hv.int hz;split at h
    ·rename_i c hc
     obtain⟨hk,hC⟩:=h;obtain⟨A,b,o,cc,k',us,rfl,hA,lk,xE,gM,hS,mv⟩:=(hu.list lK).qD;have aI:z.toNat<xs.length:=(ane.1 hc).1;have cA:xs≠ []:=λe=>by subst e;simp at aI
     have ek:k'=k:=by rw[<-gM c (anr hc),hk]
     subst ek;rw[hA cA];have QK:z<(xs.length:Int):=by omega
     refine⟨_, .bg [c] 0 0,?_, .bg [c] 0 0 b (o+z.toNat*k') (us z.toNat) c rfl (λj hj=> ?_) (λj d hd=>mv _ _ _ _ hc hd),hC⟩
     ·simp [Instr.indexAt,asIntOf,run_underlying fB,h0,QK,mz fS,lL]
     ·have:=hS z.toNat j aI (by rw[hk]at hj;exact hj);exact⟨this.1,this.2.1⟩
    ·exact h.elim
   ·exact h.elim
 ·split at h
  ·rename_i m e k b off z hT hz
   obtain⟨h0,aI,hC⟩:=h;obtain⟨fB,fS⟩:=Lv hT;obtain⟨kz,rfl⟩:=hv.int hz;cases hu with
   |ptr _ _ hb=>
    refine⟨_,_,?_, .ptr b (off+z.toNat*k) hb,hC⟩;simp [Instr.indexAt,Instr.sureAddr,asIntOf,run_underlying fB,h0,aI,mz fS,lL]
  ·rename_i m e k xs i' off z hT hz
   obtain⟨jH,h0,aI,h9⟩:=bK.1 h;rw[beq_iff_eq]at jH;subst jH;obtain⟨fB,fS⟩:=Lv hT;obtain⟨kz,rfl⟩:=hv.int hz;split at h9
   ·rename_i c hc
    split at h9
    ·rename_i d hd
     cases hu with
     |bg _ _ _ b o us c' fI hS mv=>
      rw[hc]at fI;cases fI
      have amI:=(ane.1 hd).1;refine⟨_, .bg [[d]] 0 0,?_, .bg [[d]] 0 0 b (o+(off+z.toNat)) (λ_=>us (off+z.toNat)) [d] rfl (λj hj=> ?_) (λj d' iN=> ?_),h9⟩
      ·simp [Instr.indexAt,Instr.sureAddr,asIntOf,run_underlying fB,h0,aI,mz fS,lL,Nat.add_assoc]
      ·simp at hj;subst hj;exact hS _ amI
      ·match j with
       |0=>simp at iN;subst iN;exact mv _ _ hd
       |j+1=>simp at iN
    ·exact h9.elim
   ·exact h9.elim
  ·exact h.elim
theorem rM{T:Nat}(h:h1 P T=true):P.underlying T=some .string:=by
 unfold h1 at h;split at h
 ·assumption
 ·cases h
theorem afk{T:Nat}{x:AV}{u:an7}{ty:Nat}{C:Nat->Prop}(hu:aD G w u x)(h:rI P T x C):∃m:Nat,(Builtin.len_ #[T] ty #[u]).run P w= .ok (.int .i64 m) w/\C m:=by
 have hsl:∀(A:an5 Addr)(l c:Nat),(eP P T).isSome=true->(Builtin.len_ #[T] ty #[.slice A l c]).run P w= .ok (.int .i64 l) w:=by
  intro A l c hT;obtain⟨⟨e,k⟩,hT⟩:=Option.isSome_iff_exists.1 hT;simp [Builtin.len_,run_underlying (jV hT).1,goInt]
 unfold rI at h;split at h
 ·rename_i b
  have:=hu.val;subst this;obtain⟨hT,hC⟩:=bK.1 h;exact⟨b.size,by simp [Builtin.len_,run_underlying (rM hT),goInt],hC⟩
 ·cases hu with
  |row=>exact⟨_,hsl _ _ _ (bK.1 h).1,(bK.1 h).2⟩
 ·split at h
  ·rename_i xs lK
   obtain⟨A,b,o,c,k,us,rfl,_⟩:=(hu.list lK).qD;exact⟨_,hsl _ _ _ (bK.1 h).1,(bK.1 h).2⟩
  ·exact h.elim
def BE(a:Act)(x:an5 Operand)(d m:Nat):Prop:=match x with|none=>m=d|some y=>∃k z,a.eval y= .int k z/\0<=z/\m=z.toNat
theorem tn{x:an5 Operand}{d:Nat}{C:Nat->Prop}(hs:cJ G w a s)(h:jT (ev s) x d C):∃m,C m/\BE a x d m:=by
 cases x with
 |none=>exact⟨_,h,rfl⟩
 |some y=>
  unfold jT at h;simp only at h;split at h
  ·rename_i z hz
   obtain⟨k,hk⟩:=(hs.ev y).int hz;exact⟨_,h.2,k,z,hk,h.1,rfl⟩
  ·exact h.elim
theorem zP{k:IntKind}{z:Int}{y:Nat}{code:BoundsCode}(h0:0<=z)(h:z.toNat<=y)(w:an8):(Instr.sliceBound (.int k z) y code).run P w= .ok z.toNat w:=by
 have:z<=(y:Int):=by omega
 simp [Instr.sliceBound,asIntOf,h0,this]
theorem BK{lo hi:an5 Operand}{len cap l h:Nat}{Bn:Bool}(kp:BE a lo 0 l)(qo:BE a hi len h)(hl:l<=h)(hh:h<=cap)(w:an8):
 (Instr.sliceBounds Bn len cap (lo.map a.eval) (hi.map a.eval) none).run P w= .ok (l,h,cap) w:=by
 unfold BE at kp qo;cases lo with
 |none=>
  subst kp;cases hi with
  |none=>subst qo;simp [Instr.sliceBounds]
  |some y=>
   obtain⟨k,z,e,h0,rfl⟩:=qo;simp [Instr.sliceBounds,e,zP h0 hh]
 |some x=>
  obtain⟨k',z',e',Xo,rfl⟩:=kp;cases hi with
  |none=>subst qo;simp [Instr.sliceBounds,e',zP Xo hl]
  |some y=>
   obtain⟨k,z,e,h0,rfl⟩:=qo;simp [Instr.sliceBounds,e,e',zP h0 hh,zP Xo hl]
theorem dg.part{S:Nat->Nat->Prop}{v:an7}{xs:an3 (an3 D)}{k:Nat}(hp:dg S w v (.sl xs))(hk:∀c∈xs,c.length=k){l h:Nat}(hl:l<=h)(hh:h<=xs.length):
 ∃A c,v= .slice A xs.length c/\xs.length<=c/\dg S w (.slice (if c=l then A else A.map (·.add (l*k))) (h-l) (c-l)) (.sl ((xs.take h).drop l)):=by
 obtain⟨A,b,o,c,k',us,rfl,hA,lk,xE,gM,hS,mv⟩:=hp.qD;refine⟨A,c,rfl,lk,?_⟩;have hlen:((xs.take h).drop l).length=h-l:=by simp;omega
 rw[<-hlen];by_cases hx:xs=[]
 ·subst hx;have e:((([]:an3 (an3 D)).take h).drop l)=[]:=by simp
  rw[e];exact .sl _ 0 0 (c-l) 0 [] (λ_ _=>undef) (λh=>absurd rfl h) (Nat.zero_le _) (by omega) (λ_ h=>by cases h) (λi j hi=>by simp at hi) (λi j x d hx=>by simp at hx)
 ·have ek:k'=k:=by
   obtain⟨x,mX⟩:=List.exists_mem_of_ne_nil xs hx;rw[<-gM x mX,hk x mX]
  subst ek;have e8:∀i,i<h-l->((xs.take h).drop l)[i]?=xs[l+i]?:=λi hi=>by
   rw[List.getElem?_drop,List.getElem?_take_of_lt (by omega)]
  refine .sl _ b (o+l*k') (c-l) k' _ (λi j=>us (l+i) j) (λcA=> ?_) (by rw[hlen];omega) (by omega) (λx hx=>hk x (List.mem_of_mem_take (List.mem_of_mem_drop hx))) (λi j hi hj=> ?_) (λi j x d hx hd=> ?_)
  ·have Gg:0<((xs.take h).drop l).length:=List.length_pos_iff.2 cA;rw[hlen]at Gg;rw[if_neg (by omega),hA hx];simp [lL]
  ·rw[hlen]at hi;have:=hS (l+i) j (by omega) hj;rw[Nat.add_mul,<-Nat.add_assoc]at this;exact this
  ·have hi:=(ane.1 hx).1;rw[hlen]at hi;rw[e8 i hi]at hx;exact mv _ _ _ _ hx hd
theorem akV{T:Nat}{x:AV}{u:an7}{lo hi mx:an5 Operand}{C:AV->Prop}(hs:cJ G w a s)(hu:aD G w u x)(h:tw P T (ev s) x lo hi mx C):
 ∃p y,(Instr.sliceAt T u (lo.map a.eval) (hi.map a.eval) (mx.map a.eval)).run P w= .ok p w/\aD G w p y/\C y:=by
 unfold tw at h;split at h
 ·split at h
  ·rename_i b
   obtain⟨hT,h⟩:=bK.1 h;have hT:=rM hT;have:=hu.val;subst this;obtain⟨m,h,hm⟩:=tn hs h;obtain⟨vT,h⟩:=h;obtain⟨l,h,hl⟩:=tn hs h;obtain⟨rO,h⟩:=h;refine⟨_,_,?_, .d (.v _),h⟩;have hb:=BK (P:=P) (Bn:=false) hl hm rO vT w;simp [Instr.sliceAt,Instr.slice,run_underlying hT,hb]
  ·rename_i m off
   split at h
   ·rename_i c e k hT
    rw[bK,c6]at h;obtain⟨xE,h⟩:=h;have xE:c<=maxLen:=by unfold maxLen;omega
    obtain⟨fB,fS⟩:=Lv hT;obtain⟨hh,h,hm⟩:=tn hs h;obtain⟨vT,h⟩:=bK.1 h;rw[c6]at vT;obtain⟨l,h,hl⟩:=tn hs h;obtain⟨rO,h⟩:=bK.1 h;simp only[ang,c6,Bool.not_eq_true',<-Bool.not_eq_true,Nat.not_le]at rO;obtain⟨rO,lk⟩:=rO;have hb:=BK (P:=P) (Bn:=false) hl hm rO vT w;cases hu with
    |ptr _ _ wZ=>
     refine⟨_,_,?_, .row m (off+l*k) (hh-l) (c-l) k wZ (by omega) (by omega),h⟩;simp [Instr.sliceAt,Instr.sureAddr,run_underlying fB,hb,mz fS,lL,Nat.ne_of_gt lk]
   ·exact h.elim
  ·split at h
   ·rename_i xs e k lK hT
    obtain⟨hk,h⟩:=h;obtain⟨fB,fS⟩:=jV hT;obtain⟨hh,h,hm⟩:=tn hs h;obtain⟨vT,h⟩:=h;obtain⟨l,h,hl⟩:=tn hs h;obtain⟨rO,h⟩:=h;obtain⟨A,c,rfl,lk,hp⟩:=(hu.list lK).part hk rO vT;have hb:=BK (P:=P) (Bn:=true) hl hm rO (anw vT lk) w;refine⟨_,_,?_, .d hp,h⟩;simp [Instr.sliceAt,Instr.slice,run_underlying fB,hb,mz fS]
   ·exact h.elim
 ·rename_i y
  split at h
  case h_2=>exact h.elim
  rename_i yh
  split at h
  ·rename_i xs e k lK hT
   obtain⟨hk,h⟩:=h;obtain⟨fB,fS⟩:=jV hT;obtain⟨c',h3,hc⟩:=tn hs h;obtain⟨gd,h3⟩:=h3;obtain⟨hh,h4,hm⟩:=tn hs h3;obtain⟨rfl,h5⟩:=h4;clear h h3;obtain⟨k1,z1,e1,p1,q1⟩:=hc;obtain⟨k2,z2,e2,p2,q2⟩:=hm;obtain⟨A,c,rfl,lk,hp⟩:=(hu.list lK).part hk (Nat.zero_le hh) gd;have hp':dg G.S w (.slice A hh hh) (.sl (xs.take hh)):=by
    have J:(if c=0 then A else A.map (·.add (0*k)))=A:=by
     split
     ·rfl
     ·cases A<;>simp [Addr.add]
    rw[J,anO]at hp;obtain⟨A',b,o,c2,k',us,e,r1,r2,r3,r4,r5,r6⟩:=hp.qD;have hl:(xs.take hh).length=hh:=by simp;omega
    injection e with eA e3 e4;subst eA;have:=dg.sl (S:=G.S) (w:=w) A b o hh k' (xs.take hh) us r1 (by omega) (by omega) r4 r5 r6
    rwa [hl]at this
   refine⟨.slice A hh hh, .full (xs.take hh),?_, .full _ hp' ⟨A,by simp;omega⟩,h5⟩;have b1:(Instr.sliceBound (.int k1 z1) c .slice3Acap).run P w= .ok hh w:=by rw[zP p1 (by omega),q1]
   have b2:(Instr.sliceBound (.int k2 z2) hh .slice3B).run P w= .ok hh w:=by rw[zP p2 (by omega),<-q2]
   simp only[Option.map_some,Option.map_none,e1,e2];have hA:A.map (·.add 0)=A:=by cases A<;>simp [Addr.add]
   simp [Instr.sliceAt,Instr.slice,Instr.sliceBounds,run_underlying fB,b1,b2,mz fS,hA]
  ·exact h.elim
theorem Gj:∀{cs:an3 AV}{ds:an3 D},mV cs=some ds->ds.length=cs.length/\∀(i:Nat)(c:AV)(d:D),cs[i]?=some c->ds[i]?=some d->c.wJ=some d
 |[],ds,h=>by simp [mV]at h;subst h;simp
 |c::cs,ds,h=>by
  unfold mV at h;split at h
  ·rename_i d l hd hl
   cases h
   obtain⟨J,h2⟩:=Gj hl;refine⟨by simp [J],λi c' d' hc iN=> ?_⟩
   match i with
   |0=>simp at hc iN;subst hc;subst iN;exact hd
   |i+1=>exact h2 i c' d' (by simpa using hc) (by simpa using iN)
  ·cases h
theorem dg.um{S:Nat->Nat->Prop}{w:an8}{u:an7}{x:D}(h:dg S w u x):dg S w u x.um:=by
 unfold D.um;split
 ·cases h with
  |v=>exact .sl none 0 0 0 0 [] (λ_ _=>undef) (λh=>absurd rfl h) (anp _) (Nat.zero_le _) (λ_ h=>absurd h anV) (λi j hi=>absurd hi (anH _)) (λi j x d hx=>by simp at hx)
 ·exact h
theorem aD.FO{u:an7}{x:AV}{d:D}(h:aD G w u x)(hx:x.wJ=some d):dg G.S w u d:=by
 unfold AV.wJ at hx;split at hx
 ·cases hx;cases h with|d h=>exact h.um
 ·cases hx;cases h with|own _ _ _ h=>exact h
 ·cases hx;cases h with|full _ h=>exact h
 ·cases hx
theorem sY(k:Nat):∀(m:Nat)(l:an3 D),(nR k m l).length=m
 |0,_=>rfl
 |m+1,l=>by simp [nR,sY k m]
theorem QX(k:Nat):∀(m:Nat)(l:an3 D)(i:Nat),i<m->(nR k m l)[i]?=some ((l.drop (i*k)).take k)
 |0,_,_,h=>by omega
 |m+1,l,0,_=>by simp [nR]
 |m+1,l,i+1,h=>by
  have:=QX k m (l.drop k) i (by omega);rw[nR,anQ,this,List.drop_drop,Nat.add_mul,Nat.one_mul,Nat.add_comm k]
theorem Xp{k m:Nat}{us:an3 an7}{ds:an3 D}(hl:ds.length=m*k)(hu:us.length=m*k)(J:∀u∈us,u.oneCell'=true)
 (hr:∀(i:Nat)(u:an7)(d:D),us[i]?=some u->ds[i]?=some d->dg G.S w u d):Rd G.S w k (nR k m ds) us:=by
 have hb:∀i,i<m->(i+1)*k<=m*k:=λi hi=>Nat.mul_le_mul_right k hi;refine⟨by rw[sY,hu],λx hx=> ?_,J,λi j x d hx hd=> ?_⟩
 ·obtain⟨i,hi⟩:=List.mem_iff_getElem?.1 hx;have JD:i<m:=by have:=(ane.1 hi).1;rwa [sY]at this
  rw[QX k m ds i JD]at hi;cases hi
  have:=hb i JD;rw[Nat.add_mul]at this;simp;omega
 ·have JD:i<m:=by have:=(ane.1 hx).1;rwa [sY]at this
  rw[QX k m ds i JD]at hx;cases hx
  rw[List.getElem?_take]at hd;split at hd
  ·rw[List.getElem?_drop]at hd;have:=(ane.1 hd).1;have aI:i*k+j<us.length:=by omega
   exact⟨us[i*k+j],ani aI,hr _ _ _ (ani aI) hd⟩
  ·cases hd
theorem agO{k U e':Nat}{y:AV}{v:an7}{C:an3 (an3 D)->Prop}(hi:bJ G w s.h)(hv:aD G w v y)(hk:0<k)(hU:P.underlying U=some (.slice e'))(h:vf s.h k y C):
 ∃ys us,Rd G.S w k ys us/\Src P k U v ys.length us w/\C ys:=by
 unfold vf at h;split at h
 ·rename_i m off len cap k'
  split at h
  ·rename_i cs hm
   split at h
   ·rename_i ds ra
    obtain⟨fu,hC⟩:=bK.1 h;simp only[ang,beq_iff_eq,c6]at fu;obtain⟨⟨rfl,hlen⟩,jt⟩:=fu;obtain⟨J,h2⟩:=Gj ra;obtain⟨_,_,vs,T,hh,hl,hr⟩:=hi.cV m _ hm;cases hv with
    |row _ _ _ _ _ wZ lk qd=>
     have A6:ds.length=len*k':=by rw[J];simp;omega
     have nZ:((vs.toList.drop off).take (len*k')).length=len*k':=by simp;omega
     have Ay:∀(i:Nat)(u:an7)(c:AV),((vs.toList.drop off).take (len*k'))[i]?=some u->((cs.drop off).take (len*k'))[i]?=some c->aD G w u c:=λi u c hu hc=>by
      rw[List.getElem?_take]at hu hc;split at hu
      ·rename_i ny
       rw[if_pos ny]at hc;rw[List.getElem?_drop]at hu hc;exact hr _ u c (by rw[<-anC];exact hu) hc
      ·cases hu
     have gd:((cs.drop off).take (len*k')).length=len*k':=by simp;omega
     have Vo:∀u∈(vs.toList.drop off).take (len*k'),u.oneCell'=true:=λu hu=>by
      obtain⟨i,hi⟩:=List.mem_iff_getElem?.1 hu;have jC:i<len*k':=by rw[<-nZ];exact(ane.1 hi).1
      have Co:=ani (l:=(cs.drop off).take (len*k')) (i:=i) (by rw[gd];exact jC);exact(Ay i u _ hi Co).ky (anF.1 jt _ (anr Co))
     have xl:=Xp (G:=G) (w:=w) (k:=k') (m:=len) A6 nZ Vo (λi u d hu hd=>by
      have jC:i<len*k':=by rw[<-nZ];exact(ane.1 hu).1
      have Co:=ani (l:=(cs.drop off).take (len*k')) (i:=i) (by rw[gd];exact jC);exact(Ay i u _ hu Co).FO (h2 i _ d Co hd))
     refine⟨_,_,xl,?_,hC⟩;rw[sY];refine Src.ofSlice w hU _ len cap _ nZ (λj u hu=> ?_) Vo;rw[List.getElem?_take]at hu;split at hu
     ·rw[List.getElem?_drop,anC]at hu;rw[lL,cell_of_row w _ _ vs T (0,0) hh];exact hu
     ·cases hu
   ·exact h.elim
  ·exact h.elim
 ·split at h
  ·rename_i ys jO
   obtain⟨us,J,h2⟩:=(hv.list jO).src (P:=P) hk h.1 hU;exact⟨ys,us,J,h2,h.2⟩
  ·exact h.elim
theorem D7:dg G.S w (.slice none 0 0) (.sl []):=
 .sl none 0 0 0 0 [] (λ_ _=>undef) (λh=>absurd rfl h) (anp _) (by simp) (λ_ h=>by cases h) (λi j hi=>by simp at hi) (λi j x d hx=>by simp at hx)
theorem ak5(h:an3 ao)(x y:ao):(h++[x]).set h.length y=h++[y]:=by simp
theorem ame{T U ty e':Nat}{x y:AV}{u v:an7}{C:AV->an3 ao->Prop}(hi:bJ G w s.h)(hu:aD G w u x)(hv:aD G w v y)(hU:P.underlying U=some (.slice e'))(h:tU P T s.h x y C):
 ∃p w' G' q h',(Builtin.append_ #[T,U] ty #[u,v]).run P w= .ok p w'/\bI G.N G w G' w'/\G.N<=G'.N/\bJ G' w' h'/\aD G' w' p q/\C q h':=by
 unfold tU at h;split at h
 ·rename_i e k hT
  obtain⟨fB,fS⟩:=jV hT;split at h
  ·rename_i z cN hz py
   obtain⟨fu,h⟩:=bK.1 h;simp only[ang,beq_iff_eq,c6,anM]at fu;obtain⟨hk,j9⟩:=fu;obtain⟨i,jS,kL,Gi⟩:=Qi fS py;have YL:i.zero=some z:=by
    obtain⟨i',J,h2⟩:=F5 hz;rw[jS]at J;cases J;exact h2
   obtain⟨ys,us,hr,hs,h2⟩:=agO hi hv hk hU h;clear h;have fresh:∀(xs:an3 (an3 D)),dg G.S w u (.sl xs)->(∃A,u= .slice A xs.length xs.length)->(∀c∈xs,c.length=k)->xs.length+ys.length<=maxLen->(xs.length+ys.length)*cN<=140737488355328->
    C (.own s.h.length (xs++ys)) (s.h++[.front e k (xs.length+ys.length)])->
    ∃p w' G' q h',(Builtin.append_ #[T,U] ty #[u,v]).run P w= .ok p w'/\bI G.N G w G' w'/\G.N<=G'.N/\bJ G' w' h'/\aD G' w' p q/\C q h':=by
    intro xs hp hf nA hm hb hC;obtain⟨a1,a2,a3,a4⟩:=Ny hi hp hf e k;obtain⟨p,w',G',r1,r2,r3,r4,r5⟩:=VZ (P:=P) (ty:=ty) a3 fB jS YL kL Gi j9 hk (n:=s.h.length) (xs:=xs) (ys:=ys) (by simp) a4 nA (hr.keep a1.S a1.cell) hs hm hb;rw[ak5]at r4;exact⟨p,w',G',_,_,r1,a1.trans (r2.less a2),anw a2 r3,r4,r5,hC⟩
   split at h2
   ·rename_i m xs
    split at h2
    ·rename_i e2 k2 len hm
     obtain⟨fu,rfl,nA,qd,hb,hC⟩:=bK.1 h2;simp only[ang,beq_iff_eq]at fu;obtain⟨rfl,rfl⟩:=fu;obtain⟨p,w',G',r1,r2,r3,r4,r5⟩:=VZ (P:=P) (ty:=ty) hi fB jS YL kL Gi j9 hk hm hu nA hr hs qd hb;exact⟨p,w',G',_,_,r1,r2,r3,r4,r5,hC⟩
    ·exact h2.elim
   ·have:=hu.val;subst this;obtain⟨qd,hb,hC⟩:=h2;exact fresh [] D7 ⟨none,rfl⟩ (λ_ h=>by cases h) (by simpa using qd) (by simpa using hb) (by simpa using hC)
   ·rename_i xs
    obtain⟨nA,qd,hb,hC⟩:=h2;cases hu with
    |full _ hp hf=>exact fresh xs hp hf nA qd hb hC
   ·exact h2.elim
  ·exact h.elim
 ·exact h.elim
end
theorem aa1(off:Nat):∀(l:an3 an7)(k:Nat)(cs:Array an7),((l.zipIdx k).foldl (λcs(p:an7×Nat)=>cs.setIfInBounds (off+p.2) p.1) cs).size=cs.size/\
 ∀i,off+k+l.length<=cs.size->((l.zipIdx k).foldl (λcs(p:an7×Nat)=>cs.setIfInBounds (off+p.2) p.1) cs)[i]?=if off+k<=i/\i<off+k+l.length then l[i-(off+k)]? else cs[i]?
 |[],k,cs=>⟨rfl,λi _=>by
    have h:¬(off+k<=i/\i<off+k+([]:an3 an7).length):=by simp
    rw[if_neg h];rfl⟩
 |u::l,k,cs=>by
  obtain⟨J,h2⟩:=aa1 off l (k+1) (cs.setIfInBounds (off+k) u);simp only[List.zipIdx_cons,List.foldl_cons];refine⟨by rw[J];simp,λi hi=> ?_⟩;simp only[anh]at hi ⊢;rw[h2 i (by simp;omega)];by_cases ha:off+(k+1)<=i/\i<off+(k+1)+l.length
  ·rw[if_pos ha,if_pos ⟨by omega,by omega⟩];rw[show i-(off+k)=i-(off+(k+1))+1 by omega,anQ]
  ·rw[if_neg ha];by_cases hb:i=off+k
   ·subst hb;rw[if_pos ⟨anp _,by omega⟩,Nat.sub_self,List.getElem?_cons_zero,Array.getElem?_setIfInBounds_self_of_lt (by omega)]
   ·rw[if_neg (by omega),Array.getElem?_setIfInBounds_ne (Ne.symm hb)]
section
variable {P:an6} {G:Gh} {w:an8}
structure Row(G:Gh)(w:World)(vs:Array Value)(cs:List AV):Prop where
 len:vs.size=cs.length
 rel:∀(i:Nat)(u:Value)(c:AV),vs[i]?=some u->cs[i]?=some c->aD G w u c
 one:∀(i:Nat)(u:Value),vs[i]?=some u->u.oneCell'=true
theorem ahr{vs us:Array an7}{cs ys:an3 AV}(h:Row G w vs cs)(h':Row G w us ys){off:Nat}(hb:off+ys.length<=cs.length):
 Row G w (us.zipIdx.foldl (λcs(p:an7×Nat)=>cs.setIfInBounds (off+p.2) p.1) vs) (iP cs off ys):=by
 have e:us.zipIdx.foldl (λcs(p:an7×Nat)=>cs.setIfInBounds (off+p.2) p.1) vs=(us.toList.zipIdx 0).foldl (λcs(p:an7×Nat)=>cs.setIfInBounds (off+p.2) p.1) vs:=by
  rw[<-Array.foldl_toList,Array.toList_zipIdx]
 obtain⟨J,h2⟩:=aa1 off us.toList 0 vs;rw[<-e]at J h2;have hl:us.toList.length=ys.length:=by rw[anM,h'.len]
 have hle:off+0+us.toList.length<=vs.size:=by rw[hl,h.len];omega
 have hs:∀i,(iP cs off ys)[i]?=if off+0<=i/\i<off+0+us.toList.length then ys[i-off]? else cs[i]?:=λi=>by
  unfold iP;rw[anv];by_cases ha:i<off
  ·rw[ano (by simp;omega),List.getElem?_take_of_lt ha,if_neg (by omega)]
  ·rw[anu (by simp;omega)];simp only[List.length_take];rw[Nat.min_eq_left (by omega)];by_cases hb:i-off<ys.length
   ·rw[ano hb,if_pos (by omega)]
   ·rw[anu (by omega),List.getElem?_drop,if_neg (by omega),show off+ys.length+(i-off-ys.length)=i by omega]
 refine⟨by rw[J,C0 _ _ _ hb,h.len],λi u c hu hc=> ?_,λi u hu=> ?_⟩
 ·rw[h2 i hle]at hu;rw[hs]at hc;split at hu
  ·rename_i hp
   rw[if_pos hp]at hc;exact h'.rel _ _ _ (by rw[<-anC];exact hu) hc
  ·rename_i hp
   rw[if_neg hp]at hc;exact h.rel _ _ _ hu hc
 ·rw[h2 i hle]at hu;split at hu
  ·exact h'.one _ _ (by rw[<-anC];exact hu)
  ·exact h.one _ _ hu
theorem aD.XT{u:an7}{x:AV}(h:aD G w u x)(hb:x.jD=true):Row G w u.cells x.cells:=by
 obtain⟨J,h2⟩:=h.cells hb;refine⟨J,λi v c hv hc=>(h2 i v c hv hc).1,λi v hv=> ?_⟩;have aI:i<x.cells.length:=by rw[<-J];exact(ant.1 hv).1
 exact(h2 i v _ hv (ani aI)).2
theorem QY(place:Nat->an5 (Nat×Nat))(places:an3 (Nat×Nat))(hp:∀i pl,places[i]?=some pl->place i=some pl):∀(ps:an3 (Nat×AV))(qs:an3 (Nat×an7))(cs cw:an3 AV)(vs:Array an7),Row G w vs cs->
 qs.length=ps.length->(∀(i:Nat)(p:Nat×AV)(q:Nat×an7),ps[i]?=some p->qs[i]?=some q->q.1=p.1/\aD G w q.2 p.2)->(ps.all λp=>p.2.jD)=true->pK places cs ps=some cw->
 ∃fG,Instr.fill place vs qs=some fG/\Row G w fG cw
 |[],[],cs,cw,vs,h,_,_,_,hf=>by
  simp only[pK,Option.some.injEq]at hf;subst hf;exact⟨vs,rfl,h⟩
 |[],_::_,_,_,_,_,hl,_,_,_=>by simp at hl
 |_::_,[],_,_,_,_,hl,_,_,_=>by simp at hl
 |(j,x)::ps,(j',u)::qs,cs,cw,vs,h,hl,hr,hb,hf=>by
  obtain⟨e1,e2⟩:=hr 0 (j,x) (j',u) rfl rfl;simp only at e1 e2;subst e1;simp only[anZ,ang]at hb;unfold pK at hf;split at hf
  ·rename_i off k Ei
   rw[cond_eq_ite]at hf;split at hf
   ·rename_i hc
    simp only[ang,beq_iff_eq,c6]at hc;have oG:=e2.XT hb.1;obtain⟨fG,J,h2⟩:=QY place places hp ps qs _ cw _ (ahr h oG (by rw[hc.1];exact hc.2)) (by simpa using hl) (λi p q hp hq=>hr (i+1) p q (by simpa using hp) (by simpa using hq)) hb.2 hf;refine⟨fG,?_,h2⟩;unfold Instr.fill;rw[hp _ _ Ei];have h3:¬(u.cells.size≠k||decide (off+u.cells.size>vs.size))=true:=by
     rw[oG.len,hc.1,h.len];simp;exact hc.2
    simp only[h3];exact J
   ·cases hf
  ·cases hf
theorem abd{z:Array an7}(h:z.toList.all Value.oneCell'=true):z.all (·.oneCell')=true:=by
 rw[anF]at h;exact Array.all_eq_true_iff_forall_mem.2 λu hu=>h u (Array.mem_toList_iff.2 hu)
theorem aiN(z:an7)(h:z.cells.all (·.oneCell')=true):Row G w z.cells (z.cells.toList.map λu=> .d (.v u)):=by
 refine⟨by simp,λi u c hu hc=> ?_,λi u hu=>Array.all_eq_true_iff_forall_mem.1 h u (Array.mem_of_getElem? hu)⟩;rw[anl,anC,hu]at hc;cases hc
 exact .d (.v u)
theorem RT:∀(fs:an3 Field)(ps:an3 (Nat×Nat))(w:an8),E7 P fs=some ps->(fs.mapM (m:=Sem) λf=>do pure (f.offset,<-sizeOf f.type)).run P w= .ok ps w
 |[],ps,w,h=>by simp [E7]at h;subst h;simp
 |f::fs,ps,w,h=>by
  unfold E7 at h;simp only[List.mapM_cons,Option.bind_eq_bind,Option.bind_eq_some_iff,Option.map_eq_some_iff,Option.pure_def,Option.some.injEq]at h;obtain⟨p,⟨k,hk,rfl⟩,qs,hq,rfl⟩:=h;have ih:=RT fs qs w hq;simp only[List.mapM_cons,Sem.run_bind,mz hk,Sem.run_pure,Result.andThen_ok,ih]
theorem ado{T:Nat}{ps:an3 (Nat×AV)}{qs:Array (Nat×an7)}{C:AV->Prop}(hl:qs.toList.length=ps.length)
 (hr:∀(i:Nat)(p:Nat×AV)(q:Nat×an7),ps[i]?=some p->qs.toList[i]?=some q->q.1=p.1/\aD G w q.2 p.2) (h:wL P T ps C):∃u y,(Instr.build T qs).run P w= .ok u w/\aD G w u y/\C y:=by
 unfold wL at h;split at h
 ·rename_i places z GD hz
  obtain⟨fs,hT,Ei⟩:∃fs,P.underlying T=some (.struct fs)/\E7 P fs.toList=some places:=by
   unfold OQ at GD;split at GD
   ·exact⟨_,by assumption,GD⟩
   ·cases GD
  ·split at h
   ·rename_i cs hf
    obtain⟨fu,hC⟩:=bK.1 h;simp only[ang]at fu;obtain⟨hb,jt⟩:=fu;have jt:=abd jt;have ml:(fs.mapM (m:=Sem) λf=>do pure (f.offset,<-sizeOf f.type)).run P w= .ok places.toArray w:=by
     rw[Array.mapM_eq_mapM_toList];have:=RT fs.toList places w Ei;have e:(Functor.map List.toArray (fs.toList.mapM (m:=Sem) λf=>do pure (f.offset,<-sizeOf f.type)):Sem _)=(fs.toList.mapM (m:=Sem) λf=>do pure (f.offset,<-sizeOf f.type))>>=λl=>pure l.toArray:=rfl;rw[e,Sem.run_bind,this];rfl
    obtain⟨fG,J,h2⟩:=QY (λi=>places.toArray[i]?) places (λi pl h=>by simpa using h) ps qs.toList _ cs z.cells (aiN (G:=G) (w:=w) z jt) hl hr hb hf;refine⟨.agg fG, .agg cs,?_, .agg fG cs h2.len h2.rel,hC⟩;unfold Instr.build;simp only[Sem.run_bind,Cu hz,Result.andThen_ok,run_underlying hT,ml,J,Sem.run_pure]
   ·exact h.elim
 ·exact h.elim
theorem aaT{T:Nat}(h:Aq P T=true):P.underlying T=some .bool:=by
 unfold Aq at h;split at h
 ·assumption
 ·cases h
theorem H7{T:Nat}{k:IntKind}(h:qZ P T=some k):P.underlying T=some (.int k):=by
 unfold qZ at h;split at h
 ·cases h;assumption
 ·cases h
theorem VJ{t off:Nat}{vs:Array an7}{u:an7}(ha:mr P t=some false)(hu:vs[off]?=some u):(part t vs off).run P w= .ok u w:=by
 unfold part;rw[Sem.run_bind,CY ha w];simp [hu]
theorem alU{t:Nat}{u v:an7}{x y:AV}{b:Bool}(d:Nat)(hu:aD G w u x)(hv:aD G w v y)(h:D9 P t x y=some b):(Op.equalIn (d+1) t u v).run P w= .ok b w:=by
 unfold D9 at h;split at h
 ·have e1:=hu.val;have e2:=hv.val;subst e1;subst e2
  rename_i k a k' b'
  cases hc:wC k k'&&(qZ P t).isSome with
  |false=>rw[hc]at h;cases h
  |true=>
   rw[hc]at h;cases h;rw[ang,L0]at hc;obtain⟨rfl,hc⟩:=hc;obtain⟨k2,hk⟩:=Option.isSome_iff_exists.1 hc;exact run_equalIn_int w d t k k2 a b' (H7 hk)
 ·have e1:=hu.val;have e2:=hv.val;subst e1;subst e2;cases hc:h1 P t with
  |false=>rw[hc]at h;cases h
  |true=>rw[hc]at h;cases h;rw[<-PY,<-PY];exact run_equalIn_string w d t _ _ (rM hc)
 ·have e1:=hu.val;have e2:=hv.val;subst e1;subst e2;cases hc:Aq P t with
  |false=>rw[hc]at h;cases h
  |true=>rw[hc]at h;cases h;exact run_equalIn_bool w d t _ _ (aaT hc)
 ·cases h
theorem abV{t off k:Nat}{vs:Array an7}(ha:mr P t=some true)(hk:fW P t=some k):(part t vs off).run P w= .ok (.agg (vs.extract off (off+k))) w:=by
 unfold part;rw[Sem.run_bind,CY ha w];simp [mz hk]
theorem Zr{us:Array an7}{xs:an3 AV}{off k:Nat}(hx:us.size=xs.length)(hb:off+k<=xs.length)(hu:∀(i:Nat)(u:an7)(c:AV),us[i]?=some u->xs[i]?=some c->aD G w u c):
 (us.extract off (off+k)).size=((xs.drop off).take k).length/\∀(i:Nat)(u:an7)(c:AV),(us.extract off (off+k))[i]?=some u->((xs.drop off).take k)[i]?=some c->aD G w u c:=by
 refine⟨by simp;omega,λi u c J h2=> ?_⟩;rw[List.getElem?_take]at h2;split at h2
 ·next hi=>
  rw[List.getElem?_drop]at h2;rw[Array.getElem?_extract]at J;split at J
  ·exact hu _ _ _ J h2
  ·cases J
 ·cases h2
theorem KX{sub:TypeId->an3 AV->an3 AV->an5 Bool}(d:Nat)
 (uC:∀(T:Nat)(us vs:Array an7)(xs ys:an3 AV)(b:Bool),us.size=xs.length->vs.size=ys.length->(∀(i:Nat)(u:an7)(c:AV),us[i]?=some u->xs[i]?=some c->aD G w u c)->(∀(i:Nat)(u:an7)(c:AV),vs[i]?=some u->ys[i]?=some c->aD G w u c)->sub T xs ys=some b->(Op.equalIn (d+1) T (.agg us) (.agg vs)).run P w= .ok b w)
 {us vs:Array an7} {xs ys:an3 AV} (hx:us.size=xs.length) (hy:vs.size=ys.length)
 (hu:∀(i:Nat)(u:an7)(c:AV),us[i]?=some u->xs[i]?=some c->aD G w u c) (hv:∀(i:Nat)(u:an7)(c:AV),vs[i]?=some u->ys[i]?=some c->aD G w u c):
 ∀(fs:an3 Field)(b:Bool),zQ P sub fs xs ys=some b->(Op.eqFields (d+1) us vs fs).run P w= .ok b w
 |[],b,h=>by cases h;simp [Op.eqFields]
 |f::fs,b,h=>by
  unfold zQ at h;cases hn:f.name== "_" with
  |true=>rw[hn]at h;cases h
  |false=>
   rw[hn]at h;simp only[cond_false]at h;have cA:f.name≠ "_" :=by simpa using hn
   split at h
   ·next e1=>
    split at h
    ·next x y e2 e3=>
     split at h
     ·next a c e4 e5=>
      cases h
      have l1:f.offset<us.size:=by rw[hx];exact(ane.1 e2).1
      have l2:f.offset<vs.size:=by rw[hy];exact(ane.1 e3).1
      have g1:=anB l1;have g2:=anB l2;simp only[Op.eqFields,if_pos cA,Sem.run_bind,VJ (w:=w) e1 g1,VJ (w:=w) e1 g2,Result.andThen_ok,alU d (hu _ _ _ g1 e2) (hv _ _ _ g2 e3) e4];cases a with
      |true=>simp only[Bool.not_true,Bool.false_eq_true,if_false,Bool.true_and];exact KX d uC hx hy hu hv fs c e5
      |false=>simp
     ·cases h
    ·cases h
   ·next e1=>
    split at h
    ·next k e2=>
     cases mQ:cf (f.offset+k) xs.length&&cf (f.offset+k) ys.length with
     |false=>rw[mQ]at h;cases h
     |true=>
      rw[mQ]at h;rw[ang,c6,c6]at mQ;simp only[cond_true]at h;split at h
      ·next a c e4 e5=>
       cases h
       obtain⟨p1,p2⟩:=Zr hx mQ.1 hu;obtain⟨q1,q2⟩:=Zr hy mQ.2 hv;simp only[Op.eqFields,if_pos cA,Sem.run_bind,abV (w:=w) e1 e2,Result.andThen_ok,uC _ _ _ _ _ a p1 q1 p2 q2 e4];cases a with
       |true=>simp only[Bool.not_true,Bool.false_eq_true,if_false,Bool.true_and];exact KX d uC hx hy hu hv fs c e5
       |false=>simp
      ·cases h
    ·cases h
   ·cases h
theorem aaG:∀(n d:Nat)(T:Nat)(us vs:Array an7)(xs ys:an3 AV)(b:Bool),us.size=xs.length->vs.size=ys.length->(∀(i:Nat)(u:an7)(c:AV),us[i]?=some u->xs[i]?=some c->aD G w u c)->(∀(i:Nat)(u:an7)(c:AV),vs[i]?=some u->ys[i]?=some c->aD G w u c)->HT P n T xs ys=some b->(Op.equalIn (d+n+1) T (.agg us) (.agg vs)).run P w= .ok b w
 |0,_,_,_,_,_,_,_,_,_,_,_,h=>by cases h
 |n+1,d,T,us,vs,xs,ys,b,hx,hy,hu,hv,h=>by
  unfold HT at h;split at h
  ·next fs hT=>
   cases hc:P.stoodInHeld T with
   |true=>rw[hc]at h;cases h
   |false=>
    rw[hc]at h;have hf:P.fieldsOf T=fs:=by unfold Program.fieldsOf;rw[hT]
    rw[show d+(n+1)+1=(d+n+1)+1 by omega,run_equalIn_struct w (d+n+1) T us vs (by rw[hf];exact hT) hc,hf];exact KX (d+n) (λT' Qc fG Ol Oj b'=>aaG n d T' Qc fG Ol Oj b') hx hy hu hv _ b h
  ·cases h
theorem alu{T:Nat}{us vs:Array an7}{xs ys:an3 AV}{b:Bool}(hx:us.size=xs.length)(hy:vs.size=ys.length)
 (hu:∀(i:Nat)(u:an7)(c:AV),us[i]?=some u->xs[i]?=some c->aD G w u c) (hv:∀(i:Nat)(u:an7)(c:AV),vs[i]?=some u->ys[i]?=some c->aD G w u c) (h:Jw P T xs ys=some b):
 P.eqGuardType P.depth T=false/\(Op.equalIn 10000 T (.agg us) (.agg vs)).run P w= .ok b w:=by
 unfold Jw at h;split at h
 ·next fs hT=>
  cases hc:P.stoodInHeld T||P.eqGuardType P.depth T with
  |true=>rw[hc]at h;cases h
  |false=>
   rw[hc]at h;rw[an2]at hc;refine⟨hc.2,?_⟩;have hf:P.fieldsOf T=fs:=by unfold Program.fieldsOf;rw[hT]
   rw[run_equalIn_struct w 9999 T us vs (by rw[hf];exact hT) hc.1,hf];exact KX 9998 (λT' Qc fG Ol Oj b'=>aaG 4 9994 T' Qc fG Ol Oj b') hx hy hu hv _ b h
 ·cases h
theorem amx{op:BinOp}{x y:AV}{u v:an7}{T:Nat}{X Y:Operand}{C:AV->Prop}(hu:aD G w u x)(hv:aD G w v y)(h:wU P T op x y C):
 ∃r z,(do eqGuard op T X Y u v;binOp op T u v:Sem an7).run P w= .ok r w/\aD G w r z/\C z:=by
 unfold wU at h;split at h
 ·rename_i k a k' b
  have e1:=hu.val;have e2:=hv.val;subst e1;subst e2;have hg:(eqGuard op T X Y (.int k a) (.int k' b)).run P w= .ok () w:=by unfold eqGuard;cases op<;>simp
  rw[Sem.run_bind,hg];simp only[Result.andThen_ok];split at h
  ·rename_i z hq
   obtain⟨tq,hp,hC⟩:=bK.1 h;rw[L0]at tq;subst tq;refine⟨z,_,?_, .d (.v z),hC⟩;cases op<;>simp [Me]at hq<;>subst hq<;>simp [binOp,Op.intDiv,hp]
  ·split at h
   ·rename_i z hq
    refine⟨z,_,?_, .d (.v z),h.2⟩;have hb:¬b<0:=by omega
    cases op<;>simp [P9]at hq<;>subst hq<;>simp [binOp,Op.shift,hb]
   ·split at h
    ·rename_i z hq
     obtain⟨tq,hC⟩:=bK.1 h;rw[L0]at tq;subst tq;refine⟨z,_,?_, .d (.v z),hC⟩;cases op<;>simp [Rn]at hq<;>subst hq<;>simp [binOp,Op.intArith,Op.intCmp,Op.intBits]
    ·exact h.elim
 ·rename_i a b
  have e1:=hu.val;have e2:=hv.val;subst e1;subst e2;have hg:(eqGuard op T X Y (.string a) (.string b)).run P w= .ok () w:=by unfold eqGuard;cases op<;>simp
  rw[Sem.run_bind,hg];simp only[Result.andThen_ok];split at h
  ·rename_i z hq
   refine⟨z,_,?_, .d (.v z),h⟩;cases op<;>simp [Qx]at hq<;>subst hq<;>simp [binOp,Op.stringOp,PY]
  ·split at h
   ·refine⟨_,_,?_, .d (.v _),h.2⟩;have hm:¬(((a.size+b.size:Nat):Int)>IntKind.i64.max):=by
     have:=h.1;unfold maxLen at this;have e:IntKind.i64.max=9223372036854775807:=by decide
     rw[e];omega
    simp only[binOp,Op.stringOp];rw[if_neg hm];rfl
   ·exact h.elim
 ·rename_i a b
  have e1:=hu.val;have e2:=hv.val;subst e1;subst e2;have hg:(eqGuard op T X Y (.bool a) (.bool b)).run P w= .ok () w:=by unfold eqGuard;cases op<;>simp
  rw[Sem.run_bind,hg];simp only[Result.andThen_ok];split at h
  ·rename_i z hq
   obtain⟨hT,hC⟩:=bK.1 h;have hT:=aaT hT;refine⟨z,_,?_, .d (.v z),hC⟩;have hb:=run_equalIn_bool (P:=P) w 9999 T a b hT;cases op<;>simp [LG]at hq<;>subst hq<;>simp [binOp,Op.equal,Op.maxDepth,hb]
  ·exact h.elim
 ·rename_i xs ys
  cases hu with
  |agg us _ Je CA=>
   cases hv with
   |agg vs _ yU DH=>
    split at h
    ·next b hb=>
     obtain⟨hg,he⟩:=alu Je yU CA DH hb;rw[Sem.run_bind,run_eqGuard_agg w op T X Y us vs hg];simp only[Result.andThen_ok];split at h
     ·next z hz=>
      refine⟨z,_,?_, .d (.v z),h⟩;cases op<;>simp [xJ]at hz<;>subst hz
      ·rw[run_eql_struct,he];rfl
      ·rw[run_neq_struct,he];rfl
     ·exact h.elim
    ·exact h.elim
 ·exact h.elim
theorem agp{op:UnOp}{x:AV}{u:an7}{C:AV->Prop}(hu:aD G w u x)(h:vN op x C):∃r z,(Op.unary op u).run P w= .ok r w/\aD G w r z/\C z:=by
 unfold vN at h;split at h
 ·rename_i v
  have e:=hu.val;subst e;split at h
  ·rename_i z hq
   refine⟨z,_,?_, .d (.v z),h⟩;unfold Iv at hq;split at hq
   ·cases hq;simp [Op.unary]
   ·cases hq;simp [Op.unary,Op.intArith]
   ·cases hq;simp [Op.unary,Op.intBits]
   ·cases hq
  ·exact h.elim
 ·exact h.elim
theorem ama{T:Nat}(h:Fl P T=true):P.underlying T=some (.int .u8):=by
 unfold Fl at h;split at h
 ·assumption
 ·cases h
theorem aex{a b:Nat}{x:AV}{u:an7}{C:AV->Prop}(hu:aD G w u x)(h:xn P a b x C):∃r z,(convert a b u).run P w= .ok r w/\aD G w r z/\C z:=by
 unfold xn at h;split at h
 ·rename_i k2 m
  have e:=hu.val;subst e;split at h
  ·rename_i k1 k J h2
   refine⟨_,_,?_, .d (.v _),h⟩;simp [convert,run_underlying (H7 J),run_underlying (H7 h2),Conv.intToInt]
  ·exact h.elim
 ·rename_i s
  have e:=hu.val;subst e;obtain⟨fu,hC⟩:=bK.1 h;rw[ang]at fu;refine⟨_,_,?_, .d (.v _),hC⟩;simp [convert,run_underlying (rM fu.1),run_underlying (rM fu.2)]
 ·split at h
  ·rename_i xs e k lK hT
   obtain⟨fu,ns,rfl,hC⟩:=bK.1 h;rw[ang]at fu;refine⟨_,_,?_, .d (.v _),hC⟩;obtain⟨A,bb,o,cc,k',us,rfl,hA,lk,xE,gM,hS,mv⟩:=(hu.list lK).qD;rw[run_convert_bytes_string w a b e A _ cc (jV hT).1 (ama fu.1) (rM fu.2)];simp only[anj]at hA lk hS ⊢;cases ns with
   |nil=>
    cases A with
    |none=>rfl
    |some ad=>
     have hl:=run_loadCells_list (P:=P) w ad (([]:an3 Int).map (Value.int .u8)) (λj v hj=>by simp at hj);simp only[List.map_nil,anq]at hl;have:=run_bytesToString (P:=P) w ad 0 cc [] (by simpa using hl);exact this
   |cons n0 ns=>
    have K4:=hA (by simp);subst K4;have jH:k'=1:=(gM [.v (.int .u8 n0)] (by simp)).symm;subst jH;have hl:=run_loadCells_list (P:=P) w ⟨bb,o,none⟩ ((n0::ns).map (Value.int .u8)) (λj v hj=>by
     have aI:=(ane.1 hj).1;rw[anj]at aI;have J:=(hS j 0 aI (by omega)).2.1;rw[anl,ani aI]at hj;cases hj
     have h2:=mv j 0 [.v (.int .u8 ((n0::ns)[j]))] (.v (.int .u8 ((n0::ns)[j]))) (by rw[anl,ani aI];rfl) rfl;have h3:us j 0= .int .u8 ((n0::ns)[j]):=by
      generalize us j 0=q at h2;cases h2;rfl
     rw[lL];rw[h3]at J
     simpa using J)
    rw[anj]at hl;rw[run_bytesToString w _ _ cc _ hl];have key:∀(l:an3 Int)(r:an4),l.foldl (λr n=>r.push (UInt8.ofNat n.toNat)) r=⟨r.data++(l.map λn=>UInt8.ofNat n.toNat).toArray⟩:=by
      intro l
      induction l with
      |nil=>intro r;simp
      |cons x l ih=>intro r;rw[List.foldl_cons,ih];simp [ByteArray.push]
    rw[key];have Cf:ByteArray.empty.data= #[]:=rfl;rw[Cf];simp
  ·exact h.elim
theorem O1{T f off k:Nat}{g:Bool}(h:sy P T f=some (off,k,g)):∃fs fd,P.underlying T=some (.struct fs)/\fs[f]?=some fd/\fW P fd.type=some k/\0<k/\mr P fd.type=some g/\fd.offset=off:=by
 unfold sy at h;split at h
 ·rename_i fs hT
  split at h
  ·rename_i fd hf
   split at h
   ·rename_i k' g' J h2
    cases h
    exact⟨fs,fd,hT,hf,J,Nat.succ_pos _,h2,rfl⟩
   ·cases h
  ·cases h
 ·cases h
theorem MO{T f off k o b:Nat}{g:Bool}(h:sy P T f=some (off,k,g)):(Instr.fieldAt T (.pointer (some ⟨b,o,none⟩)) f).run P w= .ok (.pointer (some ⟨b,o+off,none⟩)) w:=by
 obtain⟨fs,fd,J,h2,h3,h4,h5,rfl⟩:=O1 h;simp [Instr.fieldAt,run_underlying J,h2,Instr.sureAddr,fieldPlace,mz h3,Nat.ne_of_gt h4,lL]
theorem ahk{T f:Nat}{x:AV}{u:an7}{C:AV->Prop}(hu:aD G w u x)(h:vS P T x f C):∃r z,(Instr.field T u f).run P w= .ok r w/\aD G w r z/\C z:=by
 unfold vS at h;split at h
 ·rename_i off k cs hT
  obtain⟨hl,hC⟩:=bK.1 h;rw[c6]at hl;obtain⟨fs,fd,J,h2,h3,h4,h5,rfl⟩:=O1 hT;cases hu with
  |agg vs _ hlen hr=>
   refine⟨.agg (vs.extract fd.offset (fd.offset+k)),_,?_, .agg _ _ ?_ λi u c hu hc=> ?_,hC⟩
   ·simp [Instr.field,run_underlying J,h2,asAgg,part,CY h5,mz h3]
   ·simp;omega
   ·rw[Array.getElem?_extract]at hu;rw[List.getElem?_take]at hc;split at hc
    ·rw[List.getElem?_drop]at hc;split at hu
     ·exact hr _ u c hu hc
     ·cases hu
    ·cases hc
 ·rename_i off k cs hT
  obtain⟨fs,fd,J,h2,h3,h4,h5,rfl⟩:=O1 hT;split at h
  ·rename_i c hc
   cases hu with
   |agg vs _ hlen hr=>
    have aI:fd.offset<vs.size:=by rw[hlen];exact(ane.1 hc).1
    refine⟨vs[fd.offset],c,?_,hr _ _ c (anB aI) hc,h⟩;simp [Instr.field,run_underlying J,h2,asAgg,part,CY h5,anB aI]
  ·exact h.elim
 ·exact h.elim
end
def Gh.o8(G:Gh)(b m:Nat):Gh:={G with S:=λc o=>G.S c o\/(c=b/\o<m)}
theorem aa2{G:Gh}{w:an8}{h:an3 ao}(hi:bJ G w h)(ob:Obj)(m:Nat):bI G.N G w (G.o8 w.heap.size m) (w.alloc ob)/\bJ (G.o8 w.heap.size m) (w.alloc ob) h:=by
 have hE:bI G.N G w (G.o8 w.heap.size m) (w.alloc ob):=
  ⟨by simp,λ_ _ h=> .inl h,λb _ h=>World.cell?_alloc_lt _ _ _ (hi.S _ _ h),λ_ _=>rfl,λ_ _=> .inl ⟨rfl,rfl⟩,gU rfl,λb hb=>Below.heap_alloc w ob b (hi.z b hb),rfl,rfl,rfl,λb o hs=>hs.imp id fun⟨e,_⟩ hz=>anT _ (hi.z _ (e▸hz))⟩
 refine⟨hE,hi.len,λb hb=>anD (hi.z b hb) hE.size,λb o hs=> ?_,λn B hB=> ?_,λm n b J h2=>hi.inj m n b J h2,hi.gl.keep hE⟩
 ·rcases hs with hs|⟨rfl,_⟩
  ·exact anD (hi.S b o hs) hE.size
  ·simp
 ·refine dP.keep (hi.lt hB) hE (anp _) ⟨rfl,rfl,rfl⟩ (λb hb=> ?_) (hi.cV n B hB);have aI:=hi.gX (n:=n) (b:=b) ((dx hB).trans hb);refine⟨Below.heap_alloc w _ _ aI,λo jG hs=> ?_⟩;rcases hs with hs|⟨e,_⟩
  ·exact jG hs
  ·omega
theorem SV(k:Nat):∀(n o i:Nat)(pl:Nat×Nat),(ux k o n)[i]?=some pl->pl=(o+i*k,k)
 |0,_,_,_,h=>by simp [ux]at h
 |n+1,o,0,pl,h=>by simp [ux]at h;rw[<-h];simp
 |n+1,o,i+1,pl,h=>by
  have:=SV k n (o+k) i pl (by simpa [ux]using h);rw[this,Nat.add_mul];simp;omega
theorem WA(l:an3 AV):∀n,(sB n l).length=n*l.length
 |0=>by simp [sB]
 |n+1=>by rw[sB,anf,WA l n,Nat.add_mul];omega
theorem XM(l:an3 AV):∀(n i:Nat),i<n*l.length->(sB n l)[i]?=l[i%l.length]?
 |0,i,h=>by omega
 |n+1,i,h=>by
  rw[sB];by_cases hi:i<l.length
  ·rw[ano hi,Nat.mod_eq_of_lt hi]
  ·rw[anu (by omega),XM l n _ (by rw[Nat.add_mul]at h;omega),<-Nat.mod_eq_sub_mod (by omega)]
theorem abC(z:an7){k:Nat}(hz:z.cells.size=k)(n:Nat):sB n (z.cells.toList.map λu=> .d (.v u))=(List.range (n*k)).map λi=> .d (.v (z.cells[i%z.cells.size]!)):=by
 have hl:(z.cells.toList.map λu=>AV.d (.v u)).length=k:=by simp [hz]
 refine List.ext_getElem? λi=> ?_;by_cases hi:i<n*k
 ·rw[XM _ _ _ (by rw[hl];exact hi),anl,anl,List.getElem?_range hi,hl,hz,anC];have hk:0<k:=Nat.pos_of_ne_zero λe=>by subst e;simp at hi
  have aI:i%k<z.cells.size:=by rw[hz];exact Nat.mod_lt _ hk
  rw[anB aI];simp only[Option.map_some];rw[getElem!_pos z.cells (i%k) aI]
 ·rw[anL (by rw[WA,hl];omega),anL (by simp;omega)]
theorem aaw:∀{ps:an3 (Nat×AV)}{places:an3 (Nat×Nat)}{cs cw:an3 AV},pK places cs ps=some cw->cw.length=cs.length
 |[],_,_,_,h=>by simp only[pK,Option.some.injEq]at h;rw[h]
 |(i,x)::ps,places,cs,cw,h=>by
  unfold pK at h;split at h
  ·rw[cond_eq_ite]at h;split at h
   ·rename_i hc
    simp only[ang,beq_iff_eq,c6]at hc;rw[aaw h,C0 _ _ _ (by rw[hc.1];exact hc.2)]
   ·cases h
  ·cases h
section
variable {P:an6} {r:an5 Nat} {n N0:Nat} {G:Gh} {w:an8} {a:Act} {s:St} {o:Oper} {K:St->Prop} {Q:Exit->Act->an8->Prop}
theorem ago{T len:Nat}{h:an3 ao}{ps:an3 (Nat×AV)}{qs:Array (Nat×an7)}{C:AV->Prop}(hi:bJ G w h)(hl:qs.toList.length=ps.length)
 (hr:∀(i:Nat)(p:Nat×AV)(q:Nat×an7),ps[i]?=some p->qs.toList[i]?=some q->q.1=p.1/\aD G w q.2 p.2) (hC:w7 P T len ps C):
 ∃u w' G' y,(Instr.buildSlice T len qs).run P w= .ok u w'/\bI G.N G w G' w'/\G.N<=G'.N/\bJ G' w' h/\aD G' w' u y/\C y:=by
 unfold w7 at hC;split at hC
 ·rename_i e k hT
  obtain⟨fB,fS⟩:=jV hT;split at hC
  ·rename_i z hz
   split at hC
   ·rename_i cs hf
    split at hC
    ·rename_i ds ra
     obtain⟨fu,hC⟩:=bK.1 hC;simp only[ang,beq_iff_eq,c6,anM]at fu;obtain⟨⟨⟨⟨hk,Sj⟩,j9⟩,jt⟩,hb⟩:=fu;have jt:=abd jt;rw[abC z j9]at hf;have Ei:=SV k;obtain⟨z0,wH⟩:∃z0:Array an7,z0=if len*k=0 then #[]else z.cells:=⟨_,rfl⟩
     obtain⟨zr,DZ⟩:∃zr:Array an7,zr=(Array.range (len*k)).map (z0[·%z0.size]!):=⟨_,rfl⟩;have oG:Row G w zr ((List.range (len*k)).map λi=> .d (.v (z.cells[i%z.cells.size]!))):=by
      have xF:∀i,i<len*k->z0[i%z0.size]! =z.cells[i%z.cells.size]! :=λi hi=>by rw[wH,if_neg (by omega)]
      refine⟨by rw[DZ];simp,λi u c hu hc=> ?_,λi u hu=> ?_⟩
      ·rw[DZ,Array.getElem?_map]at hu;rw[anl]at hc;by_cases hi:i<len*k
       ·rw[List.getElem?_range hi]at hc;rw[Array.getElem?_range,if_pos hi]at hu;simp only[Option.map_some,Option.some.injEq]at hu hc;subst hu;subst hc;rw[xF i hi];exact .d (.v _)
       ·rw[anL (by simp;omega)]at hc;cases hc
      ·rw[DZ,Array.getElem?_map]at hu;by_cases hi:i<len*k
       ·rw[Array.getElem?_range,if_pos hi]at hu;simp only[Option.map_some,Option.some.injEq]at hu;subst hu;rw[xF i hi];have aI:i%z.cells.size<z.cells.size:=Nat.mod_lt _ (by omega);rw[getElem!_pos z.cells _ aI];exact Array.all_eq_true_iff_forall_mem.1 jt _ (Array.getElem_mem _)
       ·rw[Array.getElem?_eq_none (by simp;omega)]at hu;cases hu
     obtain⟨fG,J,h2⟩:=QY (λi=>some (i*k,k)) (ux k 0 len) (λi pl h=>by
      have:=Ei len 0 i pl h;rw[this];simp) ps qs.toList _ cs zr oG hl hr hb hf
     obtain⟨d1,d2⟩:=Gj ra;have gd:cs.length=len*k:=by
      have:=aaw hf;rw[this];simp
     have wx:fG.size=len*k:=by rw[h2.len,gd]
     obtain⟨i1,i2⟩:=aa2 hi (.cells fG e) (len*k);have xl:Rd G.S w k (nR k len ds) fG.toList:=Xp (by rw[d1,gd]) (by rw[anM,wx]) (λu hu=>by
      obtain⟨j,hj⟩:=List.mem_iff_getElem?.1 hu;exact h2.one j u (by rw[<-anC];exact hj)) (λi u d hu hd=>by
      have aI:i<cs.length:=by rw[<-d1];exact(ane.1 hd).1
      exact(h2.rel i u _ (by rw[<-anC];exact hu) (ani aI)).FO (d2 i _ d (ani aI) hd))
     have hp:dg (G.o8 w.heap.size (len*k)).S (w.alloc (.cells fG e)) (.slice (some ⟨w.heap.size,0,none⟩) len len) (.sl (nR k len ds)):=by
      have:=(xl.keep i1.S i1.cell).B3 w.heap.size len (by rw[sY];exact anp _) (by have:=Nat.le_mul_of_pos_right len hk;simp only[maxLen];omega) (λo ho=> .inr ⟨rfl,by rw[sY]at ho;exact ho⟩) (λo u hu=>by
       rw[World.cell?_alloc_new];rw[<-anC];exact hu)
      rwa [sY]at this
     refine⟨_,_,_,_,?_,i1,anp _,i2, .full _ hp ⟨some ⟨w.heap.size,0,none⟩,by rw[sY]⟩,hC⟩;have jG:¬(len*k>2^24):=by omega
     unfold Instr.buildSlice;simp only[Sem.run_bind,run_underlying fB,Result.andThen_ok,mz fS,jG,if_false];by_cases h0:len*k=0
     ·rw[if_pos h0]at wH;subst wH;subst DZ;simp [h0]at J;simp [h0,J,newRow]
     ·rw[if_neg h0]at wH;subst wH;subst DZ;simp [h0,Cu hz,J,newRow]
    ·exact hC.elim
   ·exact hC.elim
  ·exact hC.elim
 ·exact hC.elim
end
section
variable {P:an6} {G:Gh} {w:an8} {h:an3 ao}
theorem Ba(k s:an4)(d:D)(l:an3 (an4×D)):la ((k,d)::l) s=if k=s then some d else la l s:=by
 have e1:la ((k,d)::l) s=bif bL k==bL s then some d else la l s:=rfl;rw[e1];by_cases e:k=s
 ·subst e;rw[if_pos rfl];simp
 ·rw[if_neg e];have:(bL k==bL s)=false:=by rw[beq_eq_false_iff_ne];exact λhe=>e (Gk he)
  rw[this];rfl
theorem BT{T k e:TypeId}(h:tG P T=some (k,e)):P.underlying T=some (.map k e):=by
 unfold tG at h;split at h
 ·next k' e' hT=>cases h;exact hT
 ·cases h
theorem ac2(hi:bJ G w h):bI G.N G w (G.cO w.heap.size) (w.alloc (.map #[] 0))/\bJ (G.cO w.heap.size) (w.alloc (.map #[] 0)) (h++[.map []])/\aD (G.cO w.heap.size) (w.alloc (.map #[] 0)) (.map (some w.heap.size)) (.mp h.length):=by
 have hE:=rD G w hi.z hi.S (.map #[] 0);have hN:G.N<=(G.cO w.heap.size).N:=Nat.le_succ _;have fX:(G.cO w.heap.size).aO h.length=w.heap.size:=by simp [Gh.cO,hi.len]
 have lh:∀n(B:ao),n<G.N->B.dL (G.cO w.heap.size) n=B.dL G n:=λn B hn=>by
  cases B<;>simp [ao.dL,Gh.cO,Nat.ne_of_lt hn]
 have fk:∀n,n<G.N->bH (h++[.map []]) (G.cO w.heap.size) n=bH h G n:=λn hn=>by
  have aI:n<h.length:=by rw[hi.len];exact hn
  unfold bH;rw[ano aI,ani aI];exact lh n _ hn
 have rX:bH (h++[.map []]) (G.cO w.heap.size) h.length=some w.heap.size:=by
  rw[dx (B:= .map []) (by simp)];exact congrArg some fX
 refine⟨hE,⟨by simp [Gh.cO,hi.len],λb hb=>anD (hi.z b hb) hE.size,λb o hs=>anD (hi.S b o hs) hE.size,λn B hB=> ?_,λm n b hm hn=> ?_,hi.gl.keep hE⟩,?_⟩
 ·by_cases hn:n<h.length
  ·rw[ano hn]at hB;have eN:n<G.N:=hi.len▸hn;exact dP.keep eN hE hN ⟨rfl,rfl,rfl⟩ (λb hb=>⟨Below.heap_alloc w _ _ (hi.gX (n:=n) ((dx hB).trans hb)),λo h=>h⟩) (hi.cV n B hB)
  ·have ku:n=h.length:=by
    have:=(ane.1 hB).1;simp at this;omega
   subst ku;simp at hB;subst hB;exact⟨by rw[fX];exact λhz=>anT _ (hi.z _ hz),λo hs=>by rw[fX]at hs;exact anT _ (hi.S _ _ hs), #[],0,by rw[fX];exact World.alloc_heap_new w _,
    ⟨by simp,MapKept.stamped_empty 0,λe he=>(by simp at he),λs d hs=>(by cases hs),by simp,λi e he=>(by simp at he),rfl⟩⟩
 ·have key:∀n b,bH (h++[.map []]) (G.cO w.heap.size) n=some b->(n<G.N/\bH h G n=some b)\/(n=h.length/\b=w.heap.size):=λn b hn=>by
   by_cases aI:n<G.N
   ·exact .inl ⟨aI,by rw[<-fk n aI];exact hn⟩
   ·by_cases e:n=h.length
    ·subst e;rw[rX]at hn;cases hn;exact .inr ⟨rfl,rfl⟩
    ·rw[uV (anL (by simp;have:=hi.len;omega))]at hn;cases hn
  rcases key m b hm with⟨_,fZ⟩|⟨rfl,rfl⟩<;>rcases key n _ hn with⟨_,eN⟩|⟨rfl,hb⟩
  ·exact hi.inj m n b fZ eN
  ·have:=hi.gX fZ;omega
  ·have:=hi.gX eN;omega
  ·rfl
 ·have:=aD.mp (G:=G.cO w.heap.size) (w:=w.alloc (.map #[] 0)) h.length (by simp [Gh.cO,hi.len])
  rwa [fX]at this
theorem adQ{v:an7}{d:D}(h:dg G.S w v d):aD G w v (Ge d):=by
 cases d with
 |v x=>exact .d h
 |sl xs=>exact .d h
 |ag ds=>
  cases h with
  |ag vs _ hl h=>
   refine .agg vs _ (by rw[anj];exact hl) λi u c hu hc=> ?_;rw[anl]at hc;obtain⟨d,hd,rfl⟩:=Option.map_eq_some_iff.1 hc;exact .d (h i u d hu hd)
theorem adZ(z:an7):aD G w z (AJ z):=by
 unfold AJ;split
 ·next vs=>
  refine .agg vs _ (by rw[anj];exact anM.symm) λi u c hu hc=> ?_;rw[anl,anC,hu]at hc;cases hc
  exact .d (dg.v u).um
 ·exact .d (.v _)
theorem aD.toM{u:an7}{x:AV}{d:D}(h:aD G w u x)(hx:x.Pv=some d):dg G.S w u d:=by
 unfold AV.Pv at hx;split at hx
 ·next cs=>
  obtain⟨ds,ra,rfl⟩:=Option.map_eq_some_iff.1 hx;obtain⟨J,h2⟩:=Gj ra;cases h with
  |agg vs _ hl hc=>
   refine .ag vs ds (hl.trans J.symm) λi v e hv he=> ?_;have hi:i<cs.length:=by rw[<-J];exact(ane.1 he).1
   exact(hc i v _ hv (ani hi)).FO (h2 i _ e (ani hi) he)
 ·exact h.FO hx
theorem rN{s:an4}:MapKept.IsKey .string (.string s):=trivial
theorem adU{T k e:TypeId}{z:an7}{n:Nat}{kv:an3 (an4×D)}{s:an4}{ok:Bool}(hi:bJ G w h)(hT:tG P T=some (k,e))(hz:iJ P e=some z)(hk:h1 P k=true)(hn:h[n]?=some (.map kv)):
 ∃v,(Instr.lookup T (.map (some (G.aO n))) (.string s) ok).run P w= .ok v w/\aD G w v (ry ok z (la kv s)):=by
 obtain⟨_,_,es,clock,hh,hm⟩:=hi.cV n _ hn;have oC:∀x∈es.toList,MapKept.IsKey .string x.key:=λx hx=>by
  obtain⟨s',d,J,_⟩:=hm.AL x hx;rw[J];exact rN
 have pO:=rM hk;have one:∀(v:an7)(d:AV)(b:Bool),aD G w v d->aD G w (if ok then .tuple #[v, .bool b]else v) (bif ok then .aZ [d, .d (.v (.bool b))]else d):=λv d b hp=>by
  cases ok with
  |false=>exact hp
  |true=>
   refine .aZ #[v, .bool b] _ rfl λi u c hu hc=> ?_
   match i with
   |0=>simp at hu hc;subst hu;subst hc;exact hp
   |1=>simp at hu hc;subst hu;subst hc;exact .d (.v _)
   |i+2=>simp at hu
 rcases MapKept.findNow_spec (rN (s:=s)) es.toList 0 oC with⟨J,h2⟩|⟨j,e0,J,h2,h3⟩
 ·have ajc:la kv s=none:=by
   cases hq:la kv s with
   |none=>rfl
   |some d=>
    obtain⟨x,hx,nA⟩:=hm.all s d hq;exact absurd nA (h2 x hx)
  refine⟨if ok then .tuple #[z, .bool false]else z,?_,?_⟩
  ·simp [Instr.lookup,run_underlying (BT hT),MapKept.run_getObj_map hh,MapKept.run_checkKey pO rN,MapKept.run_findKey pO J,Cu hz,Result.andThen]
  ·rw[ajc];have:=one z _ false (adZ z);unfold ry;exact this
 ·have jI:e0∈es.toList:=anr h2;obtain⟨s',d,k1,k2,k3⟩:=hm.AL e0 jI;rw[h3]at k1;cases k1
  refine⟨if ok then .tuple #[e0.val, .bool true]else e0.val,?_,?_⟩
  ·simp [Instr.lookup,run_underlying (BT hT),MapKept.run_getObj_map hh,MapKept.run_checkKey pO rN,MapKept.run_findKey pO J,Result.andThen]
  ·rw[k2];have:=one e0.val _ true (adQ k3);unfold ry;exact this
theorem aiO{T k e:TypeId}{n:Nat}{kv:an3 (an4×D)}{s:an4}{v:an7}{d:D}(hi:bJ G w h)(hT:tG P T=some (k,e))(hk:h1 P k=true)(hn:h[n]?=some (.map kv))(hv:dg G.S w v d)(hlen:kv.length<maxLen):
 ∃w',(Instr.mapUpdate T (.map (some (G.aO n))) (.string s) v).run P w= .ok () w'/\bI G.N G w G w'/\bJ G w' (h.set n (.map ((s,d)::kv))):=by
 obtain⟨hZ,hS,es,clock,hh,hm⟩:=hi.cV n _ hn;have oC:∀x∈es.toList,MapKept.IsKey .string x.key:=λx hx=>by
  obtain⟨s',d,J,_⟩:=hm.AL x hx;rw[J];exact rN
 have pO:=rM hk;have fin:∀(wY:Array MapEntry)(BR:Nat)(w':an8),w'=ChangeMaps.setBlock w (G.aO n) (.map wY BR)->tD G.S w wY BR ((s,d)::kv)->bI G.N G w G w'/\bJ G w' (h.set n (.map ((s,d)::kv))):=by
  intro wY BR w' eX fZ;have ja:∀b,b≠G.aO n->w'.heap[b]?=w.heap[b]?:=λb hb=>by rw[eX];exact ChangeMaps.heap_setBlock_other hh _ hb
  have Pm:w'.heap[G.aO n]?=some (.map wY BR):=by rw[eX];exact ChangeMaps.heap_setBlock_same hh _
  have hX:w'.heap.size=w.heap.size:=by rw[eX];simp [ChangeMaps.setBlock]
  have hcell:∀b o,G.S b o->w'.cell? ⟨b,o,none⟩=w.cell? ⟨b,o,none⟩:=λb o hs=>World.cell?_of_block (ja b (λe=>hS o (e▸hs)));have hE:bI G.N G w G w':=⟨by rw[hX];exact anp _,λ_ _ h=>h,hcell,λ_ _=>rfl,λ_ _=> .inl ⟨rfl,rfl⟩,gU rfl,λb hb=>ja b (λe=>hZ (e▸hb)),by rw[eX];rfl,by rw[eX];rfl,by rw[eX];rfl,λ_ _ h=> .inl h⟩;refine⟨hE,?_⟩;have lE:bH h G n=some (G.aO n):=dx hn;have mH:(h.set n (.map ((s,d)::kv)))[n]?=some (.map ((s,d)::kv)):=by rw[anI (ane.1 hn).1]
  have e8:∀m,m≠n->(h.set n (.map ((s,d)::kv)))[m]?=h[m]?:=λm hm=>by rw[anN (Ne.symm hm)]
  have eo:∀m,bH (h.set n (.map ((s,d)::kv))) G m=bH h G m:=λm=>by
   by_cases e:m=n
   ·subst e;rw[dx mH,dx hn];rfl
   ·unfold bH;rw[e8 m e]
  refine⟨by rw[List.length_set];exact hi.len,λb hb=>anD (hi.z b hb) hE.size,λb o hs=>anD (hi.S b o hs) hE.size,λm B hB=> ?_,λm m' b J h2=>hi.inj m m' b (by rw[<-eo];exact J) (by rw[<-eo];exact h2),hi.gl.keep hE⟩;by_cases e:m=n
  ·subst e;rw[mH]at hB;cases hB
   exact⟨hZ,hS,wY,BR,Pm,fZ.keep (λ_ _ h=>h) hcell⟩
  ·rw[e8 m e]at hB;have cA:∀b,bH h G m=some b->b≠G.aO n:=λb hb eb=>e (hi.inj m n b hb (by rw[eb];exact lE));exact dP.keep (hi.lt hB) hE (anp _) ⟨rfl,rfl,rfl⟩ (λb hb=>⟨ja b (cA _ ((dx hB).trans hb)),λo h=>h⟩) (hi.cV m B hB)
 rcases MapKept.findNow_spec (rN (s:=s)) es.toList 0 oC with⟨J,h2⟩|⟨j,e0,J,h2,h3⟩
 ·have fZ:tD G.S w (es.push ⟨.string s,v,clock⟩) (clock+1) ((s,d)::kv):=by
   refine⟨by have:=hm.len;simp;omega,MapKept.stamped_push hm.stamped h2,λx hx=> ?_,λs' d' cv=> ?_,by have:=hm.len;simp;omega,λi e he=> ?_,by rw[hm.BJ];simp⟩
   ·simp only[Array.toList_push,anR,List.mem_singleton]at hx;rcases hx with hx|rfl
    ·obtain⟨s',d',k1,k2,k3⟩:=hm.AL x hx;refine⟨s',d',k1,?_,k3⟩;rw[Ba,if_neg (λe=>h2 x hx (by rw[k1,e]))];exact k2
    ·exact⟨s,d,rfl,by rw[Ba,if_pos rfl],hv⟩
   ·rw[Ba]at cv;simp only[Array.toList_push,anR,List.mem_singleton];split at cv
    ·next e=>subst e;exact⟨_, .inr rfl,rfl⟩
    ·obtain⟨x,hx,hk⟩:=hm.all s' d' cv;exact⟨x, .inl hx,hk⟩
   ·rw[Array.getElem?_push]at he;split at he
    ·next ei=>cases he;rw[ei];exact hm.BJ
    ·exact hm.born i e he
  obtain⟨f1,f2⟩:=fin _ _ _ rfl fZ;refine⟨_,?_,f1,f2⟩;simp [Instr.mapUpdate,run_underlying (BT hT),MapKept.run_getObj_map hh,MapKept.run_checkKey pO rN,MapKept.run_findKey pO J,MapKept.run_setObj_map _ hh,Result.andThen,ChangeMaps.setBlock]
 ·have hj:es[j]?=some e0:=by simpa using h2
  have zS:j<es.toList.length:=(ane.1 h2).1;have aiE:∀e',es[j]?=some e'->({e' with key:= .string s,val:=v}:MapEntry).key=e'.key:=λe' pG=>by rw[hj]at pG;cases pG;exact h3.symm
  have Ke:(es.modify j (λe'=>{e' with key:= .string s,val:=v})).toList=es.toList.set j {e0 with key:= .string s,val:=v}:=by
   rw[Array.toList_modify];exact ChangeMaps.modify_eq_set _ _ _ _ h2
  have j5:(es.toList.map (·.key)).Nodup:=hm.stamped.2.2;have fZ:tD G.S w (es.modify j (λe'=>{e' with key:= .string s,val:=v})) clock ((s,d)::kv):=by
   refine⟨by simpa using hm.size,MapKept.stamped_modify hm.stamped _ _ (λ_ _=>rfl) (λe' _ pG=>aiE e' pG),λx hx=> ?_,λs' d' cv=> ?_,by have:=hm.len;simp;omega,λi e he=> ?_,by rw[hm.BJ];simp⟩
   ·rw[Ke]at hx;obtain⟨i,dM,ex⟩:=List.getElem_of_mem hx;rw[List.getElem_set]at ex;split at ex
    ·rw[<-ex];exact⟨s,d,rfl,by rw[Ba,if_pos rfl],hv⟩
    ·next cA=>
     have kL:i<es.toList.length:=by simpa using dM
     have mX:x∈es.toList:=by rw[<-ex];exact List.getElem_mem kL
     obtain⟨s',d',k1,k2,k3⟩:=hm.AL x mX;refine⟨s',d',k1,?_,k3⟩;rw[Ba,if_neg ?_]
     ·exact k2
     ·intro wY;have a1:(es.toList.map (·.key))[i]?=some (.string s):=by rw[anl,ani kL,ex];simp [k1,wY]
      have a2:(es.toList.map (·.key))[j]?=some (.string s):=by rw[anl,h2];simp [h3]
      have hii:i<(es.toList.map (·.key)).length:=by simpa using kL
      exact cA ((List.getElem?_inj hii j5).1 (a1.trans a2.symm)).symm
   ·rw[Ke];rw[Ba]at cv;split at cv
    ·next e=>subst e;exact⟨_,List.mem_iff_getElem?.2 ⟨j,anI zS⟩,rfl⟩
    ·next cA=>
     obtain⟨x,hx,hk⟩:=hm.all s' d' cv;obtain⟨i,dM,ex⟩:=List.getElem_of_mem hx;refine⟨x,List.mem_iff_getElem.2 ⟨i,by simpa using dM,?_⟩,hk⟩;rw[List.getElem_set];split
     ·next e=>
      subst e;exfalso;have:es.toList[j]?=some x:=by rw[ani dM,ex]
      rw[this]at h2;cases h2
      rw[h3]at hk;injection hk with hk;exact cA hk
     ·exact ex
   ·rw[Array.getElem?_modify]at he;split at he
    ·next ei=>
     subst ei;rw[hj]at he;cases he
     exact hm.born _ e0 hj
    ·exact hm.born i e he
  obtain⟨f1,f2⟩:=fin _ _ _ rfl fZ;refine⟨_,?_,f1,f2⟩;simp [Instr.mapUpdate,run_underlying (BT hT),MapKept.run_getObj_map hh,MapKept.run_checkKey pO rN,MapKept.run_findKey pO J,hj,h3,MapKept.run_keyThatStays rN,MapKept.run_setObj_map _ hh,Result.andThen,ChangeMaps.setBlock]
end
set_option linter.unusedVariables false
set_option linter.unusedSimpArgs false
section
variable {P:an6} {G:Gh} {w:an8} {h:an3 ao}
theorem Ij{w':an8}(hi:bJ G w h){n:Nat}{B B':ao}(hn:h[n]?=some B)(vh:∀G':Gh,B.dL G' n=G'.ow n)(MZ:∀G':Gh,B'.dL G' n=G'.ow n)(S:Nat->Nat->Prop)(v:an7)(len:Nat)(ow:an5 Nat)
 (hE:bI G.N G w (G.grow n S v len ow) w') (hg:∀g,ow=some g->(g=w.heap.size\/G.ow n=some g)/\g<w'.heap.size)
 (hS:∀b o,S b o->G.S b o\/ow=some b) (ja:∀b,b<w.heap.size->ow≠some b->w'.heap[b]?=w.heap[b]?)
 (hB:dP (G.grow n S v len ow) w' n B'):bJ (G.grow n S v len ow) w' (h.set n B'):=by
 have e8:∀m,m≠n->(h.set n B')[m]?=h[m]?:=λm hm=>by rw[anN (Ne.symm hm)]
 have mH:(h.set n B')[n]?=some B':=by rw[anI (ane.1 hn).1]
 have lh:∀m(C:ao),m≠n->C.dL (G.grow n S v len ow) m=C.dL G m:=λm C hm=>by
  cases C<;>simp [ao.dL,Gh.grow,hm]
 have eo:∀m,m≠n->bH (h.set n B') (G.grow n S v len ow) m=bH h G m:=λm hm=>by
  unfold bH;rw[e8 m hm];cases h[m]? with
  |none=>rfl
  |some C=>exact lh m C hm
 have BF:bH (h.set n B') (G.grow n S v len ow) n=ow:=by rw[dx mH,MZ];simp [Gh.grow]
 have xT:∀m b,m≠n->ow=some b->bH h G m≠some b:=λm b hm ho hb=>by
  rcases (hg b ho).1 with hg|hg
  ·have:=hi.gX hb;omega
  ·exact hm (hi.inj m n b hb ((dx hn).trans ((vh G).trans hg)))
 refine⟨by rw[List.length_set];exact hi.len,λb hb=>anD (hi.z b hb) hE.size,λb o hs=> ?_,λm C hm=> ?_,λm m' b J h2=> ?_,hi.gl.keep hE⟩
 ·rcases hS b o hs with hs|hs
  ·exact anD (hi.S b o hs) hE.size
  ·exact(hg b hs).2
 ·by_cases em:m=n
  ·subst em;rw[mH]at hm;cases hm;exact hB
  ·rw[e8 m em]at hm;refine dP.keep (hi.lt hm) hE (anp _) ⟨by simp [Gh.grow,em],by simp [Gh.grow,em],by simp [Gh.grow,em]⟩ (λb hb=> ?_) (hi.cV m C hm);have hr:bH h G m=some b:=(dx hm).trans hb;have cA:ow≠some b:=λe'=>xT m b em e' hr;refine⟨ja _ (hi.gX hr) cA,λo jG hs=> ?_⟩;rcases hS _ o hs with hs|hs
   ·exact jG hs
   ·exact cA hs
 ·by_cases e1:m=n<;>by_cases e2:m'=n
  ·rw[e1,e2]
  ·subst e1;rw[eo m' e2]at h2;rw[BF]at J;exact absurd h2 (xT m' b e2 J)
  ·subst e2;rw[eo m e1]at J;rw[BF]at h2;exact absurd J (xT m b e1 h2)
  ·rw[eo m e1]at J;rw[eo m' e2]at h2;exact hi.inj m m' b J h2
def Gh.eZ(G:Gh)(v:an7)(len:Nat)(ow:an5 Nat):Gh:=
 {G with N:=G.N+1,sg:=λn=>if n=G.N then v else G.sg n,fl:=λn=>if n=G.N then len else G.fl n,ow:=λn=>if n=G.N then ow else G.ow n}
theorem QS{w':an8}(hi:bJ G w h)(B:ao)(vh:∀(G':Gh) n,B.dL G' n=G'.ow n)(v:an7)(len:Nat)(ow:an5 Nat)(hw:(∀b,b<w.heap.size->w'.heap[b]?=w.heap[b]?)/\w.heap.size<=w'.heap.size/\w'.os=w.os/\w'.tape=w.tape/\w'.output=w.output)
 (how:∀g,ow=some g->w.heap.size<=g)
 (hB:dP (G.eZ v len ow) w' G.N B):bI G.N G w (G.eZ v len ow) w'/\bJ (G.eZ v len ow) w' (h++[B]):=by
 have cA:∀n,n<G.N->n≠G.N:=λn hn=>Nat.ne_of_lt hn;have hE:bI G.N G w (G.eZ v len ow) w':=⟨hw.2.1,λ_ _ h=>h,λb o hs=>World.cell?_of_block (hw.1 b (hi.S b o hs)),λ_ _=>rfl,λn hn=> .inl ⟨by simp [Gh.eZ,cA n hn],by simp [Gh.eZ,cA n hn]⟩,gU rfl,λb hb=>hw.1 b (hi.z b hb),hw.2.2.1,hw.2.2.2.1,hw.2.2.2.2,λ_ _ h=> .inl h⟩;have hN:G.N<=(G.eZ v len ow).N:=Nat.le_succ _;have lh:∀n(C:ao),n<G.N->C.dL (G.eZ v len ow) n=C.dL G n:=λn C hn=>by
  cases C<;>simp [ao.dL,Gh.eZ,Nat.ne_of_lt hn]
 have key:∀n b,bH (h++[B]) (G.eZ v len ow) n=some b->(n<G.N/\bH h G n=some b)\/(n=G.N/\ow=some b):=λn b hb=>by
  by_cases hn:n<h.length
  ·unfold bH at hb;rw[ano hn,ani hn]at hb;exact .inl ⟨hi.len▸hn,by unfold bH;rw[ani hn,<-hb];exact(lh n _ (hi.len▸hn)).symm⟩
  ·by_cases en:n=h.length
   ·subst en;rw[dx (B:=B) (by simp),vh]at hb;exact .inr ⟨hi.len,by simpa [Gh.eZ,hi.len]using hb⟩
   ·rw[uV (anL (by simp;omega))]at hb;cases hb
 refine⟨hE,by simp [Gh.eZ,hi.len],λb hb=>anD (hi.z b hb) hw.2.1,λb o hs=>anD (hi.S b o hs) hw.2.1,λn C hC=> ?_,λm n b J h2=> ?_,hi.gl.keep hE⟩
 ·by_cases hn:n<h.length
  ·rw[ano hn]at hC;have eN:n<G.N:=hi.len▸hn;exact dP.keep eN hE hN ⟨by simp [Gh.eZ,cA n eN],by simp [Gh.eZ,cA n eN],by simp [Gh.eZ,cA n eN]⟩ (λb hb=>⟨hw.1 b (hi.gX ((dx hC).trans hb)),λo h=>h⟩) (hi.cV n C hC)
  ·have ku:n=h.length:=by
    have:=(ane.1 hC).1;simp at this;omega
   subst ku;simp at hC;subst hC;rw[hi.len];exact hB
 ·rcases key m b J with⟨_,a1⟩|⟨rfl,a1⟩<;>rcases key n b h2 with⟨_,b1⟩|⟨rfl,b1⟩
  ·exact hi.inj m n b a1 b1
  ·have:=hi.gX a1;have:=how b b1;omega
  ·have:=hi.gX b1;have:=how b a1;omega
  ·rfl
theorem aD.tf{n o len L k:Nat}{e:TypeId}{cs:an3 (an3 AV)}{u:an7}(hi:bJ G w h)(hn:h[n]?=some (.vec e k cs))(hL:cs.length=L)(hv:aD G w u (.vec n o len L k)):U4 (G.sg n) u o len L k:=by
 have hb:=(hi.cV n _ hn).1;cases hv with|vec _ _ _ _ _ J h2 h3 h4=>exact h4 (by rw[<-hL,hb])
theorem aD.Z3{n i j L k:Nat}{e:TypeId}{k':Nat}{cs:an3 (an3 AV)}{u:an7}(hi:bJ G w h)(hn:h[n]?=some (.vec e k' cs))(hL:cs.length=L)(hv:aD G w u (.dp n i j L k)):VO (G.sg n) u i j L k:=by
 have hb:=(hi.cV n _ hn).1;cases hv with|dp _ _ _ _ _ J h2 h3 h4=>exact h4 (by rw[<-hL,hb])
theorem BQ{n:Nat}{e k:Nat}{cs:an3 (an3 AV)}(hi:bJ G w h)(hn:h[n]?=some (.vec e k cs))(cA:cs≠ []):∃(g cap:Nat)(cur:Array an7),G.ow n=some g/\G.sg n= .slice (some ⟨g,0,none⟩) cs.length cap/\¬G.Z g/\w.heap[g]?=some (.cells cur e (0,0))/\cs.length<=cap/\cap<=maxLen/\cur.size=cap*k/\(∀o,¬G.S g o)/\
        ∀(i j:Nat)(c:an3 AV)(x:AV)(u:an7),cs[i]?=some c->c[j]?=some x->cur[i*k+j]?=some u->aD G w u x:=by
 obtain⟨_,_,_,h4|h4⟩:=hi.cV n _ hn
 ·exact absurd h4.2.1 cA
 ·exact h4
theorem BW{n:Nat}{e k:Nat}{cs:an3 (an3 AV)}(hi:bJ G w h)(hn:h[n]?=some (.vec e k cs)):∀c∈cs,c.length=k:=(hi.cV n _ hn).2.2.1
theorem m8{i k L j:Nat}(hi:i<L)(hj:j<k):i*k+j<L*k:=by
 have:(i+1)*k<=L*k:=Nat.mul_le_mul_right k hi;rw[Nat.add_mul]at this;omega
theorem IY{i k j:Nat}(hj:j<k):(i*k+j)/ k=i/\(i*k+j)%k=j:=by
 have hk:0<k:=by omega
 exact⟨by rw[Nat.add_comm,Nat.add_mul_div_right _ _ hk,Nat.div_eq_of_lt hj,anz],by rw[Nat.add_comm,Nat.add_mul_mod_self_right,Nat.mod_eq_of_lt hj]⟩
theorem ako{i i' j j' k:Nat}(hj:j<k)(iX:j'<k)(e:i*k+j=i'*k+j'):i=i'/\j=j':=by
 have J:=IY (i:=i) hj;have h2:=IY (i:=i') iX;exact⟨by rw[<-J.1,<-h2.1,e],by rw[<-J.2,<-h2.2,e]⟩
theorem ak6{t n i j L k:Nat}{e:TypeId}{cs:an3 (an3 AV)}{c:an3 AV}{x:AV}{v:an7}(hi:bJ G w h)(hn:h[n]?=some (.vec e k cs))(hL:cs.length=L)(hc:cs[i]?=some c)(hx:PX P t c j=some x)(hv:aD G w v (.dp n i j L k)):
 ∃u,(Instr.loadAt t v).run P w= .ok u w/\aD G w u x:=by
 have jC:i<cs.length:=(ane.1 hc).1;have UE:c.length=k:=BW hi hn c (anr hc);obtain⟨g,cap,cur,r1,r2,r3,r4,r5,r6,r7,r8,r9⟩:=BQ hi hn (λe=>by subst e;simp at jC);obtain⟨_,g',C4,p1,p2⟩:=hv.Z3 hi hn hL;rw[r2]at p1;cases p1
 have J:∀q,q<c.length->w.cell? ⟨g,i*k+q,none⟩=some (cur.getD (i*k+q) undef):=λq hq=>by
  rw[cell_of_row w g _ cur e (0,0) r4];have:i*k+q<cur.size:=by
    rw[r7];exact anD (m8 jC (by omega)) (Nat.mul_le_mul_right k r5)
  simp [Array.getD,this]
 have h2:∀(q:Nat)(y:AV),c[q]?=some y->aD G w (cur.getD (i*k+q) undef) y:=λq y hq=>by
  have MB:=(ane.1 hq).1;have aI:i*k+q<cur.size:=by
   rw[r7];exact anD (m8 jC (by omega)) (Nat.mul_le_mul_right k r5)
  have e1:cur[i*k+q]?=some (cur.getD (i*k+q) undef):=by simp [Array.getD,aI]
  exact r9 i q c y _ hc hq e1
 have key:=UK (P:=P) (G:=G) (w:=w) (t:=t) (C:=(·=x)) g (i*k) c j (λq=>cur.getD (i*k+q) undef) J h2 (by
  unfold PX at hx;revert hx;cases mr P t with
  |none=>intro hx;cases hx
  |some ag=>
   cases fW P t with
   |none=>cases ag<;>(intro hx;cases hx)
   |some kk=>
    cases ag with
    |true=>
     simp only;intro hx;cases hb:cf (j+kk) c.length with
     |false=>rw[hb]at hx;cases hx
     |true=>rw[hb]at hx;cases hx;exact rfl
    |false=>
     simp only;intro hx;rw[hx])
 obtain⟨u,y,k1,k2,rfl⟩:=key;refine⟨u,?_,k2⟩;rw[p2];simp [Instr.loadAt,Instr.sureAddr,k1]
theorem aey{t b off k:Nat}{T:TypeId}{v:an7}{vs:Array an7}(hh:w.heap[b]?=some (.cells vs T (0,0)))(ht:fW P t=some k)(hk:v.cells.size=k)(jt:∀u∈v.cells.toList,u.oneCell'=true)(hb:off+k<=vs.size):
 (storeVar t ⟨b,off,none⟩ v).run P w= .ok () (w.setRow b (vs.toList.take off++v.cells.toList++vs.toList.drop (off+v.cells.toList.length)).toArray):=by
 obtain⟨i,jS,kL⟩:=Zm ht;have ly:=run_storeCells_at P b off T v.cells.toList 0 vs w hh (by rw[anM,hk];simpa using hb) jt;simp only[Nat.add_zero]at ly;unfold storeVar;simp only[sizeOf,typeInfo,Sem.run_bind,hk];simp [jS,kL,ly]
theorem Xj(vs:Array an7)(us:an3 an7)(off q:Nat)(hb:off+us.length<=vs.size):(vs.toList.take off++us++vs.toList.drop (off+us.length)).toArray[q]?=if off<=q/\q<off+us.length then us[q-off]? else vs[q]?:=by
 rw[List.getElem?_toArray,anv];have wx:vs.toList.length=vs.size:=anM;by_cases J:q<off
 ·rw[ano (by simp;omega),List.getElem?_take_of_lt J,if_neg (by omega),anC]
 ·rw[anu (by simp;omega)];simp only[List.length_take,wx];rw[Nat.min_eq_left (by omega)];by_cases h2:q<off+us.length
  ·rw[ano (by omega),if_pos (by omega)]
  ·rw[anu (by omega),List.getElem?_drop,if_neg (by omega),show off+us.length+(q-off-us.length)=q by omega,anC]
theorem WL(vs:Array an7)(us:an3 an7)(off:Nat)(hb:off+us.length<=vs.size):(vs.toList.take off++us++vs.toList.drop (off+us.length)).toArray.size=vs.size:=by
 simp only[List.size_toArray,anf,List.length_take,List.length_drop,anM];omega
theorem akS(cs ys:an3 AV)(off q:Nat)(hb:off+ys.length<=cs.length):(iP cs off ys)[q]?=if off<=q/\q<off+ys.length then ys[q-off]? else cs[q]?:=by
 unfold iP;rw[anv];by_cases J:q<off
 ·rw[ano (by simp;omega),List.getElem?_take_of_lt J,if_neg (by omega)]
 ·rw[anu (by simp;omega)];simp only[List.length_take];rw[Nat.min_eq_left (by omega)];by_cases h2:q<off+ys.length
  ·rw[ano (by omega),if_pos (by omega)]
  ·rw[anu (by omega),List.getElem?_drop,if_neg (by omega),show off+ys.length+(q-off-ys.length)=q by omega]
theorem XU{n e k g cap:Nat}{cs cw:an3 (an3 AV)}{cur:Array an7}{us:an3 an7}{off:Nat}(hi:bJ G w h)(hn:h[n]?=some (.vec e k cs))(gv:0<k)(r1:G.ow n=some g)(r2:G.sg n= .slice (some ⟨g,0,none⟩) cs.length cap)(r3:¬G.Z g)(r4:w.heap[g]?=some (.cells cur e (0,0)))(r5:cs.length<=cap)(r6:cap<=maxLen)(r7:cur.size=cap*k)(r8:∀o,¬G.S g o)
 (hb:off+us.length<=cur.size) (hl:cw.length=cs.length) (jm:∀c∈cw,c.length=k)
 (Ay:∀(i j:Nat)(c:an3 AV)(x:AV)(u:an7),cw[i]?=some c->c[j]?=some x->(if off<=i*k+j/\i*k+j<off+us.length then us[i*k+j-off]? else cur[i*k+j]?)=some u->aD G w u x):
 ∃G',bI G.N G w G' (w.setRow g (cur.toList.take off++us++cur.toList.drop (off+us.length)).toArray)/\G'.N=G.N/\bJ G' (w.setRow g (cur.toList.take off++us++cur.toList.drop (off+us.length)).toArray) (h.set n (.vec e k cw))/\(∀m,G'.sg m=G.sg m)/\(∀m,G'.fl m=G.fl m):=by
 obtain⟨w',eX⟩:∃w',w'=w.setRow g (cur.toList.take off++us++cur.toList.drop (off+us.length)).toArray:=⟨_,rfl⟩;rw[<-eX];have ja:∀b,b≠g->w'.heap[b]?=w.heap[b]?:=λb hb=>by rw[eX];exact setRow_other w g b _ hb
 have oG:w'.heap[g]?=some (.cells (cur.toList.take off++us++cur.toList.drop (off+us.length)).toArray e (0,0)):=by rw[eX];exact setRow_heap w g cur _ e _ r4
 have hX:w'.heap.size=w.heap.size:=by rw[eX];exact Lm w g _
 obtain⟨G',gu⟩:∃G',G'=G.grow n G.S (G.sg n) (G.fl n) (some g):=⟨_,rfl⟩;have zg:∀m,G'.sg m=G.sg m:=λm=>by rw[gu];simp only[Gh.grow];split<;>simp_all
 have ml:∀m,G'.fl m=G.fl m:=λm=>by rw[gu];simp only[Gh.grow];split<;>simp_all
 have hE:bI G.N G w G' w':=⟨by rw[hX];exact anp _,λb o h=>by rw[gu];exact h,λb o hs=>World.cell?_of_block (ja b (λe=>r8 o (e▸hs))),λ_ _=>by rw[gu];rfl,λm _=> .inl ⟨ml m,zg m⟩,gU (by rw[gu];rfl) (by rw[gu];rfl),λb hb=>ja b (λe=>r3 (e▸hb)),by rw[eX];rfl,by rw[eX];rfl,by rw[eX];rfl,λb o hs=> .inl (by rw[gu]at hs;exact hs)⟩;have lG:=hi.cV n _ hn;refine⟨G',hE,by rw[gu];rfl,?_,zg,ml⟩;subst gu;refine Ij hi hn (λ_=>rfl) (λ_=>rfl) _ _ _ _ hE (λg' rW=> ?_) (λb o hs=> .inl hs) (λb _ fK=>ja b (λe=>fK (by rw[e]))) ?_
 ·cases rW;exact⟨.inr r1,by rw[hX];exact(ant.1 r4).1⟩
 ·refine⟨by rw[ml,hl];exact lG.1,by rw[hl];exact lG.2.1,jm, .inr ⟨g,cap,_,by simp [Gh.grow],by rw[zg,hl];exact r2,r3,oG,by rw[hl];exact r5,r6,by rw[WL _ _ _ hb];exact r7,r8,λi j c x u hc hx hu=> ?_⟩⟩;rw[Xj _ _ _ _ hb]at hu;exact(Ay i j c x u hc hx hu).keep hE (anp _)
theorem acJ{t n i j L k:Nat}{e:TypeId}{cs:an3 (an3 AV)}{c:an3 AV}{x:AV}{v u:an7}(hi:bJ G w h)(hn:h[n]?=some (.vec e k cs))(hL:cs.length=L)(hc:cs[i]?=some c)(hv:aD G w v (.dp n i j L k))(hx:aD G w u x)(Nw:x.jD=true)(ht:fW P t=some x.cells.length)(hj:j+x.cells.length<=k)(gv:0<k):
 ∃w' G',(Instr.storeAt t v u).run P w= .ok () w'/\bI G.N G w G' w'/\G.N<=G'.N/\bJ G' w' (h.set n (.vec e k (cs.set i (iP c j x.cells)))):=by
 have jC:i<cs.length:=(ane.1 hc).1;have jm:=BW hi hn;have UE:c.length=k:=jm c (anr hc);obtain⟨g,cap,cur,r1,r2,r3,r4,r5,r6,r7,r8,r9⟩:=BQ hi hn (λe=>by subst e;simp at jC);obtain⟨_,g',C4,p1,p2⟩:=hv.Z3 hi hn hL;rw[r2]at p1;cases p1
 obtain⟨c1,c2⟩:=hx.cells Nw;have nZ:u.cells.toList.length=x.cells.length:=by rw[anM,c1]
 have jt:∀y∈u.cells.toList,y.oneCell'=true:=λy hy=>by
  obtain⟨q,hq⟩:=List.mem_iff_getElem?.1 hy;have MB:u.cells[q]?=some y:=by rw[<-anC];exact hq
  have hql:q<x.cells.length:=by rw[<-c1];exact(ant.1 MB).1
  exact(c2 q y _ MB (ani hql)).2
 have l6:i*k+j+x.cells.length<=cur.size:=by
  have J:(i+1)*k<=cap*k:=Nat.mul_le_mul_right k (anD jC r5);rw[Nat.add_mul]at J;rw[r7];omega
 have dz:=aey (P:=P) (off:=i*k+j) r4 ht c1 jt l6;obtain⟨G',e1,e2,e3,_⟩:=XU (us:=u.cells.toList) (off:=i*k+j) (cw:=cs.set i (iP c j x.cells)) hi hn gv r1 r2 r3 r4 r5 r6 r7 r8 (by rw[nZ];exact l6) (by rw[List.length_set]) (λd hd=>by
     obtain⟨q,hq⟩:=List.mem_iff_getElem?.1 hd;by_cases e:i=q
     ·subst e;rw[anI jC]at hq;cases hq
      rw[C0 _ _ _ (by omega)];exact UE
     ·rw[anN e]at hq;exact jm d (anr hq)) (λa b d y z hd hy hz=>by
     have jv:b<k:=by
      by_cases e:i=a
      ·subst e;rw[anI jC]at hd;cases hd
       have:=(ane.1 hy).1;rw[C0 _ _ _ (by omega)]at this;omega
      ·rw[anN e]at hd;rw[<-jm d (anr hd)];exact(ane.1 hy).1
     rw[nZ]at hz;by_cases e:i=a
     ·subst e;rw[anI jC]at hd;cases hd
      rw[akS _ _ _ _ (by omega)]at hy;by_cases hb:j<=b/\b<j+x.cells.length
      ·rw[if_pos hb]at hy;rw[if_pos (by omega),show i*k+b-(i*k+j)=b-j by omega,anC]at hz;exact(c2 _ _ _ hz hy).1
      ·rw[if_neg hb]at hy;rw[if_neg (by omega)]at hz;exact r9 i b c y z hc hy hz
     ·rw[anN e]at hd;rw[if_neg ?_]at hz
      ·exact r9 a b d y z hd hy hz
      ·intro hh;have:a*k+b=i*k+(a*k+b-i*k):=by omega
       exact e ((ako (i:=a) (i':=i) (j:=b) (j':=a*k+b-i*k) jv (by omega) this).1.symm))
 refine⟨_,G',?_,e1,by rw[e2];exact anp _,e3⟩;rw[p2];simp [Instr.storeAt,Instr.sureAddr,dz]
end
section
variable {P:an6} {G:Gh} {w:an8} {h:an3 ao}
structure yl(G:Gh)(w:World)(k:Nat)(ys:List (List AV))(us:List Value):Prop where
 len:us.length=ys.length*k
 wid:∀c∈ys,c.length=k
 one:∀u∈us,u.oneCell'=true
 rel:∀(i j:Nat)(c:List AV)(x:AV)(u:Value),ys[i]?=some c->c[j]?=some x->us[i*k+j]?=some u->aD G w u x
theorem LB{k tx e':Nat}{y:AV}{v:an7}{ys:an3 (an3 AV)}(hi:bJ G w h)(hv:aD G w v y)(hs:zh h k y ys)(gv:0<k)(hT:P.underlying tx=some (.slice e')):
 ∃us,yl G w k ys us/\Src P k tx v ys.length us w:=by
 rcases hs with⟨xs,J,h2,rfl⟩|⟨n,o,len,L,e,cs,rfl,h2,h3,h4,h5⟩
 ·obtain⟨us,hr,wR⟩:=(hv.list J).src gv h2 hT;have hl:(bU xs).length=xs.length:=by unfold bU;rw[anj]
  refine⟨us,⟨by rw[hl];exact hr.len,λc hc=> ?_,hr.one,λi j c x u hc hx hu=> ?_⟩,by rw[hl];exact wR⟩
  ·unfold bU at hc;obtain⟨d,hd,rfl⟩:=List.mem_map.1 hc;rw[anj];exact h2 d hd
  ·unfold bU at hc;rw[anl]at hc;cases mX:xs[i]? with
   |none=>rw[mX]at hc;cases hc
   |some d=>
    rw[mX]at hc;cases hc
    rw[anl]at hx;cases hy:d[j]? with
    |none=>rw[hy]at hx;cases hx
    |some z=>
     rw[hy]at hx;cases hx
     obtain⟨u',a1,a2⟩:=hr.rel i j d z mX hy;rw[a1]at hu;cases hu
     exact .d a2
 ·have lB:=hv.tf hi h2 h3;obtain⟨A,c,rfl,c1,c2,c3,c4⟩:=lB.sl;have ph:ys.length=len:=by rw[h4,List.length_take,List.length_drop,h3];have:=lB.ol;omega
  by_cases h0:len=0
  ·subst h0;have:ys=[]:=List.eq_nil_of_length_eq_zero ph;subst this;refine⟨[],⟨by simp,(λ_ h=>by cases h),(λ_ h=>by cases h),λi j c x u hc=>by simp at hc⟩,?_⟩;cases A with
   |none=>exact Src.ofNil w hT c
   |some a=>exact Src.ofSlice w hT a 0 c [] (by simp) (λj u hu=>by simp at hu) (λu hu=>by cases hu)
  ·have ho:o<L:=by have:=lB.ol;omega
   obtain⟨g,cap,p1,rfl,p3⟩:=c4 ho;have cA:cs≠ []:=λe=>by subst e;simp at h3;omega
   obtain⟨g',C4,cur,r1,r2,r3,r4,r5,r6,r7,r8,r9⟩:=BQ hi h2 cA;rw[r2]at p1;cases p1
   have jm:=BW hi h2;have hcell:∀q,q<len*k->o*k+q<cur.size:=λq hq=>by
    have J:(o+len)*k<=cap*k:=Nat.mul_le_mul_right k (by have:=lB.ol;omega);rw[Nat.add_mul]at J;rw[r7];omega
   have jO:∀i,i<len->ys[i]?=cs[o+i]?:=λi dM=>by rw[h4,List.getElem?_take_of_lt dM,List.getElem?_drop]
   have jt:∀q,q<len*k->(cur.getD (o*k+q) undef).oneCell'=true:=λq hq=>by
    have LL:q / k<len:=Nat.div_lt_of_lt_mul (by rw[Nat.mul_comm];exact hq);have hkj:q%k<k:=Nat.mod_lt _ gv;obtain⟨d,gx⟩:∃d,cs[o+q / k]?=some d:=⟨_,ani (by have:=lB.ol;omega)⟩;have CG:=jm _ (anr gx);obtain⟨x,hx⟩:∃x,d[q%k]?=some x:=⟨_,ani (by rw[CG];exact hkj)⟩;have e1:(o+q / k)*k+q%k=o*k+q:=by
     rw[Nat.add_mul];have:=Nat.div_add_mod q k;rw[Nat.mul_comm]at this;omega
    have hu':cur[(o+q / k)*k+q%k]?=some (cur.getD (o*k+q) undef):=by
     rw[e1];simp [Array.getD,hcell q hq]
    refine(r9 _ _ _ _ _ gx hx hu').ky ?_;have jI:d∈ys:=anr ((jO _ LL).trans gx);have:=h5 _ jI;rw[anF]at this;exact this _ (anr hx)
   refine⟨(List.range (len*k)).map λq=>cur.getD (o*k+q) undef,⟨by rw[ph];simp,λc hc=>jm c ?_,λu hu=> ?_,λi j c x u hc hx hu=> ?_⟩,?_⟩
   ·rw[h4]at hc;exact List.mem_of_mem_drop (List.mem_of_mem_take hc)
   ·obtain⟨q,hq,rfl⟩:=List.mem_map.1 hu;exact jt q (List.mem_range.1 hq)
   ·have jC:i<len:=by rw[<-ph];exact(ane.1 hc).1
    rw[jO i jC]at hc;have K1:j<k:=by rw[<-jm c (anr hc)];exact(ane.1 hx).1
    have aI:i*k+j<len*k:=m8 jC K1;rw[anl,List.getElem?_range aI]at hu;simp only[Option.map_some,Option.some.injEq]at hu;refine r9 (o+i) j c x u hc hx ?_;rw[<-hu,show(o+i)*k+j=o*k+(i*k+j) by rw[Nat.add_mul];omega];simp [Array.getD,hcell _ aI]
   ·rw[ph];refine Src.ofSlice w hT _ len c _ (by simp) (λj u hu=> ?_) (λu hu=> ?_)
    ·rw[lL,cell_of_row w g _ cur e (0,0) r4];rw[anl]at hu;by_cases hj:j<len*k
     ·rw[List.getElem?_range hj]at hu;simp only[Option.map_some,Option.some.injEq]at hu;rw[<-hu];simp [Array.getD,hcell _ hj]
     ·rw[anL (by simp;omega)]at hu;cases hu
    ·obtain⟨q,hq,rfl⟩:=List.mem_map.1 hu;exact jt q (List.mem_range.1 hq)
theorem yl.keep{G':Gh}{w':an8}{k:Nat}{ys:an3 (an3 AV)}{us:an3 an7}(h:yl G w k ys us)(hE:bI G.N G w G' w')(hN:G.N<=G'.N):yl G' w' k ys us:=
 ⟨h.len,h.wid,h.one,λi j c x u J h2 h3=>(h.rel i j c x u J h2 h3).keep hE hN⟩
theorem afP{α:Type}{k:Nat}(l:an3 α)(us:an3 α)(m i j:Nat)(hl:l.length=m*k)(hj:j<k):(l++us)[i*k+j]?=if i<m then l[i*k+j]? else us[(i-m)*k+j]?:=by
 by_cases h:i<m
 ·rw[if_pos h,ano (by rw[hl];exact m8 h hj)]
 ·have J:m*k<=i*k:=Nat.mul_le_mul_right k (by omega);rw[if_neg h,anu (by rw[hl];omega),hl,Nat.sub_mul,show i*k+j-m*k=i*k-m*k+j by omega]
theorem Nl{e k cap:Nat}{cs:an3 (an3 AV)}{cur:Array an7}(hi:bJ G w h)(J:cs.length<=cap)(h2:cap<=maxLen)(h3:cur.size=cap*k)(jm:∀c∈cs,c.length=k)(w0:an8)(rf:w0.heap=w.heap/\w0.os=w.os/\w0.tape=w.tape/\w0.output=w.output)
 (Ay:∀(i j:Nat)(c:an3 AV)(x:AV)(u:an7),cs[i]?=some c->c[j]?=some x->cur[i*k+j]?=some u->aD G w u x):
 ∃G',bI G.N G w G' (w0.alloc (.cells cur e))/\G.N<=G'.N/\bJ G' (w0.alloc (.cells cur e)) (h++[.vec e k cs])/\∀len,len<=cs.length->aD G' (w0.alloc (.cells cur e)) (.slice (some ⟨w.heap.size,0,none⟩) len cap) (.vec h.length 0 len cs.length k):=by
 have hX:w0.heap.size=w.heap.size:=by rw[rf.1]
 have fk:(w0.alloc (.cells cur e)).heap[w.heap.size]?=some (.cells cur e (0,0)):=by rw[<-hX];exact World.alloc_heap_new w0 _
 have hold:∀b,b<w.heap.size->(w0.alloc (.cells cur e)).heap[b]?=w.heap[b]?:=λb hb=>by rw[Below.heap_alloc w0 _ b (by rw[hX];exact hb),rf.1]
 have hw:(∀b,b<w.heap.size->(w0.alloc (.cells cur e)).heap[b]?=w.heap[b]?)/\w.heap.size<=(w0.alloc (.cells cur e)).heap.size/\(w0.alloc (.cells cur e)).os=w.os/\(w0.alloc (.cells cur e)).tape=w.tape/\(w0.alloc (.cells cur e)).output=w.output:=
  ⟨hold,by simp [hX],rf.2.1,rf.2.2.1,rf.2.2.2⟩
 obtain⟨sv,mc⟩:∃sv,sv=Value.slice (some ⟨w.heap.size,0,none⟩) cs.length cap:=⟨_,rfl⟩;obtain⟨FB,_⟩:bI G.N G w (G.eZ sv cs.length (some w.heap.size)) (w0.alloc (.cells cur e))/\True:=by
  refine⟨⟨hw.2.1,λ_ _ h=>h,λb o hs=>World.cell?_of_block (hw.1 b (hi.S b o hs)),λ_ _=>rfl,λn hn=> .inl ⟨by simp [Gh.eZ,Nat.ne_of_lt hn],by simp [Gh.eZ,Nat.ne_of_lt hn]⟩,gU rfl,λb hb=>hw.1 b (hi.z b hb),hw.2.2.1,hw.2.2.2.1,hw.2.2.2.2,λ_ _ h=> .inl h⟩,trivial⟩
 obtain⟨hE,hI⟩:=QS (w':=w0.alloc (.cells cur e)) hi (.vec e k cs) (λ_ _=>rfl) sv cs.length (some w.heap.size) hw (λg hg=>by cases hg;exact anp _) (by
  refine⟨by simp [Gh.eZ],anw J h2,jm, .inr ⟨w.heap.size,cap,cur,by simp [Gh.eZ],by simp [Gh.eZ,mc],λhz=>anT _ (hi.z _ hz),fk,J,h2,h3,λo hs=>anT _ (hi.S _ _ hs),λi j c x u hc hx hu=>(Ay i j c x u hc hx hu).keep FB (Nat.le_succ _)⟩⟩)
 refine⟨_,hE,Nat.le_succ _,hI,λlen hlen=> ?_⟩;rw[hi.len];refine .vec G.N 0 len cs.length k (by simp [Gh.eZ]) ⟨_,_,_,rfl⟩ (by simp [Gh.eZ]) λ_=>⟨by omega,⟨_,_,rfl,anw hlen J,h2,J,λ_=>⟨w.heap.size,cap,by simp [Gh.eZ,mc],by simp,by simp⟩⟩,λ_ e=>by subst e;simp [Gh.eZ,mc]⟩
theorem abL{T e k len m cN:Nat}{i:TypeInfo}{z:an7}{kl kc:IntKind}{l c:Int}(hi:bJ G w h)(hT:P.underlying T=some (.slice e))(ld:P.info? e=some i)(hz:i.zero=some z)(ny:i.size=k)(vC:i.bytes=cN)(j9:z.cells.toList.length=k)(gv:0<k)
 (h0:0<=l) (lk:l<=c) (hl:l.toNat=len) (hc:c.toNat=m) (hm:m<=maxLen) (hb:cN*m<=281474976710656):
 ∃u w' G',(Instr.makeSlice T (.int kl l) (.int kc c)).run P w= .ok u w'/\bI G.N G w G' w'/\G.N<=G'.N/\bJ G' w' (h++[.vec e k (List.replicate m (z.cells.toList.map λu=> .d (.v u)))])/\aD G' w' u (.vec h.length 0 len m k):=by
 subst ny;subst vC;have fK:(i.bytes:Int)*c<=281474976710656:=by
  have:((i.bytes*m:Nat):Int)<=281474976710656:=by omega
  rw[Int.natCast_mul,<-hc,Int.toNat_of_nonneg (by omega)]at this;exact this
 have h63:c<=9223372036854775807:=by have h:=hm;simp [maxLen]at h;omega
 have dz:=run_make (P:=P) w T e i z hT ld hz kl kc l c h0 lk fK h63;rw[hl,hc]at dz;have gd:(List.replicate m (z.cells.toList.map λu=>AV.d (.v u))).length=m:=anP;obtain⟨G',g1,g2,g3,g4⟩:=Nl (e:=e) (k:=i.size) (cap:=m) (cs:=List.replicate m (z.cells.toList.map λu=>AV.d (.v u))) (cur:=madeCells z.cells (m*i.size)) hi (by rw[gd];exact anp _) hm (size_madeCells _ _) (λc hc=>by
  rw[List.eq_of_mem_replicate hc,anj];exact j9) w ⟨rfl,rfl,rfl,rfl⟩ (λa b c x u hc hx hu=>by
  have:=List.eq_of_mem_replicate (anr hc);subst this;rw[anl]at hx;cases hq:z.cells.toList[b]? with
  |none=>rw[hq]at hx;cases hx
  |some y=>
   rw[hq]at hx;cases hx
   have jv:b<i.size:=by rw[<-j9];exact(ane.1 hq).1
   have Ly:a<m:=by have:=(ane.1 hc).1;rwa [gd]at this
   unfold madeCells at hu;have aI:a*i.size+b<m*i.size:=m8 Ly jv;rw[Array.getElem?_map,Array.getElem?_range,if_pos aI]at hu;simp only[Option.map_some,Option.some.injEq]at hu;have jB:z.cells.size=i.size:=by rw[<-anM];exact j9
   rw[jB,(IY (i:=a) jv).2]at hu;have ql:z.cells[b]?=some y:=by rw[<-anC];exact hq
   rw[getElem!_pos z.cells b (by rw[jB];exact jv)]at hu;rw[anB (by rw[jB];exact jv)]at ql;cases ql
   subst hu;exact .d (.v _))
 rw[gd]at g4;refine⟨_,_,G',dz,g1,g2,g3,g4 len ?_⟩;rw[<-hl,<-hc];omega
theorem aie{T tx ty e k cN n o len L:Nat}{i:TypeInfo}{z:an7}{u v:an7}{cs ys:an3 (an3 AV)}{us:an3 an7}(hi:bJ G w h)(hT:P.underlying T=some (.slice e))(ld:P.info? e=some i)(hz:i.zero=some z)(ny:i.size=k)(vC:i.bytes=cN)(j9:z.cells.size=k)(gv:0<k)
 (hn:h[n]?=some (.vec e k cs)) (hL:cs.length=L) (hu:aD G w u (.vec n o len L k)) (hr:yl G w k ys us) (hs:Src P k tx v ys.length us w)
 {L':Nat} {cw:an3 (an3 AV)} (qC:(o+len+ys.length<=L/\L'=L/\cw=cs.take (o+len)++ys++cs.drop (o+len+ys.length))\/(o=0/\len=L/\L'=L+ys.length/\cw=cs++ys/\L'<=maxLen/\L'*cN<=140737488355328)):
 ∃r w' G',(Builtin.append_ #[T,tx] ty #[u,v]).run P w= .ok r w'/\bI G.N G w G' w'/\G.N<=G'.N/\bJ G' w' (h.set n (.vec e k cw))/\aD G' w' r (.vec n o (len+ys.length) L' k):=by
 subst ny;subst vC;have nV:=hi.lt hn;have jm:=BW hi hn;have lB:=hu.tf hi hn hL;have lG:=hi.cV n _ hn;have am8:=lB;obtain⟨AK,⟨A,c,rfl,c1,c2,c3,c4⟩,call⟩:=lB;by_cases hy:ys.length=0
 ·have jO:ys=[]:=List.eq_nil_of_length_eq_zero hy;subst jO;have mv:us=[]:=List.eq_nil_of_length_eq_zero (by rw[hr.len];simp);subst mv;have dz:=run_append_nothing (P:=P) w T tx ty e i hT ld A len c c1 v hs;have e1:cw=cs:=by
   rcases qC with⟨_,_,e⟩|⟨_,_,_,e,_⟩
   ·rw[e];simp
   ·rw[e];simp
  have e2:L'=L:=by
   rcases qC with⟨_,e,_⟩|⟨_,_,e,_⟩
   ·exact e
   ·rw[e];simp
  subst e1;subst e2;refine⟨_,w,G,dz,bI.refl _ _ _,anp _,?_,by simpa using hu⟩;have:h.set n (.vec e i.size cw)=h:=by
   refine List.ext_getElem? λm=> ?_;by_cases em:m=n
   ·subst em;rw[anI (ane.1 hn).1,hn]
   ·rw[anN (Ne.symm em)]
  rw[this];exact hi
 ·have XD:0<ys.length:=Nat.pos_of_ne_zero hy;have room:len+ys.length<=c->∀g cap cur,G.ow n=some g->G.sg n= .slice (some ⟨g,0,none⟩) cs.length cap->¬G.Z g->w.heap[g]?=some (.cells cur e (0,0))->cs.length<=cap->cap<=maxLen->cur.size=cap*i.size->(∀o,¬G.S g o)->
      (∀(a b:Nat)(d:an3 AV)(x:AV)(q:an7),cs[a]?=some d->d[b]?=some x->cur[a*i.size+b]?=some q->aD G w q x)->A=some ⟨g,o*i.size,none⟩->o+c=cap->
      ∃r w' G',(Builtin.append_ #[T,tx] ty #[.slice A len c,v]).run P w= .ok r w'/\bI G.N G w G' w'/\G.N<=G'.N/\bJ G' w' (h.set n (.vec e i.size cw))/\aD G' w' r (.vec n o (len+ys.length) L' i.size):=by
   intro qn g cap cur r1 r2 r3 r4 r5 r6 r7 r8 r9 rA rc;have l6:(o+len)*i.size+us.length<=cur.size:=by
    rw[hr.len,r7,<-Nat.add_mul];exact Nat.mul_le_mul_right _ (by omega)
   have AF:∀j,j<us.length->(w.cell? ⟨g,o*i.size+len*i.size+j,none⟩).isSome=true:=λj hj=>by
    rw[cell_of_row w g _ cur e (0,0) r4,anB (by rw[Nat.add_mul]at l6;omega)];rfl
   have dz:=run_append_room_src (P:=P) w T tx ty e i hT ld g (o*i.size) len c v ys.length us hs qn AF (λj hj=>by unfold World.frozen?;rw[r4];simp);have ly:=run_storeCells_at P g (o*i.size+len*i.size) e us 0 cur w r4 (by rw[Nat.add_mul]at l6;simpa using l6) hr.one;have wi:=run_storeCells_cells (P:=P) g (o*i.size+len*i.size) us 0 w (by simpa using AF) (λj hj=>by unfold World.frozen?;rw[r4];simp) hr.one;simp only[Nat.add_zero]at ly wi;rw[ly]at wi;injection wi with _ e2;rw[<-e2,<-Nat.add_mul]at dz;rw[rA];have fk:∀(a b:Nat)(d:an3 AV)(x:AV)(q:an7),cw[a]?=some d->d[b]?=some x->(if(o+len)*i.size<=a*i.size+b/\a*i.size+b<(o+len)*i.size+us.length then us[a*i.size+b-(o+len)*i.size]? else cur[a*i.size+b]?)=some q->aD G w q x:=by
    intro a b d x q hd hx hq;have PQ:d.length=i.size:=by
     have hm:=anr hd;rcases qC with⟨_,_,e⟩|⟨_,_,_,e,_⟩
     ·rw[e]at hm;rcases anR.1 hm with hm|hm
      ·rcases anR.1 hm with hm|hm
       ·exact jm d (List.mem_of_mem_take hm)
       ·exact hr.wid d hm
      ·exact jm d (List.mem_of_mem_drop hm)
     ·rw[e]at hm;rcases anR.1 hm with hm|hm
      ·exact jm d hm
      ·exact hr.wid d hm
    have jv:b<i.size:=by rw[<-PQ];exact(ane.1 hx).1
    have JB:(a<o+len/\cs[a]?=some d)\/(o+len<=a/\a<o+len+ys.length/\ys[a-(o+len)]?=some d)\/(o+len+ys.length<=a/\cs[a]?=some d):=by
     rcases qC with⟨hf,_,e⟩|⟨e0,e1,_,e,_⟩
     ·rw[e]at hd;have LN:(cs.take (o+len)).length=o+len:=by rw[List.length_take];omega
      by_cases J:a<o+len
      ·rw[anv,ano (by rw[LN];exact J),List.getElem?_take_of_lt J]at hd;exact .inl ⟨J,hd⟩
      ·rw[anv,anu (by rw[LN];omega),LN]at hd;by_cases h2:a-(o+len)<ys.length
       ·rw[ano h2]at hd;exact .inr (.inl ⟨by omega,by omega,hd⟩)
       ·rw[anu (by omega),List.getElem?_drop,show o+len+ys.length+(a-(o+len)-ys.length)=a by omega]at hd;exact .inr (.inr ⟨by omega,hd⟩)
     ·rw[e]at hd;by_cases J:a<cs.length
      ·rw[ano J]at hd;exact .inl ⟨by omega,hd⟩
      ·rw[anu (by omega)]at hd;have:=(ane.1 hd).1;exact .inr (.inl ⟨by omega,by omega,by rw[show a-(o+len)=a-cs.length by omega];exact hd⟩)
    rcases JB with⟨J,h2⟩|⟨J,h2,h3⟩|⟨J,h2⟩
    ·rw[if_neg (by have:=m8 J jv;omega)]at hq;exact r9 a b d x q h2 hx hq
    ·have hle:(o+len)*i.size<=a*i.size:=Nat.mul_le_mul_right _ J;have aI:a*i.size+b<(o+len+ys.length)*i.size:=m8 h2 jv;rw[Nat.add_mul (o+len)]at aI;rw[if_pos ⟨by omega,by rw[hr.len];exact aI⟩]at hq;refine hr.rel (a-(o+len)) b d x q h3 hx ?_;rw[Nat.sub_mul,show a*i.size-(o+len)*i.size+b=a*i.size+b-(o+len)*i.size by omega];exact hq
    ·have hle:(o+len+ys.length)*i.size<=a*i.size:=Nat.mul_le_mul_right _ J;rw[Nat.add_mul (o+len)]at hle;rw[if_neg (by rw[hr.len];omega)]at hq;exact r9 a b d x q h2 hx hq
   have aaj:∀d∈cw,d.length=i.size:=λd hm=>by
    rcases qC with⟨_,_,e⟩|⟨_,_,_,e,_⟩
    ·rw[e]at hm;rcases anR.1 hm with hm|hm
     ·rcases anR.1 hm with hm|hm
      ·exact jm d (List.mem_of_mem_take hm)
      ·exact hr.wid d hm
     ·exact jm d (List.mem_of_mem_drop hm)
    ·rw[e]at hm;rcases anR.1 hm with hm|hm
     ·exact jm d hm
     ·exact hr.wid d hm
   rcases qC with⟨hf,eL,ec⟩|⟨e0,e1,eL,ec,iR,kx⟩
   ·have gd:cw.length=cs.length:=by rw[ec];simp;omega
    obtain⟨G',k1,k2,k3,k4,k5⟩:=XU (us:=us) (off:=(o+len)*i.size) (cw:=cw) hi hn gv r1 r2 r3 r4 r5 r6 r7 r8 l6 gd aaj fk;refine⟨_,_,G',dz,k1,by rw[k2];exact anp _,k3,?_⟩;refine .vec n o (len+ys.length) L' i.size (by rw[k2];exact nV) ⟨_,_,_,rfl⟩ (by rw[k5,eL,lG.1,hL];exact anp _) λ_=> ?_;rw[k4];refine⟨by omega,⟨_,_,rfl,qn,c2,by omega,λho=> ?_⟩,λho hl=> ?_⟩
    ·rw[eL]at ho ⊢;obtain⟨g2,SU,q1,q2,q3⟩:=c4 ho;exact⟨g2,SU,q1,by rw[<-q2,rA],q3⟩
    ·subst ho;rw[r2,hL,<-eL,<-hl];simp at rc;subst rc;simp
   ·subst e0;subst e1;simp only[anz,Nat.zero_mul]at*;subst rc;obtain⟨w',eX⟩:∃w',w'=w.setRow g (cur.toList.take (len*i.size)++us++cur.toList.drop (len*i.size+us.length)).toArray:=⟨_,rfl⟩;rw[<-eX]at dz;have ja:∀b,b≠g->w'.heap[b]?=w.heap[b]?:=λb hb=>by rw[eX];exact setRow_other w g b _ hb
    have oG:w'.heap[g]?=some (.cells (cur.toList.take (len*i.size)++us++cur.toList.drop (len*i.size+us.length)).toArray e (0,0)):=by rw[eX];exact setRow_heap w g cur _ e _ r4
    have hX:w'.heap.size=w.heap.size:=by rw[eX];exact Lm w g _
    obtain⟨sv,mc⟩:∃sv,sv=Value.slice (some ⟨g,0,none⟩) L' c:=⟨_,rfl⟩;have gd:cw.length=L':=by rw[ec,anf,hL,eL]
    have ml:G.fl n=len:=by rw[lG.1,hL]
    have hE:bI G.N G w (G.grow n G.S sv L' (some g)) w':=⟨by rw[hX];exact anp _,λ_ _ h=>h,λb q hs=>World.cell?_of_block (ja b (λe=>r8 q (e▸hs))),λ_ _=>rfl,λm _=>by
        by_cases em:m=n
        ·right;subst em;simp only[Gh.grow,if_true,ml];omega
        ·left;exact⟨by simp [Gh.grow,em],by simp [Gh.grow,em]⟩,gU rfl,λb hb=>ja b (λe=>r3 (e▸hb)),by rw[eX];rfl,by rw[eX];rfl,by rw[eX];rfl,λb q hs=> .inl hs⟩
    refine⟨_,w',_,dz,hE,anp _,Ij hi hn (λ_=>rfl) (λ_=>rfl) _ _ _ _ hE (λg' rW=>by cases rW;exact⟨.inr r1,by rw[hX];exact(ant.1 r4).1⟩) (λb q hs=> .inl hs) (λb _ fK=>ja b (λe=>fK (by rw[e]))) ?_,?_⟩
    ·refine⟨by simp [Gh.grow,gd],by rw[gd];exact iR,aaj, .inr ⟨g,c,_,by simp [Gh.grow],by simp [Gh.grow,mc,gd],r3,oG,by rw[gd];omega,r6,by rw[WL _ _ _ l6];exact r7,r8,λa b d x q hd hx hq=> ?_⟩⟩;rw[Xj _ _ _ _ l6]at hq;exact(fk a b d x q hd hx hq).keep hE (anp _)
    ·refine .vec n 0 (len+ys.length) L' i.size nV ⟨_,_,_,rfl⟩ (by simp [Gh.grow]) λ_=>⟨by omega,⟨_,_,rfl,qn,c2,by omega,λ_=>⟨g,c,by simp [Gh.grow,mc],by simp,by simp⟩⟩,λ_ e=> ?_⟩;simp [Gh.grow,mc,eL]
  rcases lG.2.2.2 with⟨b1,b2,A',b3⟩|⟨g,cap,cur,r1,r2,r3,r4,r5,r6,r7,r8,r9⟩
  ·
   subst b2;simp at hL;subst hL;have ho:o=0:=by omega
   have Ar:len=0:=by omega
   subst ho;subst Ar;have:=call rfl rfl;rw[b3]at this;injection this with q1 _ q2;subst q2;rcases qC with⟨hf,_,_⟩|⟨_,_,eL,ec,iR,kx⟩
   ·omega
   ·simp only[anz,List.nil_append]at eL ec;subst ec;rw[eL]at iR kx;have MM:cw.length<=9223372036854775807:=by simp only[maxLen]at iR;omega
    have hold:(Builtin.firstCells i.size 0 (.slice A 0 0)).run P w.drew= .ok ([]:an3 an7).toArray w.drew:=by
     cases A with
     |none=>exact run_firstCells_none _ _ _ _ _
     |some a=>exact run_firstCells_some _ _ _ _ _ _ [] (by simp) (λj u hu=>by simp at hu)
    have dz:=run_append_grow_src (P:=P) w T tx ty e i z hT ld hz A 0 0 [] hold v cw.length us hs (by omega) (by omega) (growslice_fits (by omega) (by simpa using kx));simp only[anz,List.nil_append]at dz;obtain⟨cap,jU⟩:∃cap,cap=grownCap w cw.length 0 e:=⟨_,rfl⟩;have j0:cw.length<=cap:=by rw[jU];exact grownCap_ge _ _ _ _
    have hle:cap<=maxLen:=by rw[jU];exact grownCap_le_maxLen _ _ _ _ iR
    rw[<-jU]at dz;obtain⟨cur,kt⟩:∃cur,cur=us.toArray++Builtin.zeroCells z.cells (cap-cw.length):=⟨_,rfl⟩;rw[<-kt]at dz;have gx:cur.size=cap*i.size:=by
      have:=size_zeroCells z.cells (cap-cw.length);rw[kt,Array.size_append,this,List.size_toArray,hr.len,j9,<-Nat.add_mul]
      congr 1
      omega
    have fk:(w.drew.alloc (.cells cur e)).heap[w.heap.size]?=some (.cells cur e (0,0)):=World.alloc_heap_new w.drew _;have vG:∀b,b<w.heap.size->(w.drew.alloc (.cells cur e)).heap[b]?=w.heap[b]?:=λb hb=>Below.heap_alloc w.drew _ b hb;obtain⟨sv,mc⟩:∃sv,sv=Value.slice (some ⟨w.heap.size,0,none⟩) L' cap:=⟨_,rfl⟩;have ml:G.fl n=0:=by rw[lG.1];rfl
    have hE:bI G.N G w (G.grow n G.S sv L' (some w.heap.size)) (w.drew.alloc (.cells cur e)):=⟨by simp,λ_ _ h=>h,λb q hs=>World.cell?_of_block (vG b (hi.S b q hs)),λ_ _=>rfl,λm _=>by
        by_cases em:m=n
        ·right;subst em;simp only[Gh.grow,if_true,ml];omega
        ·left;exact⟨by simp [Gh.grow,em],by simp [Gh.grow,em]⟩,gU rfl,λb hb=>vG b (hi.z b hb),rfl,rfl,rfl,λb q hs=> .inl hs⟩
    refine⟨_,_,_,dz,hE,anp _,Ij hi hn (λ_=>rfl) (λ_=>rfl) _ _ _ _ hE (λg' rW=>by cases rW;exact⟨.inl rfl,by simp⟩) (λb q hs=> .inl hs) (λb hb _=>vG b hb) ?_,?_⟩
    ·refine⟨by simp [Gh.grow,eL],iR,hr.wid, .inr ⟨w.heap.size,cap,cur,by simp [Gh.grow],by simp [Gh.grow,mc,eL],λhz=>anT _ (hi.z _ hz),fk,j0,hle,gx,λq hs=>anT _ (hi.S _ _ hs),λa b d x q hd hx hq=> ?_⟩⟩;have jv:b<i.size:=by rw[<-hr.wid d (anr hd)];exact(ane.1 hx).1
     have aI:a*i.size+b<us.length:=by rw[hr.len];exact m8 (ane.1 hd).1 jv
     rw[kt,Array.getElem?_append_left (by simpa using aI),List.getElem?_toArray]at hq;exact(hr.rel a b d x q hd hx hq).keep hE (anp _)
    ·rw[anz];refine .vec n 0 cw.length L' i.size nV ⟨_,_,_,rfl⟩ (by simp [Gh.grow]) λ_=>⟨by omega,⟨_,_,rfl,j0,hle,by omega,λ_=>⟨w.heap.size,cap,by simp [Gh.grow,mc],by simp,by simp⟩⟩,λ_ e=> ?_⟩;simp [Gh.grow,mc,eL]
  ·
   rcases qC with⟨hf,eL,ec⟩|⟨e0,e1,eL,ec,iR,kx⟩
   ·obtain⟨g2,SU,q1,q2,q3⟩:=c4 (by omega);rw[r2]at q1;injection q1 with q4 _ q5;cases q4
    subst q5;exact room (by omega) g cap cur r1 r2 r3 r4 r5 r6 r7 r8 r9 q2 q3
   ·have:=call e0 e1;rw[r2]at this;injection this with q2 _ q3;by_cases qn:len+ys.length<=c
    ·exact room qn g cap cur r1 r2 r3 r4 r5 r6 r7 r8 r9 (by rw[q2,e0];simp) (by omega)
    ·subst e0;subst q2;subst q3;rw[eL]at iR kx;have MM:L+ys.length<=9223372036854775807:=by simp only[maxLen]at iR;omega
     have Ks:(cur.toList.take (len*i.size)).length=len*i.size:=by
      rw[List.length_take,anM,r7];exact Nat.min_eq_left (Nat.mul_le_mul_right _ c1)
     have hold:(Builtin.firstCells i.size len (.slice (some ⟨g,0,none⟩) len c)).run P w.drew= .ok (cur.toList.take (len*i.size)).toArray w.drew:=
      run_firstCells_some _ _ _ _ _ _ _ Ks (λj q hq=>by
       rw[lL,anz];show w.cell? ⟨g,j,none⟩=some q;rw[cell_of_row w g _ cur e (0,0) r4,<-anC];have zS:=(ane.1 hq).1;rw[Ks]at zS;rw[List.getElem?_take_of_lt zS]at hq;exact hq)
     have dz:=run_append_grow_src (P:=P) w T tx ty e i z hT ld hz (some ⟨g,0,none⟩) len c _ hold v ys.length us hs (by omega) (by omega) (growslice_fits (by omega) (by rw[e1];exact kx));obtain⟨cap,jU⟩:∃cap,cap=grownCap w (len+ys.length) c e:=⟨_,rfl⟩;have j0:len+ys.length<=cap:=by rw[jU];exact grownCap_ge _ _ _ _
     have hle:cap<=maxLen:=by rw[jU];exact grownCap_le_maxLen _ _ _ _ (by rw[e1];exact iR)
     rw[<-jU]at dz;obtain⟨uM,kt⟩:∃uM,uM=(cur.toList.take (len*i.size)++us).toArray++Builtin.zeroCells z.cells (cap-(len+ys.length)):=⟨_,rfl⟩;rw[<-kt]at dz;have yU:(cur.toList.take (len*i.size)++us).length=(len+ys.length)*i.size:=by rw[anf,Ks,hr.len,<-Nat.add_mul]
     have gx:uM.size=cap*i.size:=by
      have:=size_zeroCells z.cells (cap-(len+ys.length));rw[kt,Array.size_append,this,List.size_toArray,yU,j9,<-Nat.add_mul]
      congr 1
      omega
     have fk:(w.drew.alloc (.cells uM e)).heap[w.heap.size]?=some (.cells uM e (0,0)):=World.alloc_heap_new w.drew _;have vG:∀b,b<w.heap.size->(w.drew.alloc (.cells uM e)).heap[b]?=w.heap[b]?:=λb hb=>Below.heap_alloc w.drew _ b hb;obtain⟨sv,mc⟩:∃sv,sv=Value.slice (some ⟨w.heap.size,0,none⟩) L' cap:=⟨_,rfl⟩;have ml:G.fl n=L:=by rw[lG.1,hL]
     have gd:cw.length=L':=by rw[ec,anf,hL,eL]
     have hE:bI G.N G w (G.grow n G.S sv L' (some w.heap.size)) (w.drew.alloc (.cells uM e)):=⟨by simp,λ_ _ h=>h,λb q hs=>World.cell?_of_block (vG b (hi.S b q hs)),λ_ _=>rfl,λm _=>by
         by_cases em:m=n
         ·right;subst em;simp only[Gh.grow,if_true,ml];omega
         ·left;exact⟨by simp [Gh.grow,em],by simp [Gh.grow,em]⟩,gU rfl,λb hb=>vG b (hi.z b hb),rfl,rfl,rfl,λb q hs=> .inl hs⟩
     refine⟨_,_,_,dz,hE,anp _,Ij hi hn (λ_=>rfl) (λ_=>rfl) _ _ _ _ hE (λg' rW=>by cases rW;exact⟨.inl rfl,by simp⟩) (λb q hs=> .inl hs) (λb hb _=>vG b hb) ?_,?_⟩
     ·refine⟨by simp [Gh.grow,gd],by rw[gd,eL];exact iR,λd hd=> ?_, .inr ⟨w.heap.size,cap,uM,by simp [Gh.grow],by simp [Gh.grow,mc,gd],λhz=>anT _ (hi.z _ hz),fk,by rw[gd];omega,hle,gx,λq hs=>anT _ (hi.S _ _ hs),λa b d x q hd hx hq=> ?_⟩⟩
      ·rw[ec]at hd;rcases anR.1 hd with hd|hd
       ·exact jm d hd
       ·exact hr.wid d hd
      ·refine aD.keep hE (anp _) ?_;have PQ:d.length=i.size:=by
        have hm:=anr hd;rw[ec]at hm;rcases anR.1 hm with hm|hm
        ·exact jm d hm
        ·exact hr.wid d hm
       have jv:b<i.size:=by rw[<-PQ];exact(ane.1 hx).1
       have hal:a<len+ys.length:=by
        have:=(ane.1 hd).1;rw[gd,eL]at this;omega
       have aI:a*i.size+b<(cur.toList.take (len*i.size)++us).length:=by rw[yU];exact m8 hal jv
       rw[kt,Array.getElem?_append_left (by simpa using aI),List.getElem?_toArray,afP _ us len a b Ks jv]at hq;rw[ec]at hd;by_cases J:a<len
       ·rw[if_pos J,List.getElem?_take_of_lt (m8 J jv),anC]at hq;rw[ano (by omega)]at hd;exact r9 a b d x q hd hx hq
       ·rw[if_neg J]at hq;rw[anu (by omega)]at hd;exact hr.rel (a-len) b d x q (by rw[<-hd];congr 1;omega) hx hq
     ·refine .vec n 0 (len+ys.length) L' i.size nV ⟨_,_,_,rfl⟩ (by simp [Gh.grow]) λ_=>⟨by omega,⟨_,_,rfl,j0,hle,by omega,λ_=>⟨w.heap.size,cap,by simp [Gh.grow,mc],by simp,by simp⟩⟩,λ_ e=> ?_⟩;simp [Gh.grow,mc,eL,e1]
theorem Vw{T tx ty e k cN:Nat}{i:TypeInfo}{z:an7}{A:an5 Addr}{v:an7}{ys:an3 (an3 AV)}{us:an3 an7}(hi:bJ G w h)(hT:P.underlying T=some (.slice e))(ld:P.info? e=some i)(hz:i.zero=some z)(ny:i.size=k)(vC:i.bytes=cN)(j9:z.cells.size=k)(gv:0<k)
 (hr:yl G w k ys us) (hs:Src P k tx v ys.length us w) (iR:ys.length<=maxLen) (kx:ys.length*cN<=140737488355328):
 ∃r w' G',(Builtin.append_ #[T,tx] ty #[.slice A 0 0,v]).run P w= .ok r w'/\bI G.N G w G' w'/\G.N<=G'.N/\bJ G' w' (h++[.vec e k ys])/\aD G' w' r (.vec h.length 0 ys.length ys.length k):=by
 subst ny;subst vC;by_cases hy:ys.length=0
 ·have jO:ys=[]:=List.eq_nil_of_length_eq_zero hy;subst jO;have mv:us=[]:=List.eq_nil_of_length_eq_zero (by rw[hr.len];simp);subst mv;have dz:=run_append_nothing (P:=P) w T tx ty e i hT ld A 0 0 (anp _) v hs;obtain⟨hE,hI⟩:=QS (w':=w) hi (.vec e i.size []) (λ_ _=>rfl) (.slice A 0 0) 0 none ⟨λ_ _=>rfl,anp _,rfl,rfl,rfl⟩ (λg hg=>by cases hg) ⟨by simp [Gh.eZ],by simp,(λ_ h=>by cases h), .inl ⟨by simp [Gh.eZ],rfl,A,by simp [Gh.eZ]⟩⟩;refine⟨_,w,_,dz,hE,Nat.le_succ _,hI,?_⟩;rw[hi.len];exact .vec G.N 0 0 0 i.size (by simp [Gh.eZ]) ⟨_,_,_,rfl⟩ (by simp) λ_=>⟨by omega,⟨A,0,rfl,anp _,Nat.zero_le _,by omega,λh=>by omega⟩,λ_ _=>by simp [Gh.eZ]⟩
 ·have MM:ys.length<=9223372036854775807:=by simp only[maxLen]at iR;omega
  have hold:(Builtin.firstCells i.size 0 (.slice A 0 0)).run P w.drew= .ok ([]:an3 an7).toArray w.drew:=by
   cases A with
   |none=>exact run_firstCells_none _ _ _ _ _
   |some a=>exact run_firstCells_some _ _ _ _ _ _ [] (by simp) (λj u hu=>by simp at hu)
  have dz:=run_append_grow_src (P:=P) w T tx ty e i z hT ld hz A 0 0 [] hold v ys.length us hs (by omega) (by omega) (growslice_fits (by omega) (by simpa using kx));simp only[anz,List.nil_append]at dz;obtain⟨cap,jU⟩:∃cap,cap=grownCap w ys.length 0 e:=⟨_,rfl⟩;have j0:ys.length<=cap:=by rw[jU];exact grownCap_ge _ _ _ _
  have hle:cap<=maxLen:=by rw[jU];exact grownCap_le_maxLen _ _ _ _ iR
  rw[<-jU]at dz;obtain⟨cur,kt⟩:∃cur,cur=us.toArray++Builtin.zeroCells z.cells (cap-ys.length):=⟨_,rfl⟩;rw[<-kt]at dz;have gx:cur.size=cap*i.size:=by
    have:=size_zeroCells z.cells (cap-ys.length);rw[kt,Array.size_append,this,List.size_toArray,hr.len,j9,<-Nat.add_mul]
    congr 1
    omega
  obtain⟨G',g1,g2,g3,g4⟩:=Nl (e:=e) (k:=i.size) (cap:=cap) (cs:=ys) (cur:=cur) hi j0 hle gx hr.wid w.drew ⟨rfl,rfl,rfl,rfl⟩ (λa b d x q hd hx hq=>by
   have jv:b<i.size:=by rw[<-hr.wid d (anr hd)];exact(ane.1 hx).1
   have aI:a*i.size+b<us.length:=by rw[hr.len];exact m8 (ane.1 hd).1 jv
   rw[kt,Array.getElem?_append_left (by simpa using aI),List.getElem?_toArray]at hq;exact hr.rel a b d x q hd hx hq)
  exact⟨_,_,G',dz,g1,g2,g3,g4 _ (anp _)⟩
end
theorem NA:∀(cs:an3 AV)(l:an3 fj),AV.w9 cs=some l->cs.length=l.length/\∀(i:Nat)(x:AV)(c:fj),cs[i]?=some x->l[i]?=some c->x.cap=some c
 |[],l,h=>by
  unfold AV.w9 at h;cases h;exact⟨rfl,λi x c hx=>by simp at hx⟩
 |x::cs,l,h=>by
  unfold AV.w9 at h;split at h
  ·next c l' e1 e2=>
   cases h
   obtain⟨J,h2⟩:=NA cs l' e2;refine⟨by simp [J],λi y d hy hd=> ?_⟩
   match i with
   |0=>simp only[List.getElem?_cons_zero,Option.some.injEq]at hy hd;subst hy;subst hd;exact e1
   |i+1=>exact h2 i y d (by simpa using hy) (by simpa using hd)
  ·cases h
theorem aD.cap{G:Gh}{w:an8}{u:an7}{x:AV}(h:aD G w u x):∀c,x.cap=some c->nP G.S w u c:=by
 induction h with
 |d h=>intro c hc;simp only[AV.cap]at hc;cases hc;exact .d h
 |own n xs h hp hle hf=>intro c hc;simp only[AV.cap]at hc;cases hc;exact .d hp
 |full xs hp hf=>intro c hc;simp only[AV.cap]at hc;cases hc;exact .d hp
 |bg xs i off b o u x hx hS hu=>
  intro c hc;simp only[AV.cap,hx]at hc;cases hc
  exact .bg x off b o u hS hu
 |fn f vs cs hl h ih=>
  intro c hc;simp only[AV.cap]at hc;split at hc
  ·next l e=>
   cases hc
   obtain⟨J,h2⟩:=NA cs l e;refine .fn f vs l (hl.trans J) λi v d hv hd=> ?_;have aI:i<cs.length:=by rw[J];exact(ane.1 hd).1
   exact ih i v _ hv (ani aI) d (h2 i _ d (ani aI) hd)
  ·cases hc
 |hid h J=>intro c hc;simp only[AV.cap]at hc;cases hc;exact h
 |agg=>intro c hc;simp [AV.cap]at hc
 |aZ=>intro c hc;simp [AV.cap]at hc
 |ptr=>intro c hc;simp [AV.cap]at hc
 |row=>intro c hc;simp [AV.cap]at hc
 |mp=>intro c hc;simp [AV.cap]at hc
 |cg=>intro c hc;simp [AV.cap]at hc
 |vec=>intro c hc;simp [AV.cap]at hc
 |dp=>intro c hc;simp [AV.cap]at hc
 |dead=>intro c hc;simp [AV.cap]at hc
section
variable {P:an6} {r:an5 Nat} {n N0:Nat} {G:Gh} {w:an8} {a:Act} {s:St} {o:Oper} {K:St->Prop} {Q:Exit->Act->an8->Prop}
theorem xg(hs:cJ G w a s)(l:Array Operand):(l.map a.eval).size=(l.toList.map (ev s)).length/\∀(i:Nat)(u:an7)(c:AV),(l.map a.eval)[i]?=some u->(l.toList.map (ev s))[i]?=some c->aD G w u c:=by
 refine⟨by simp,λi u c hu hc=> ?_⟩;rw[Array.getElem?_map]at hu;rw[anl,anC]at hc;cases hx:l[i]? with
 |none=>rw[hx]at hu;cases hu
 |some x=>rw[hx]at hu hc;cases hu;cases hc;exact hs.ev x
theorem ZF(hs:cJ G w a s)(l:Array (Nat×Operand)):(l.map λ(i,x)=>(i,a.eval x)).toList.length=(l.toList.map λp=>(p.1,ev s p.2)).length/\
 ∀(i:Nat)(p:Nat×AV)(q:Nat×an7),(l.toList.map λp=>(p.1,ev s p.2))[i]?=some p->(l.map λ(i,x)=>(i,a.eval x)).toList[i]?=some q->q.1=p.1/\aD G w q.2 p.2:=by
 refine⟨by simp,λi p q hp hq=> ?_⟩;rw[anC,Array.getElem?_map]at hq;rw[anl,anC]at hp;cases hx:l[i]? with
 |none=>rw[hx]at hp;cases hp
 |some x=>rw[hx]at hp hq;cases hp;cases hq;exact⟨rfl,hs.ev x.2⟩
theorem D5{x y:Operand}{T U:TypeId}(c:Call)(hc:c.callee= .builtin .append)(J:c.args.toList=[x,y])(h2:c.argTypes.toList=[T,U])(ho:o.op= .call c):
 (execOp a.eval o).run P w=((Builtin.append_ #[T,U] o.type #[a.eval x,a.eval y]).run P w).andThen λv w'=> .ok (.value v) w':=by
 have e1:c.args= #[x,y]:=by rw[<-Array.toList_inj];exact J
 have e2:c.argTypes= #[T,U]:=by rw[<-Array.toList_inj];exact h2
 unfold execOp;simp only[ho,resolve,hc,e1,e2,invoke,builtin,Sem.run_bind,Sem.run_pure,Result.andThen_ok,List.map_toArray,anE,List.map_nil]
theorem YG{x:Operand}{T:TypeId}(c:Call)(hc:c.callee= .builtin .len)(J:c.args.toList=[x])(h2:c.argTypes.toList=[T])(ho:o.op= .call c):
 (execOp a.eval o).run P w=((Builtin.len_ #[T] o.type #[a.eval x]).run P w).andThen λv w'=> .ok (.value v) w':=by
 have e1:c.args= #[x]:=by rw[<-Array.toList_inj];exact J
 have e2:c.argTypes= #[T]:=by rw[<-Array.toList_inj];exact h2
 unfold execOp;simp only[ho,resolve,hc,e1,e2,invoke,builtin,Sem.run_bind,Sem.run_pure,Result.andThen_ok,List.map_toArray,anE,List.map_nil]
theorem ak0(c:Call)(hc:c.callee= .builtin .max)(ho:o.op= .call c):
 (execOp a.eval o).run P w=((Builtin.max_ c.argTypes o.type (c.args.map a.eval)).run P w).andThen λv w'=> .ok (.value v) w':=by
 unfold execOp;simp only[ho,resolve,hc,invoke,builtin,Sem.run_bind,Sem.run_pure,Result.andThen_ok]
theorem ab0(c:Call)(hc:c.callee= .builtin .min)(ho:o.op= .call c):
 (execOp a.eval o).run P w=((Builtin.min_ c.argTypes o.type (c.args.map a.eval)).run P w).andThen λv w'=> .ok (.value v) w':=by
 unfold execOp;simp only[ho,resolve,hc,invoke,builtin,Sem.run_bind,Sem.run_pure,Result.andThen_ok]
theorem ZQ{mx:Bool}{k k':IntKind}{z:Int}:∀(l:an3 AV)(vs:an3 an7)(x:Int),vs.length=l.length->(∀(i:Nat)(u:an7)(c:AV),vs[i]?=some u->l[i]?=some c->aD G w u c)->JX mx k x l=some (k',z)->
 (vs.foldlM (if mx then Builtin.max2 else Builtin.min2) (.int k x)).run P w= .ok (.int k' z) w
 |[],[],x,_,_,h=>by cases h;simp
 |[],_::_,_,hl,_,_=>by simp at hl
 |_::_,[],_,hl,_,_=>by simp at hl
 |y::l,u::vs,x,hl,hr,h=>by
  unfold JX at h;split at h
  ·next e=>cases e
  ·next k2 b l' e=>
   cases e
   have e1:=(hr 0 u _ rfl rfl).val;subst e1;have ih:=ZQ l vs _ (by simpa using hl) (λi u c hu hc=>hr (i+1) u c (by simpa using hu) (by simpa using hc)) h;rw[List.foldlM_cons,Sem.run_bind];cases mx with
   |true=>simp only[if_true,cond_true]at ih ⊢;simp only[Builtin.max2,Sem.run_pure,Result.andThen_ok];exact ih
   |false=>simp only[Bool.false_eq_true,if_false,cond_false]at ih ⊢;simp only[Builtin.min2,Sem.run_pure,Result.andThen_ok];exact ih
  ·cases h
theorem SM{mx:Bool}{k:IntKind}{z:Int}{l:an3 AV}{vs:Array an7}(hl:vs.size=l.length)(hr:∀(i:Nat)(u:an7)(c:AV),vs[i]?=some u->l[i]?=some c->aD G w u c)(h:BD mx l=some (k,z)):
 ∃u us,vs.toList=u::us/\(us.foldlM (if mx then Builtin.max2 else Builtin.min2) u).run P w= .ok (.int k z) w:=by
 unfold BD at h;split at h
 ·next k2 x l'=>
  cases hv:vs.toList with
  |nil=>rw[<-anM,hv]at hl;simp at hl
  |cons u us=>
   refine⟨u,us,rfl,?_⟩;have px:∀(i:Nat)(v:an7)(c:AV),(u::us)[i]?=some v->(AV.d (.v (.int k2 x))::l')[i]?=some c->aD G w v c:=λi v c J h2=>hr i v c (by rw[<-anC,hv];exact J) h2;have e1:=(px 0 u _ rfl rfl).val;subst e1;refine ZQ l' us x ?_ (λi v c J h2=>px (i+1) v c (by simpa using J) (by simpa using h2)) h;rw[<-anM,hv]at hl;simpa using hl
 ·cases h
theorem LJ{f:FuncId}(h:Ko P f=true)(args:Array an7)(w:an8):(callFunc f args).run P w= .ok (.enter f args) w:=by
 unfold Ko at h;cases hq:P.funcs[f]? with
 |none=>rw[hq]at h;simp at h
 |some fn=>
  rw[hq]at h;simp only[ang,Bool.not_eq_true']at h;obtain⟨J,h2⟩:=h;have h3:fn.body≠none:=by intro e;rw[e]at J;cases J
  have h4:fn.name≠ "runtime.NumGoroutine" :=by simpa using h2
  simp [callFunc,hq,h4,h3]
theorem afG(hs:cJ G w a s)(cq:N0<=G.N){x:AV}{h':an3 ao}{p:Sd}(hx:pD P o.op (ev s) s.h=some (x,h',p))(hp:p.ok)(hK:K ((s.wh h').put o.dst x)):o.wpIn (WF r) n P a w (iS N0 G w K) Q:=by
 have de:=hs.ev;unfold pD at hx;split at hx
 next T ho=>
  split at hx
  ·next q hT=>
   cases hx
   obtain⟨i1,i2,i3⟩:=ac2 hs.inv;exact l8 (by rw[ho];simp) hs cq (v:= .map (some w.heap.size)) (by unfold execOp;simp [ho,run_makeMap,Result.andThen]) i1 (Nat.le_succ _) i2 i3 hK
  ·cases hx
 next T m i ok ho=>
  split at hx
  ·next k e hT=>
   split at hx
   ·next z hz=>
    split at hx
    ·next b s' hm hi=>
     split at hx
     ·next kv hn=>
      cases hc:h1 P k with
      |false=>rw[hc]at hx;cases hx
      |true=>
       rw[hc]at hx;cases hx
       obtain⟨v,r1,r2⟩:=adU (ok:=ok) (s:=s') hs.inv hT hz hc hn;have e1:=de m;rw[hm]at e1;have e2:=de i;rw[hi]at e2;have e2:=e2.val;have Qt:a.eval m= .map (some (G.aO b)):=by
        generalize a.eval m=u at e1;cases e1 with|mp _ _=>rfl
       exact ft (by rw[ho];simp) hs cq (by unfold execOp;simp [ho,Qt,e2,r1,Result.andThen]) r2 hK
     ·cases hx
    ·cases hx
   ·cases hx
  ·cases hx
 next T m i y ho=>
  split at hx
  ·next k e hT=>
   split at hx
   ·next b s' d hm hi hd=>
    split at hx
    ·next kv hn=>
     cases hc:h1 P k with
     |false=>rw[hc]at hx;cases hx
     |true=>
      rw[hc]at hx;cases hx
      obtain⟨w',r1,r2,r3⟩:=aiO (s:=s') hs.inv hT hc hn ((de y).toM hd) hp;have e1:=de m;rw[hm]at e1;have e2:=de i;rw[hi]at e2;have e2:=e2.val;have Qt:a.eval m= .map (some (G.aO b)):=by
       generalize a.eval m=u at e1;cases e1 with|mp _ _=>rfl
      exact PT (by rw[ho];simp) hs cq (by unfold execOp;simp [ho,Qt,e2,r1,Result.andThen]) r2 (anp _) r3 hK
    ·cases hx
   ·cases hx
  ·cases hx
 next=>cases hx
theorem aaz(hs:cJ G w a s)(cq:N0<=G.N)(h:qB P o K s):o.wpIn (WF r) n P a w (iS N0 G w K) Q:=by
 have de:=hs.ev;unfold qB cD at h;split at h
 next x ho=>exact ft (by rw[ho];simp) hs cq (v:=a.eval x) (by unfold execOp;rw[ho];rfl) (de x) h
 next x ho=>exact ft (by rw[ho];simp) hs cq (v:=a.eval x) (by unfold execOp;rw[ho];rfl) (de x) h
 next c x y ho=>
  split at h
  next t hc=>
   have hb:=de c;rw[hc]at hb;have e:=hb.bool;cases t with
   |true=>exact ft (by rw[ho];simp) hs cq (v:=a.eval x) (by unfold execOp;simp [ho,e,asBool]) (de x) (h.1 rfl)
   |false=>exact ft (by rw[ho];simp) hs cq (v:=a.eval y) (by unfold execOp;simp [ho,e,asBool]) (de y) (h.2 rfl)
  next=>exact h.elim
 next e ho=>
  split at h
  next z hz=>
   obtain⟨i1,i2⟩:=WB hs.inv z.cells e (z.cells.toList.map λu=> .d (.v u)) (by simp) (λi u c hu hc=>by
    rw[anl,anC,hu]at hc;cases hc;exact .d (.v u))
   exact l8 (by rw[ho];simp) hs cq (by unfold execOp;simp [ho,Instr.alloc,Cu hz,newVar,newRow]) (rD G w hs.inv.z hs.inv.S _) (Nat.le_succ _) i1 i2 h
  next=>exact h.elim
 next e x ho=>
  obtain⟨hb,hK⟩:=bK.1 h;have hr:=(de x).XT hb;obtain⟨i1,i2⟩:=WB hs.inv (a.eval x).cells e (ev s x).cells hr.len hr.rel;exact l8 (by rw[ho];simp) hs cq (by unfold execOp;simp [ho,Instr.box,newVar,newRow]) (rD G w hs.inv.z hs.inv.S _) (Nat.le_succ _) i1 i2 hK
 next t x ho=>
  obtain⟨u,y,J,h2,h3⟩:=ZE hs.inv (de x) h;exact ft (by rw[ho];simp) hs cq (by unfold execOp;simp [ho,J]) h2 h3
 next t x y ho=>
  unfold vJ at h;split at h
  next m off hm=>
   split at h
   next cs gx=>
    split at h
    case h_2=>exact h.elim
    rename_i k hk
    obtain⟨fu,h4⟩:=bK.1 h;simp only[ang,beq_iff_eq,c6]at fu;obtain⟨⟨rfl,h2⟩,h3⟩:=fu;have J:=hk;have hx:=de x;rw[hm]at hx;obtain⟨w',r1,r2,r3⟩:=agS (P:=P) hs.inv gx (de y) h2 J h3;have ex:a.eval x= .pointer (some ⟨G.aO m,off,none⟩):=by
     generalize a.eval x=u at hx;cases hx with
     |ptr=>rfl
    exact PT (by rw[ho];simp) hs cq (by unfold execOp;simp [ho,Instr.storeAt,Instr.sureAddr,ex,r1]) r2 (anp _) r3 h4
   next=>exact h.elim
  next=>exact h.elim
 next x ho=>
  have hx:=de x;split at h
  next m off hm=>
   rw[hm]at hx;generalize ea:a.eval x=u at hx;cases hx with
   |ptr _ _ wZ=>exact ft (by rw[ho];simp) hs cq (by unfold execOp;simp [ho,ea]) (.ptr m off wZ) h
  next xs i off hm=>
   rw[hm]at hx;generalize ea:a.eval x=u at hx;have yE:=hx;cases hx with
   |bg=>exact ft (by rw[ho];simp) hs cq (by unfold execOp;simp [ho,ea]) yE h
  next f cs hm=>
   rw[hm]at hx;generalize ea:a.eval x=u at hx;have yE:=hx;cases hx with
   |fn=>exact ft (by rw[ho];simp) hs cq (by unfold execOp;simp [ho,ea]) yE h
  next=>exact h.elim
 next T x f ho=>
  split at h
  next fo k g hT=>
   have hx:=de x;split at h
   next m off hm=>
    rw[hm]at hx;generalize ea:a.eval x=u at hx;cases hx with
    |ptr _ _ wZ=>exact ft (by rw[ho];simp) hs cq (by unfold execOp;simp [ho,ea,MO hT]) (.ptr m (off+fo) wZ) h
   next xs i off hm=>
    rw[hm]at hx;generalize ea:a.eval x=u at hx;cases hx with
    |bg _ _ _ b oo us c hx hS hu=>exact ft (by rw[ho];simp) hs cq (by unfold execOp;simp [ho,ea,MO hT];rfl) (by rw[Nat.add_assoc];exact .bg xs i (off+fo) b oo us c hx hS hu) h
   next=>exact h.elim
  next=>exact h.elim
 next T x f ho=>
  obtain⟨u,y,J,h2,h3⟩:=ahk (de x) h;exact ft (by rw[ho];simp) hs cq (by unfold execOp;simp [ho,J]) h2 h3
 next T x i ho=>
  obtain⟨u,y,J,h2,h3⟩:=ahe (de x) (de i) h;exact ft (by rw[ho];simp) hs cq (by unfold execOp;simp [ho,J]) h2 h3
 next T x i ho=>
  split at h
  next b z hb hz=>
   obtain⟨hT,h0,h⟩:=bK.1 h;have hT:=rM hT;have hx:=de x;rw[hb]at hx;have ex:=hx.val;obtain⟨k,ei⟩:=(de i).int hz;split at h
   next c hc=>
    refine ft (by rw[ho];simp) hs cq (v:= .int .u8 c.toNat) ?_ (.d (.v _)) h;unfold execOp;simp [ho,Instr.index,ex,ei,asIntOf,run_underlying hT,h0,hc]
   next=>exact h.elim
  next=>exact h.elim
 next T ps ho=>
  obtain⟨p1,p2⟩:=ZF hs ps;obtain⟨u,y,J,h2,h3⟩:=ado p1 p2 h;exact ft (by rw[ho];simp) hs cq (by unfold execOp;simp only[ho,Sem.run_bind,J];rfl) h2 h3
 next T len ps ho=>
  obtain⟨p1,p2⟩:=ZF hs ps;obtain⟨u,w',G',y,J,h2,h3,h4,h5,h6⟩:=ago (T:=T) hs.inv p1 p2 h;exact l8 (by rw[ho];simp) hs cq (by unfold execOp;simp only[ho,Sem.run_bind,J];rfl) h2 h3 h4 h5 h6
 next T x lo hi mx ho=>
  obtain⟨u,y,J,h2,h3⟩:=akV hs (de x) h;exact ft (by rw[ho];simp) hs cq (by unfold execOp;simp [ho,J]) h2 h3
 next x i ho=>
  have hx:=de x;split at h
  next cs gx=>
   rw[gx]at hx;generalize ea:a.eval x=u at hx;split at h
   next c hc=>
    cases hx with
    |aZ vs _ hl hr=>
     have aI:i<vs.size:=by rw[hl];exact(ane.1 hc).1
     exact ft (by rw[ho];simp) hs cq (v:=vs[i]) (by unfold execOp;simp [ho,ea,Instr.extract,aI]) (hr i _ c (anB aI) hc) h
   next=>exact h.elim
  next=>exact h.elim
 next f first cT ho=>
  split at h
  ·next x hx=>
   unfold No at hx;split at hx
   ·next e1=>
    cases hx
    have ajz:first= #[]:=by
     rw[<-Array.toList_inj];exact List.map_eq_nil_iff.1 e1
    subst ajz;obtain⟨p1,p2⟩:=xg hs cT;exact ft (by rw[ho];simp) hs cq (v:= .func (.func f) #[] (cT.map a.eval)) (by unfold execOp;simp [ho,Instr.makeFunc]) (.fn f _ _ p1 p2) h
   ·split at hx
    ·next cs e1 e2=>
     cases hx
     have afQ:cT= #[]:=by
      rw[<-Array.toList_inj];exact List.map_eq_nil_iff.1 e2
     subst afQ;obtain⟨p1,p2⟩:=xg hs first
     obtain⟨c1,c2⟩:=NA _ _ e1;exact ft (by rw[ho];simp) hs cq (v:= .func (.func f) (first.map a.eval) #[]) (by unfold execOp;simp [ho,Instr.makeFunc]) (.hid (.ni f _ _ (p1.trans c1) λi u c hu hc=>by
      have aI:i<(first.toList.map (ev s)).length:=by rw[c1];exact(ane.1 hc).1
      exact(p2 i u _ hu (ani aI)).cap c (c2 i _ c (ani aI) hc)) rfl) h
    ·cases hx
  ·exact h.elim
 next op T x y U ho=>
  obtain⟨u,z,J,h2,h3⟩:=amx (X:=x) (Y:=y) (de x) (de y) h;refine ft (by rw[ho];simp) hs cq ?_ h2 h3;unfold execOp;simp only[ho];rw[Sem.run_bind,J];rfl
 next op T x ho=>
  obtain⟨u,z,J,h2,h3⟩:=agp (P:=P) (de x) h;exact ft (by rw[ho];simp) hs cq (by unfold execOp;simp [ho,J]) h2 h3
 next t u x ho=>
  obtain⟨u,z,J,h2,h3⟩:=aex (de x) h;exact ft (by rw[ho];simp) hs cq (by unfold execOp;simp [ho,J]) h2 h3
 next c ho=>
  have j5:∀c,o.op≠ .defer c:=by rw[ho];simp
  split at h
  next hc=>
   split at h
   next x T J h2=>
    obtain⟨m,r1,r2⟩:=afk (ty:=o.type) (de x) h;exact ft j5 hs cq (by rw[YG c hc J h2 ho,r1];rfl) (.d (.v _)) r2
   next=>exact h.elim
  next hc=>
   split at h
   next x y T U J h2=>
    obtain⟨hU,h⟩:=bK.1 h;obtain⟨⟨e',k'⟩,hU⟩:=Option.isSome_iff_exists.1 hU;obtain⟨p,w',G',q,h',r1,r2,r3,r4,r5,r6⟩:=ame (ty:=o.type) hs.inv (de x) (de y) (jV hU).1 h;exact l8 j5 hs cq (by rw[D5 c hc J h2 ho,r1];rfl) r2 r3 r4 r5 r6
   next=>exact h.elim
  next hc=>
   split at h
   next k z hf=>
    obtain⟨p1,p2⟩:=xg hs c.args;obtain⟨u,us,e1,e2⟩:=SM (P:=P) p1 p2 hf;refine ft j5 hs cq (v:= .int k z) ?_ (.d (.v _)) h;rw[ak0 c hc ho];unfold Builtin.max_;rw[e1];simp only[if_true]at e2;rw[e2];rfl
   next=>exact h.elim
  next hc=>
   split at h
   next k z hf=>
    obtain⟨p1,p2⟩:=xg hs c.args;obtain⟨u,us,e1,e2⟩:=SM (P:=P) p1 p2 hf;refine ft j5 hs cq (v:= .int k z) ?_ (.d (.v _)) h;rw[ab0 c hc ho];unfold Builtin.min_;rw[e1];simp only[Bool.false_eq_true,if_false]at e2;rw[e2];rfl
   next=>exact h.elim
  next f hc=>
   have call:∀(g:FuncId)(cT:an3 AV)(vs:Array an7),a.eval f= .func (.func g) #[] vs->vs.size=cT.length->(∀(i:Nat)(u:an7)(c:AV),vs[i]?=some u->cT[i]?=some c->aD G w u c)->
       cF P g (c.args.toList.map (ev s)++cT) s.h (λr h'=>K ((s.wh h').put o.dst r))->o.wpIn (WF r) n P a w (iS N0 G w K) Q:=by
       intro g cT vs ea hl hr h;obtain⟨p1,p2⟩:=xg hs c.args;obtain⟨Fh,jP⟩:=h;have rG:=jP G w (c.args.map a.eval++vs) hs.inv (by rw[Array.size_append,anf,p1,hl]) (λi u x hu hx=>by
        by_cases hi:i<(c.args.map a.eval).size
        ·rw[Array.getElem?_append_left hi]at hu;rw[ano (by rw[<-p1];exact hi)]at hx;exact p2 i u x hu hx
        ·rw[Array.getElem?_append_right (by omega)]at hu;rw[anu (by rw[<-p1];omega)]at hx;rw[p1]at hu;exact hr _ u x hu hx)
       refine⟨λ_ _=>trivial,?_⟩;have dz:(o.semAt (WF r).round a.eval).run P w= .ok (.enter g (c.args.map a.eval++vs)) w:=by
        rw[Oper.semAt_eq _ _ _ j5];unfold execOp;simp only[ho,resolve,hc,ea];simp [Deferred.ofValue,invoke,LJ Fh]
       rw[dz];refine⟨λh=>(by simp [WF,Fence.wide]at h),?_⟩;have h2:=callsIn_wide (n:=n-1).2 rG;refine CallsIn.mono (F:=WF r) h2 ?_;rintro e w' ⟨v,G',x,h',rfl,x1,x2,x3,x4,x5⟩;exact⟨G',_,x1.less cq,anw cq x2,(hs.move x1 x2 x3).put x4 o.dst,x5⟩
   have aii:∀(g:FuncId)(cT:an3 AV)(vs:Array an7),a.eval f= .func (.func g) vs #[]->vs.size=cT.length->(∀(i:Nat)(u:an7)(c:AV),vs[i]?=some u->cT[i]?=some c->aD G w u c)->
       cF P g (cT++c.args.toList.map (ev s)) s.h (λr h'=>K ((s.wh h').put o.dst r))->o.wpIn (WF r) n P a w (iS N0 G w K) Q:=by
       intro g cT vs ea hl hr h;obtain⟨p1,p2⟩:=xg hs c.args;obtain⟨Fh,jP⟩:=h;have rG:=jP G w (vs++c.args.map a.eval) hs.inv (by rw[Array.size_append,anf,p1,hl]) (λi u x hu hx=>by
        by_cases hi:i<vs.size
        ·rw[Array.getElem?_append_left hi]at hu;rw[ano (by rw[<-hl];exact hi)]at hx;exact hr i u x hu hx
        ·rw[Array.getElem?_append_right (by omega)]at hu;rw[anu (by rw[<-hl];omega)]at hx;rw[hl]at hu;exact p2 _ u x hu hx)
       refine⟨λ_ _=>trivial,?_⟩;have dz:(o.semAt (WF r).round a.eval).run P w= .ok (.enter g (vs++c.args.map a.eval)) w:=by
        rw[Oper.semAt_eq _ _ _ j5];unfold execOp;simp only[ho,resolve,hc,ea];simp [Deferred.ofValue,invoke,LJ Fh]
       rw[dz];refine⟨λh=>(by simp [WF,Fence.wide]at h),?_⟩;have h2:=callsIn_wide (n:=n-1).2 rG;refine CallsIn.mono (F:=WF r) h2 ?_;rintro e w' ⟨v,G',x,h',rfl,x1,x2,x3,x4,x5⟩;exact⟨G',_,x1.less cq,anw cq x2,(hs.move x1 x2 x3).put x4 o.dst,x5⟩
   split at h
   next g cT hg=>
    have hf:=de f;rw[hg]at hf;generalize ea:a.eval f=u at hf;cases hf with
    |fn _ vs _ hl hr=>exact call g cT vs ea hl hr h
   next q hg=>
    obtain⟨g,as,eq,h⟩:=h;have hf:=de f;rw[hg]at hf;generalize ea:a.eval f=u at hf;cases hf with
    |hid hq J=>
     cases hq with
     |d _=>simp [fj.app]at eq
     |bg _ _ _ _ _ _ _=>simp [fj.app]at eq
     |ni g0 vs cs hl hr=>
      simp only[fj.app,Option.some.injEq,Prod.mk.injEq]at eq;obtain⟨rfl,rfl⟩:=eq;exact aii _ (cs.map fj.av) vs ea (by rw[anj];exact hl) (λi u c hu hc=>by
       rw[anl]at hc;cases hx:cs[i]? with
       |none=>rw[hx]at hc;cases hc
       |some d=>rw[hx]at hc;cases hc;exact(hr i u d hu hx).av) h
     |fn g0 vs cs hl hr=>
      simp only[fj.app,Option.some.injEq,Prod.mk.injEq]at eq;obtain⟨rfl,rfl⟩:=eq;exact call _ (cs.map fj.av) vs ea (by rw[anj];exact hl) (λi u c hu hc=>by
       rw[anl]at hc;cases hx:cs[i]? with
       |none=>rw[hx]at hc;cases hc
       |some d=>rw[hx]at hc;cases hc;exact(hr i u d hu hx).av) h
   next=>exact h.elim
  next=>exact h.elim
 next op _=>
  split at h
  next x h' p hx=>exact afG hs cq hx h.1 h.2
  next=>exact h.elim
theorem QJ(hs:cJ G w a s){x:an5 Operand}{d:Nat}{z:Int}(h:ub (ev s) d x=some z)(h0:0<=z):BE a x d z.toNat:=by
 cases x with
 |none=>
  simp only[ub,Option.some.injEq]at h;subst h;show _=d;exact anG d
 |some y=>
  simp only[ub]at h;obtain⟨k,e⟩:=(hs.ev y).int h;exact⟨k,z,e,h0,rfl⟩
theorem mC{α:Type}{b:Bool}{x y:α}(h:(bif b then some x else none)=some y):b=true/\x=y:=by
 cases b with
 |true=>exact⟨rfl,anx h⟩
 |false=>cases h
theorem abR{α:Type}{b:Bool}{x:an5 α}{y:α}(h:(bif b then x else none)=some y):b=true/\x=some y:=by
 cases b with
 |true=>exact⟨rfl,h⟩
 |false=>cases h
theorem XI(hs:cJ G w a s)(cq:N0<=G.N)(h:Jz P o K s):o.wpIn (WF r) n P a w (iS N0 G w K) Q:=by
 obtain⟨va,x,h',p,hx,hp,hK⟩:=h;have de:=hs.ev;unfold ij at hx;split at hx
 next T y i ho=>
  split at hx
  ·next n' o' len L k z e k' i' e1 e2 e3=>
   split at hx
   ·next e4 k2 cs hn=>
    obtain⟨hb,he⟩:=mC hx;cases he
    rw[ang,beq_iff_eq,beq_iff_eq]at hb;obtain⟨rfl,rfl⟩:=hb;obtain⟨hL,h0,aI,rfl⟩:=hp;obtain⟨fB,fS⟩:=jV e3;obtain⟨kz,ez⟩:=(de i).int e2;have hv:=de y;rw[e1]at hv;have lB:=hv.tf hs.inv hn hL;obtain⟨AK,⟨A,c,q1,q2,q3,q4,q5⟩,_⟩:=lB;obtain⟨g,cap,s1,rfl,s3⟩:=q5 (by omega);have QK:z<(len:Int):=aI;refine ft (by rw[ho];simp) hs cq (v:= .pointer (some ⟨g,o'*k2+z.toNat*k2,none⟩)) ?_ (.dp n' (o'+z.toNat) 0 L k2 (hs.inv.lt hn) ⟨_,_,rfl⟩ (by rw[(hs.inv.cV n' _ hn).1,hL];exact anp _) λ_=>⟨by omega,g,cap,s1,?_⟩) hK
    ·unfold execOp;simp [ho,q1,ez,Instr.indexAt,asIntOf,run_underlying fB,h0,QK,mz fS,lL]
    ·rw[Nat.add_mul];rfl
   ·cases hx
  ·cases hx
 next T y f ho=>
  split at hx
  ·next n' i j L k fo q g e1 hT=>
   cases hx
   have hv:=de y;rw[e1]at hv;generalize ea:a.eval y=u at hv;cases hv with
   |dp _ _ _ _ _ nV Lt hL hf=>
    obtain⟨pb,pq,rfl⟩:=Lt;refine ft (by rw[ho];simp) hs cq (v:= .pointer (some ⟨pb,pq+fo,none⟩)) (by unfold execOp;simp [ho,ea,MO hT]) (.dp n' i (j+fo) L k nV ⟨_,_,rfl⟩ hL λe=> ?_) hK;obtain⟨a1,g2,cap,a2,a3⟩:=hf e;refine⟨a1,g2,cap,a2,?_⟩;injection a3 with a3;injection a3 with a3;injection a3 with a4 a5;subst a4;subst a5;rw[Nat.add_assoc]
  ·cases hx
 next y ho=>
  split at hx
  ·next n' i j L k e1=>
   cases hx
   have hv:=de y;rw[e1]at hv;have Z6:=hv;generalize ea:a.eval y=u at hv Z6;cases hv with
   |dp _ _ _ _ _ nV Lt hL hf=>
    obtain⟨pb,pq,rfl⟩:=Lt;exact ft (by rw[ho];simp) hs cq (by unfold execOp;simp [ho,ea]) Z6 hK
  ·cases hx
 next t y ho=>
  split at hx
  ·next n' i j L k c e1=>
   split at hx
   ·next e k' cs z hn hz=>
    obtain⟨hb,he⟩:=mC hx;cases he
    rw[beq_iff_eq]at hb;subst hb;have hv:=de y;rw[e1]at hv;obtain⟨u,r1,r2⟩:=ak6 hs.inv hn hp.1 hp.2 hz hv;exact ft (by rw[ho];simp) hs cq (by unfold execOp;simp [ho,r1]) r2 hK
   ·cases hx
  ·cases hx
 next t y z ho=>
  split at hx
  ·next n' i j L k c cw e1=>
   split at hx
   ·next e k' cs q hn hq=>
    obtain⟨hb,he⟩:=mC hx;cases he
    simp only[ang,beq_iff_eq,c6]at hb;obtain⟨⟨⟨⟨rfl,rfl⟩,Nw⟩,hj⟩,gv⟩:=hb;obtain⟨hL,hc,rfl⟩:=hp;have hv:=de y;rw[e1]at hv;obtain⟨w',G',r1,r2,r3,r4⟩:=acJ hs.inv hn hL hc hv (de z) Nw hq hj gv;exact PT (by rw[ho];simp) hs cq (by unfold execOp;simp [ho,r1]) r2 r3 r4 hK
   ·cases hx
  ·cases hx
 next T y lo hi ho=>
  split at hx
  ·next n' o' len L k e k' oo ll e1 hT=>
   split at hx
   ·next l u hl hu=>
    split at hx
    ·next e4 k2 cs hn=>
     obtain⟨hb,he⟩:=mC hx;cases he
     rw[ang,beq_iff_eq,beq_iff_eq]at hb;obtain⟨rfl,rfl⟩:=hb;obtain⟨hL,h0,hlu,huL,rfl,rfl⟩:=hp;obtain⟨fB,fS⟩:=jV hT;have hv:=de y;rw[e1]at hv;have lB:=hv.tf hs.inv hn hL;obtain⟨AK,⟨A,c,q1,q2,q3,q4,q5⟩,_⟩:=lB;have hb:=BK (P:=P) (Bn:=true) (QJ hs hl h0) (QJ hs hu (by omega)) (by omega) (show u.toNat<=c by omega) w;refine ft (by rw[ho];simp) hs cq (v:= .slice (if c=l.toNat then A else A.map (·.add (l.toNat*k2))) (u.toNat-l.toNat) (c-l.toNat)) ?_ (.vec n' (o'+l.toNat) (u.toNat-l.toNat) L k2 (hs.inv.lt hn) ⟨_,_,_,rfl⟩ (by rw[(hs.inv.cV n' _ hn).1,hL];exact anp _) λ_=>⟨by omega,⟨_,_,rfl,by omega,by omega,by omega,λho2=> ?_⟩,λJ h2=> ?_⟩) hK
     ·unfold execOp;simp [ho,q1,Instr.sliceAt,Instr.slice,run_underlying fB,hb,mz fS]
     ·obtain⟨g,cap,s1,rfl,s3⟩:=q5 (by omega);refine⟨g,cap,s1,?_,by omega⟩;rw[if_neg (by omega)];simp [lL,Nat.add_mul]
     ·have ho0:o'=0:=by omega
      have Ar:l.toNat=0:=by omega
      subst ho0;rw[Ar];rw[Ar]at h2;simp only[Nat.sub_zero]at h2 ⊢;by_cases vm:L=0
      ·subst vm;have:len=0:=by omega
       subst this
       rename_i fu
       rw[<-fu rfl rfl,q1,h2];split
       ·rfl
       ·cases A<;>simp [Addr.add]
      ·obtain⟨g,cap,s1,rfl,s3⟩:=q5 (by omega);rw[s1,h2];have:c=cap:=by omega
       subst this;split<;>simp [lL]
    ·cases hx
   ·cases hx
  ·cases hx
 next T l c ho=>
  split at hx
  ·next e k z1 z2 cs len m hT e1 e2=>
   split at hx
   ·next z cN hz py=>
    obtain⟨hb,he⟩:=mC hx;cases he
    simp only[ang,beq_iff_eq,c6]at hb;obtain⟨⟨gv,j9⟩,_⟩:=hb;obtain⟨h0,lk,hl,hc,rfl,hm,mQ⟩:=hp;obtain⟨fB,fS⟩:=jV hT;obtain⟨inf,i1,i2,i3⟩:=Qi fS py;have EP:inf.zero=some z:=by
     obtain⟨i',j1,j2⟩:=F5 hz;rw[i1]at j1;cases j1;exact j2
    obtain⟨k1,ez1⟩:=(de l).int e1;obtain⟨k2,ez2⟩:=(de c).int e2;obtain⟨u,w',G',r1,r2,r3,r4,r5⟩:=abL (kl:=k1) (kc:=k2) hs.inv fB i1 EP i2 i3 j9 gv h0 lk hl hc hm mQ;exact l8 (by rw[ho];simp) hs cq (by unfold execOp;simp [ho,ez1,ez2,r1]) r2 r3 r4 r5 hK
   ·cases hx
  ·cases hx
 next c ho=>
  have j5:∀c,o.op≠ .defer c:=by rw[ho];simp
  split at hx
  next hc=>
   split at hx
   ·next y T J h2=>
    split at hx
    ·next n' oo len L k e1=>
     split at hx
     ·next e4 k2 cs hn=>
      obtain⟨hb,he⟩:=mC hx;cases he
      rw[ang,beq_iff_eq]at hb;obtain⟨hT,rfl⟩:=hb;obtain⟨⟨e,q⟩,hT⟩:=Option.isSome_iff_exists.1 hT;have hv:=de y;rw[e1]at hv;have lB:=hv.tf hs.inv hn hp;obtain⟨AK,⟨A,cc,q1,q2,q3,q4,q5⟩,_⟩:=lB;exact ft j5 hs cq (v:= .int .i64 len) (by rw[YG c hc J h2 ho,q1];simp [Builtin.len_,run_underlying (jV hT).1,goInt]) (.d (.v _)) hK
     ·cases hx
    ·cases hx
   ·cases hx
  next hc=>
   split at hx
   ·next y z T U J h2=>
    split at hx
    ·next e k pU cw ys L' gP hT hU=>
     split at hx
     ·next z0 cN hz py=>
      obtain⟨hb,hx⟩:=abR hx;rw[ang,beq_iff_eq,c6]at hb;obtain⟨gv,j9⟩:=hb;obtain⟨fB,fS⟩:=jV hT;obtain⟨inf,i1,i2,i3⟩:=Qi fS py;have EP:inf.zero=some z0:=by
       obtain⟨i',j1,j2⟩:=F5 hz;rw[i1]at j1;cases j1;exact j2
      have jB:z0.cells.size=k:=by rw[<-anM];exact j9
      obtain⟨eU,kU⟩:=pU;split at hx
      ·next n' oo len L k1 e1=>
       split at hx
       ·next e4 k2 cs hn=>
        obtain⟨hb,he⟩:=mC hx;cases he
        simp only[ang,beq_iff_eq]at hb;obtain⟨⟨rfl,rfl⟩,rfl⟩:=hb;obtain⟨hL,wR,rfl,qC⟩:=hp;obtain⟨us,hr,Fy⟩:=LB (tx:=U) hs.inv (de z) wR gv (jV hU).1;have hv:=de y;rw[e1]at hv;obtain⟨u,w',G',r1,r2,r3,r4,r5⟩:=aie (ty:=o.type) hs.inv fB i1 EP i2 i3 jB gv hn hL hv hr Fy qC;exact l8 j5 hs cq (by rw[D5 c hc J h2 ho,r1];rfl) r2 r3 r4 r5 hK
       ·cases hx
      ·next e1=>
       cases hx
       obtain⟨wR,rfl,rfl,rfl,iR,kx⟩:=hp;obtain⟨us,hr,Fy⟩:=LB (tx:=U) hs.inv (de z) wR gv (jV hU).1;have hv:=de y;rw[e1]at hv;have ev:=hv.val;obtain⟨u,w',G',r1,r2,r3,r4,r5⟩:=Vw (ty:=o.type) (A:=none) hs.inv fB i1 EP i2 i3 jB gv hr Fy iR kx;exact l8 j5 hs cq (by rw[D5 c hc J h2 ho,ev,r1];rfl) r2 r3 r4 r5 hK
      ·next xs e1=>
       cases hx
       obtain⟨rfl,wR,rfl,rfl,rfl,iR,kx⟩:=hp;obtain⟨us,hr,Fy⟩:=LB (tx:=U) hs.inv (de z) wR gv (jV hU).1;have hv:=de y;rw[e1]at hv;obtain⟨A,eA⟩:∃A,a.eval y= .slice A 0 0:=by
        generalize a.eval y=u at hv;cases hv with|full _ _ hf=>exact hf
       obtain⟨u,w',G',r1,r2,r3,r4,r5⟩:=Vw (ty:=o.type) (A:=A) hs.inv fB i1 EP i2 i3 jB gv hr Fy iR kx;exact l8 j5 hs cq (by rw[D5 c hc J h2 ho,eA,r1];rfl) r2 r3 r4 r5 hK
      ·cases hx
     ·cases hx
    ·cases hx
   ·cases hx
  next=>cases hx
 next=>cases hx
theorem acG(hs:cJ G w a s)(cq:N0<=G.N)(h:CP P o K s):o.wpIn (WF r) n P a w (iS N0 G w K) Q:=by
 have de:=hs.ev;unfold CP at h;split at h
 ·next op T x y U ho=>
  split at h
  ·next xs pT v1 v2 hx hy hT J h2=>
   obtain⟨e,k⟩:=pT;have fB:=(jV hT).1;have hv:=de y;rw[hy]at hv;have ey:=hv.val;obtain⟨A,b,oo,c,k',u,ex,hA,_,_,_,_,_⟩:=((de x).list hx).qD;have hg:(eqGuard op T x y (a.eval x) (a.eval y)).run P w= .ok () w:=by rw[ex,ey];unfold eqGuard;cases op<;>simp
   have dz:(binOp op T (a.eval x) (a.eval y)).run P w= .ok (if A.isNone then v1 else v2) w:=by
    rw[ex,ey];have hq:=run_equal_slice_nil (P:=P) (w:=w) T e A xs.length c fB;cases op<;>simp [xJ]at J h2<;>subst J<;>subst h2<;>simp [binOp,hq]<;>cases A<;>rfl
   have hex:(execOp a.eval o).run P w= .ok (.value (if A.isNone then v1 else v2)) w:=by
    unfold execOp;simp only[ho];rw[Sem.run_bind,Sem.run_bind,hg];simp only[Result.andThen_ok];rw[dz];rfl
   cases A with
   |none=>
    have lK:xs=[]:=Classical.byContradiction λcA=>by have:=hA cA;cases this
    exact ft (by rw[ho];simp) hs cq hex (.d (.v _)) (h.1 lK)
   |some ad=>exact ft (by rw[ho];simp) hs cq hex (.d (.v _)) h.2
  ·exact h.elim
 ·exact h.elim
theorem LA(hs:cJ G w a s)(cq:N0<=G.N)(h:aj6 P o K s):o.wpIn (WF r) n P a w (iS N0 G w K) Q:=by
 rcases h with h|h|h
 ·exact XI hs cq h
 ·exact acG hs cq h
 ·exact aaz hs cq h
end
end Go.Proofs.YtpeecnpmcbnahaaGreatDoor
