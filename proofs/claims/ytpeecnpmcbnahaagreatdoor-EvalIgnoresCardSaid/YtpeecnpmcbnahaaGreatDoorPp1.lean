/-
  Part 1 of the proof: AbsGlob, AbsCore, AbsOps, AbsHeap, AbsStore, AbsApp, AbsOp, AbsOp2, AbsOp3, AbsMap, AbsVec, AbsVec2, AbsOp4.
-/
import Derived.WalkKit
import Derived.Laws.Strings
import Derived.Lib.Hide
import Derived.OrdersIn
import Derived.RangeFuncIn
import Derived.RangeFuncCalls
import Derived.RangeFuncLeaves
import Derived.RangeFuncFrom
import Derived.Deep.MidRow
import Derived.Laws.AppendOwn
import Derived.Maps.OwnOps
import Derived.KernelRfl
import Derived.Deep.AppendSrc
import Derived.Deep.Upon
import Derived.Laws.BytesString
import Derived.Laws.StructEq
import Derived.Laws.MakeOwn
import Derived.Laws.Cover3
namespace Go.Proofs.YtpeecnpmcbnahaaGreatDoor
open Go.RowKit
abbrev aoq:=@Option.bind_some
abbrev aor:=@List.getElem?_eq_some_iff
abbrev aos:=@List.length_append
abbrev aot:=@Bool.and_eq_true
abbrev aou:=@List.length_cons
abbrev aov:=@List.getElem?_eq_getElem
abbrev aow:=@List.length_map
abbrev aox:=@List.mem_cons_self
abbrev aoy:=@List.getElem?_map
abbrev aoz:=@Nat.le_of_ble_eq_true
abbrev aoA:=@List.mem_cons_of_mem
abbrev aoB:=@List.getElem?_append_left
abbrev aoC:=@Nat.le_refl
abbrev aoD:=@List.length_nil
abbrev aoE:=@List.mem_of_getElem?
abbrev aoF:=@Nat.eq_of_beq_eq_true
abbrev aoG:=@Array.getElem?_eq_some_iff
abbrev aoH:=@List.getElem?_append_right
abbrev aoI:=@List.append_assoc
abbrev aoJ:=@Nat.le_trans
abbrev aoK:=@Option.some.inj
abbrev aoL:=@Nat.zero_add
abbrev aoM:=@List.append_nil
abbrev aoN:=@Array.getElem?_eq_getElem
abbrev aoO:=@Array.getElem?_toList
abbrev aoP:=@Nat.lt_of_lt_of_le
abbrev aoQ:=@List.map_cons
abbrev aoR:=@List.all_eq_true
abbrev aoS:=@Int.toNat_natCast
abbrev aoT:=@Nat.not_lt_zero
abbrev aoU:=@List.getElem?_set_self
abbrev aoV:=@List.mem_cons
abbrev aoW:=@List.map_congr_left
abbrev aoX:=@List.getElem?_eq_none
abbrev aoY:=@Array.length_toList
abbrev aoZ:=@List.getElem?_set_ne
abbrev ao0:=@List.drop_zero
abbrev ao1:=@List.length_replicate
abbrev ao2:=@List.getElem?_cons_succ
abbrev ao3:=@List.mem_append
abbrev ao4:=@List.take_append_drop
abbrev ao5:=@Nat.lt_irrefl
abbrev ao6:=@Nat.le_add_right
abbrev ao7:=@List.not_mem_nil
abbrev ao8:=@decide_eq_true
abbrev ao9:=@decide_eq_false
abbrev apa:=@beq_self_eq_true
abbrev apb:=@List.all_cons
abbrev apc:=@List.any_cons
abbrev apd:=@Nat.lt_succ_self
abbrev ape:=@Bool.or_eq_false_iff
abbrev apf:Type->Type:=List
abbrev apg:=ByteArray
abbrev aph:Type->Type:=Option
abbrev api:=Program
abbrev apj:=Value
abbrev apk:=World
def bL(a:apg):apf UInt8:=a.data.toList
theorem Sw(a:apg):a.toList=bL a:=ByteArray.toList_eq a
theorem L9{a b:apg}(h:bL a=bL b):a=b:=by cases a;cases b;simp only[bL,Array.toList_inj]at h;rw[h]
def w7(l:apf Nat):apf apj:=l.map λn=>Value.int .u8 (Int.ofNat n)
def Gr:apf Nat:=(List.range 256).map λn=>bif (Nat.ble 9 n&&Nat.ble n 13)||n==32 then 1 else 0
def By:apf (Nat×apf apj):=
 (0,w7 Gr)::
  []
def BR:apf (Nat×apf apj)->Nat->aph (apf apj)
 |[],_=>none
 |(k,l)::r,g=>bif k==g then some l else BR r g
theorem Yj:∀{t:apf (Nat×apf apj)}{g:Nat}{l:apf apj},BR t g=some l->(g,l)∈t
 |[],g,l,h=>by cases h
 |(k,l')::r,g,l,h=>by
  unfold BR at h;cases e:k==g with
  |true=>rw[e]at h;cases h;rw[beq_iff_eq]at e;subst e;simp
  |false=>rw[e]at h;exact aoA _ (Yj h)
inductive D where
 |v (u:Value)
 |sl (xs:List (List D))
 |ag (ds:List D)
inductive fk where
 |d (x:D)
 |bj (c:List D) (off:Nat)
 |fn (f:FuncId) (cs:List fk)
 |nS (f:FuncId) (cs:List fk)
inductive AV where
 |d (x:D)
 |agg (cs:List AV)
 |bg (cs:List AV)
 |ptr (n off:Nat)
 |bj (xs:List (List D)) (i off:Nat)
 |own (n:Nat) (xs:List (List D))
 |full (xs:List (List D))
 |row (n off len cap k:Nat)
 |fn (f:FuncId) (cZ:List AV)
 |mp (n:Nat)
 |cn (n:Nat)
 |vec (n o len L k:Nat)
 |dn (n i j L k:Nat)
 |hid (c:fk)
 |dead
inductive LS where
 |ready
 |busy
 |done (c:Code)
def LS.st:LS->LoopState
 | .ready=> .ready
 | .busy=> .busy
 | .done _=> .done
def LS.pd:LS->aph Code
 | .done c=>some c
 |_=>none
inductive aq where
 |cells (cs:List AV)
 |front (e:TypeId) (k len:Nat)
 |vec (e:TypeId) (k:Nat) (cs:List (List AV))
 |map (kv:List (ByteArray×D))
 |iS (kv:List (ByteArray×D))
 |lp (ls:LS) (p:Nat) (as bd:Code) (cs:List AV)
 |it (sn:Nat×List Nat) (cs:List AV)
 |eP (T:TypeId) (cs:List AV)
 |iB (e:TypeId) (b:ByteArray)
 |gone
structure Gh where
 N:Nat
 Z:Nat->Prop
 S:Nat->Nat->Prop
 aR:Nat->Nat
 sg:Nat->Value
 ow:Nat->Option Nat
 fl:Nat->Nat
 M:Nat
inductive dh(S:Nat->Nat->Prop)(w:World):Value->D->Prop
 |v (u:Value):dh S w u (.v u)
 |sl (A:Option Addr) (b o c k:Nat) (xs:List (List D)) (u:Nat->Nat->Value)
    (hA:xs≠ []->A=some ⟨b,o,none⟩) (hc:xs.length<=c) (hm:c<=maxLen)
    (hk:∀x∈xs,x.length=k)
    (hS:∀i j,i<xs.length->j<k->S b (o+i*k+j)/\w.cell? ⟨b,o+i*k+j,none⟩=some (u i j)/\(u i j).oneCell'=true)
    (hu:∀(i j:Nat)(x:List D)(d:D),xs[i]?=some x->x[j]?=some d->dh S w (u i j) d):dh S w (.slice A xs.length c) (.sl xs)
 |ag (vs:Array Value) (ds:List D) (hl:vs.size=ds.length) (h:∀(i:Nat)(u:Value)(d:D),vs[i]?=some u->ds[i]?=some d->dh S w u d):dh S w (.agg vs) (.ag ds)
inductive nZ(S:Nat->Nat->Prop)(w:World):Value->fk->Prop
 |d {u:Value} {x:D} (h:dh S w u x):nZ S w u (.d x)
 |bj (c:List D) (off b o:Nat) (u:Nat->Value) (hS:∀j,j<c.length->S b (o+j)/\w.cell? ⟨b,o+j,none⟩=some (u j)) (hu:∀(j:Nat)(d:D),c[j]?=some d->dh S w (u j) d):nZ S w (.pointer (some ⟨b,o+off,none⟩)) (.bj c off)
 |fn (f:FuncId) (vs:Array Value) (cs:List fk) (hl:vs.size=cs.length) (h:∀(i:Nat)(u:Value)(c:fk),vs[i]?=some u->cs[i]?=some c->nZ S w u c):nZ S w (.func (.func f) #[] vs) (.fn f cs)
 |nS (f:FuncId) (vs:Array Value) (cs:List fk) (hl:vs.size=cs.length) (h:∀(i:Nat)(u:Value)(c:fk),vs[i]?=some u->cs[i]?=some c->nZ S w u c):nZ S w (.func (.func f) vs #[]) (.nS f cs)
structure TA(s u:Value)(o len L k:Nat):Prop where
 ol:o+len<=L
 sl:∃A c,u= .slice A len c/\len<=c/\c<=maxLen/\L<=c+o/\(o<L->∃g cap,s= .slice (some ⟨g,0,none⟩) L cap/\A=some ⟨g,o*k,none⟩/\o+c=cap)
 all:o=0->len=L->u=s
structure T9(s u:Value)(i j L k:Nat):Prop where
 il:i<L
 pt:∃g cap,s= .slice (some ⟨g,0,none⟩) L cap/\u= .pointer (some ⟨g,i*k+j,none⟩)
inductive aF(G:Gh)(w:World):Value->AV->Prop
 |d {u:Value} {x:D} (h:dh G.S w u x):aF G w u (.d x)
 |agg (vs:Array Value) (cs:List AV) (hl:vs.size=cs.length) (h:∀(i:Nat)(u:Value)(c:AV),vs[i]?=some u->cs[i]?=some c->aF G w u c):aF G w (.agg vs) (.agg cs)
 |bg (vs:Array Value) (cs:List AV) (hl:vs.size=cs.length) (h:∀(i:Nat)(u:Value)(c:AV),vs[i]?=some u->cs[i]?=some c->aF G w u c):aF G w (.tuple vs) (.bg cs)
 |ptr (n off:Nat) (h:n<G.N):aF G w (.pointer (some ⟨G.aR n,off,none⟩)) (.ptr n off)
 |bj (xs:List (List D)) (i off b o:Nat) (u:Nat->Value) (x:List D) (hx:xs[i]?=some x)
  (hS:∀j,j<x.length->G.S b (o+j)/\w.cell? ⟨b,o+j,none⟩=some (u j)) (hu:∀(j:Nat)(d:D),x[j]?=some d->dh G.S w (u j) d):aF G w (.pointer (some ⟨b,o+off,none⟩)) (.bj xs i off)
 |own {u:Value} (n:Nat) (xs:List (List D)) (h:n<G.N) (hp:dh G.S w u (.sl xs)) (hle:xs.length<=G.fl n) (hf:xs.length=G.fl n->u=G.sg n):aF G w u (.own n xs)
 |full {u:Value} (xs:List (List D)) (hp:dh G.S w u (.sl xs)) (hf:∃A,u= .slice A xs.length xs.length):aF G w u (.full xs)
 |row (n off len cap k:Nat) (h:n<G.N) (hl:len<=cap) (hm:cap<=maxLen):aF G w (.slice (some ⟨G.aR n,off,none⟩) len cap) (.row n off len cap k)
 |fn (f:FuncId) (vs:Array Value) (cs:List AV) (hl:vs.size=cs.length) (h:∀(i:Nat)(u:Value)(c:AV),vs[i]?=some u->cs[i]?=some c->aF G w u c):aF G w (.func (.func f) #[] vs) (.fn f cs)
 |mp (n:Nat) (h:n<G.N):aF G w (.map (some (G.aR n))) (.mp n)
 |cn (n:Nat) (h:n<G.N):aF G w (.func (.yield (G.aR n)) #[] #[]) (.cn n)
 |vec {u:Value} (n o len L k:Nat) (h:n<G.N) (hs:∃A l c,u= .slice A l c) (hL:L<=G.fl n) (hf:L=G.fl n->TA (G.sg n) u o len L k):aF G w u (.vec n o len L k)
 |dn {u:Value} (n i j L k:Nat) (h:n<G.N) (hs:∃b q,u= .pointer (some ⟨b,q,none⟩)) (hL:L<=G.fl n) (hf:L=G.fl n->T9 (G.sg n) u i j L k):aF G w u (.dn n i j L k)
 |hid {u:Value} {c:fk} (h:nZ G.S w u c) (J:u.oneCell'=true):aF G w u (.hid c)
 |dead (u:Value):aF G w u .dead
def kV:apf (apg×D)->apg->aph D
 |[],_=>none
 |(k,d)::l,s=>bif bL k==bL s then some d else kV l s
structure tK(S:Nat->Nat->Prop)(w:World)(es:Array MapEntry)(clock:Nat)(kv:List (ByteArray×D)):Prop where
 size:es.size<=maxLen
 stamped:MapKept.Stamped es clock
 BQ:∀e∈es.toList,∃s d,e.key= .string s/\kV kv s=some d/\dh S w e.val d
 all:∀s d,kV kv s=some d->∃e∈es.toList,e.key= .string s
 len:es.size<=kv.length
 born:∀(i:Nat)(e:MapEntry),es[i]?=some e->e.born=i
 Ea:clock=es.size
structure yp(S:Nat->Nat->Prop)(w:World)(es:Array MapEntry)(clock:Nat)(kv:List (ByteArray×D)):Prop where
 ok:tK S w es clock kv
 ord:∀(i:Nat)(e:MapEntry),es[i]?=some e->∃p,kv[i]?=some p/\e.key= .string p.1/\dh S w e.val p.2
 all:kv.length=es.size
def aq.dP(G:Gh)(n:Nat):aq->aph Nat
 | .cells _=>some (G.aR n)
 | .front _ _ _=>G.ow n
 | .vec _ _ _=>G.ow n
 | .map _=>some (G.aR n)
 | .iS _=>some (G.aR n)
 | .lp _ _ _ _ _=>some (G.aR n)
 | .it _ _=>some (G.aR n)
 | .eP _ _=>some (G.aR n)
 | .iB _ _=>G.ow n
 | .gone=>none
def bK(h:apf aq)(G:Gh)(n:Nat):aph Nat:=(h[n]?).bind (aq.dP G n)
theorem dA{h:apf aq}{G:Gh}{n:Nat}{B:aq}(e:h[n]?=some B):bK h G n=B.dP G n:=by unfold bK;rw[e];rfl
theorem uT{h:apf aq}{G:Gh}{n:Nat}(e:h[n]?=none):bK h G n=none:=by unfold bK;rw[e];rfl
theorem nm{h:apf aq}{G:Gh}{n b:Nat}(e:bK h G n=some b):∃B,h[n]?=some B/\B.dP G n=some b:=by
 unfold bK at e;cases hx:h[n]? with
 |none=>rw[hx]at e;cases e
 |some B=>rw[hx]at e;exact⟨B,rfl,e⟩
def adV(v:apj):Prop:=v= .slice none 0 0\/∃g n cap,v= .slice (some ⟨g,0,none⟩) n cap/\cap≠0
def dZ(G:Gh)(w:apk)(n:Nat):aq->Prop
 | .cells cs=>¬G.Z (G.aR n)/\(∀o,¬G.S (G.aR n) o)/\∃(vs:Array apj)(T:TypeId),w.heap[G.aR n]?=some (.cells vs T (0,0))/\vs.size=cs.length/\∀(i:Nat)(u:apj)(c:AV),vs[i]?=some u->cs[i]?=some c->aF G w u c
 | .front e k len=>G.fl n=len/\len<=maxLen/\((G.ow n=none/\∃A,G.sg n= .slice A len len)\/
  ∃(g cap:Nat)(cur:Array apj),G.ow n=some g/\G.sg n= .slice (some ⟨g,0,none⟩) len cap/\¬G.Z g/\w.heap[g]?=some (.cells cur e (0,0))/\len<=cap/\cap<=maxLen/\cur.size=cap*k/\∀o,len*k<=o->¬G.S g o)
 | .vec e k cs=>G.fl n=cs.length/\cs.length<=maxLen/\(∀c∈cs,c.length=k)/\((G.ow n=none/\cs=[]/\∃A,G.sg n= .slice A 0 0)\/
  ∃(g cap:Nat)(cur:Array apj),G.ow n=some g/\G.sg n= .slice (some ⟨g,0,none⟩) cs.length cap/\¬G.Z g/\w.heap[g]?=some (.cells cur e (0,0))/\cs.length<=cap/\cap<=maxLen/\cur.size=cap*k/\(∀o,¬G.S g o)/\
   ∀(i j:Nat)(c:apf AV)(x:AV)(u:apj),cs[i]?=some c->c[j]?=some x->cur[i*k+j]?=some u->aF G w u x)
 | .map kv=>¬G.Z (G.aR n)/\(∀o,¬G.S (G.aR n) o)/\∃(es:Array MapEntry)(clock:Nat),w.heap[G.aR n]?=some (.map es clock)/\tK G.S w es clock kv
 | .iS kv=>¬G.Z (G.aR n)/\(∀o,¬G.S (G.aR n) o)/\∃(es:Array MapEntry)(clock:Nat),w.heap[G.aR n]?=some (.map es clock)/\yp G.S w es clock kv
 | .lp ls p as bd cs=>¬G.Z (G.aR n)/\(∀o,¬G.S (G.aR n) o)/\∃(fn:FuncId)(tm:Array apj)(D:Nat),w.heap[G.aR n]?=some (.loop {state:=ls.st,pending:=ls.pd,fn:=fn,tmps:=tm,params:= #[p],assign:=as,body:=bd,defers:=D})/\tm.size=cs.length/\∀(i:Nat)(u:apj)(c:AV),tm[i]?=some u->cs[i]?=some c->aF G w u c
 | .it sn cs=>¬G.Z (G.aR n)/\(∀o,¬G.S (G.aR n) o)/\∃(fn:Nat)(vs:Array apj)(_:Unit),w.heap[G.aR n]?=some (.mapIter (some fn) sn.1 sn.2.toArray sn.1)/\(vs.size=cs.length/\vs= #[.map (some fn)])/\∀(i:Nat)(u:apj)(c:AV),vs[i]?=some u->cs[i]?=some c->aF G w u c
 | .eP T cs=>¬G.Z (G.aR n)/\(∀o,¬G.S (G.aR n) o)/\∃(_:Unit)(vs:Array apj)(p:apj),w.heap[G.aR n]?=some (.cells (#[p]++vs) T (0,0))/\(vs.size=cs.length/\(p= .pointer none\/p= .pointer (some ⟨G.aR n,0,none⟩))/\∀v∈vs.toList,adV v)/\∀(i:Nat)(u:apj)(c:AV),vs[i]?=some u->cs[i]?=some c->aF G w u c
 | .iB e b=>G.fl n=b.size/\b.size<=maxLen/\((G.ow n=none/\b.size=0/\∃A,G.sg n= .slice A 0 0)\/
  ∃(g cap:Nat)(cur:Array apj),G.ow n=some g/\G.sg n= .slice (some ⟨g,0,none⟩) b.size cap/\¬G.Z g/\w.heap[g]?=some (.cells cur e (0,0))/\b.size<=cap/\cap<=maxLen/\cur.size=cap/\(∀o,¬G.S g o)/\∀(i:Nat)(u:UInt8),(bL b)[i]?=some u->cur[i]?=some (.int .u8 u.toNat))
 | .gone=>True
def JO(G:Gh)(w:apk):Prop:=(∀(g:Nat)(l:apf apj),(g,l)∈By->∀(j:Nat)(v:apj),l[j]?=some v->G.S g j/\w.cell? ⟨g,j,none⟩=some v)/\G.M<=w.heap.size
structure bN(G:Gh)(w:World)(h:List aq):Prop where
 len:h.length=G.N
 z:∀b,G.Z b->b<w.heap.size
 S:∀b o,G.S b o->b<w.heap.size
 c7:∀(n:Nat)(B:aq),h[n]?=some B->dZ G w n B
 inj:∀(m n b:Nat),bK h G m=some b->bK h G n=some b->m=n
 gl:JO G w
structure bM(N:Nat)(G:Gh)(w:World)(G':Gh)(w':World):Prop where
 size:w.heap.size<=w'.heap.size
 S:∀b o,G.S b o->G'.S b o
 cell:∀b o,G.S b o->w'.cell? ⟨b,o,none⟩=w.cell? ⟨b,o,none⟩
 aR:∀n,n<N->G'.aR n=G.aR n
 fr:∀n,n<N->(G'.fl n=G.fl n/\G'.sg n=G.sg n)\/G.fl n<G'.fl n
 Z:((∀b,G.Z b->G'.Z b)/\∀b,G'.Z b->G.Z b\/w.heap.size<=b)/\G'.M=G.M
 old:∀b,G.Z b->w'.heap[b]?=w.heap[b]?
 os:w'.os=w.os
 tape:w'.tape=w.tape
 output:w'.output=w.output
 new:∀b o,G'.S b o->G.S b o\/¬G.Z b
theorem zsame{Z Z':Nat->Prop}{m M M':Nat}(h:Z'=Z)(hM:M'=M:=by rfl):((∀b,Z b->Z' b)/\∀b,Z' b->Z b\/m<=b)/\M'=M:=⟨⟨λ_ k=>h▸k,λ_ k=> .inl (h▸k)⟩,hM⟩
theorem bM.refl(N:Nat)(G:Gh)(w:apk):bM N G w G w:=
 ⟨aoC _,λ_ _ h=>h,λ_ _ _=>rfl,λ_ _=>rfl,λ_ _=> .inl ⟨rfl,rfl⟩,zsame rfl,λ_ _=>rfl,rfl,rfl,rfl,λ_ _ h=> .inl h⟩
theorem bM.trans{N:Nat}{G G1 G2:Gh}{w w1 w2:apk}(h:bM N G w G1 w1)(k:bM N G1 w1 G2 w2):bM N G w G2 w2:=
 ⟨aoJ h.size k.size,λb o hs=>k.S b o (h.S b o hs),λb o hs=>(k.cell b o (h.S b o hs)).trans (h.cell b o hs),λn hn=>(k.aR n hn).trans (h.aR n hn),
  λn hn=>by
   rcases h.fr n hn with⟨J,h2⟩|J<;>rcases k.fr n hn with⟨k1,k2⟩|k1
   ·exact .inl ⟨k1.trans J,k2.trans h2⟩
   ·exact .inr (J▸k1)
   ·exact .inr (k1▸J)
   ·exact .inr (Nat.lt_trans J k1),
  ⟨⟨λb hb=>k.Z.1.1 b (h.Z.1.1 b hb),λb hb=>(k.Z.1.2 b hb).elim (h.Z.1.2 b) λhs=> .inr (aoJ h.size hs)⟩,k.Z.2.trans h.Z.2⟩,λb hb=>(k.old b (h.Z.1.1 b hb)).trans (h.old b hb),k.os.trans h.os,k.tape.trans h.tape,k.output.trans h.output,λb o hs=>(k.new b o hs).elim (h.new b o) (λhn=> .inr λhz=>hn (h.Z.1.1 b hz))⟩
theorem bM.less{N M:Nat}{G G':Gh}{w w':apk}(h:bM N G w G' w')(hM:M<=N):bM M G w G' w':=
 ⟨h.size,h.S,h.cell,λn hn=>h.aR n (aoP hn hM),λn hn=>h.fr n (aoP hn hM),h.Z,h.old,h.os,h.tape,h.output,h.new⟩
theorem bM.lq{N:Nat}{G G':Gh}{w w':apk}(h:bM N G w G' w'){b:Nat}(hb:b<w.heap.size)(hz:¬G.Z b):¬G'.Z b:=λk=>(h.Z.1.2 b k).elim hz λhs=>ao5 _ (aoP hb hs)
def rG(G:Gh)(w:apk)(ds:apf Deferred):Prop:=∃l:apf Nat,l.Nodup/\ds=l.map (λD=>{target:= .collected D,args:= #[]})/\∀D∈l,G.M<=D/\G.Z D/\w.heap[D]?=some (.deferred (some []))
theorem rG.nil(G:Gh)(w:apk):rG G w []:=⟨[],List.nodup_nil,rfl,λ_ h=>absurd h ao7⟩
theorem rG.keep{N:Nat}{G G':Gh}{w w':apk}{ds:apf Deferred}(h:rG G w ds)(hE:bM N G w G' w'):rG G' w' ds:=
 let ⟨l,J,h2,h3⟩:=h
 ⟨l,J,h2,λD hD=>⟨hE.Z.2▸(h3 D hD).1,hE.Z.1.1 D (h3 D hD).2.1,(hE.old D (h3 D hD).2.1).trans (h3 D hD).2.2⟩⟩
theorem JO.keep{N:Nat}{G G':Gh}{w w':apk}(h:JO G w)(hE:bM N G w G' w'):JO G' w':=⟨λg l hm j v hv=>
 ⟨hE.S _ _ (h.1 g l hm j v hv).1,(hE.cell _ _ (h.1 g l hm j v hv).1).trans (h.1 g l hm j v hv).2⟩,by rw[hE.Z.2];exact aoJ h.2 hE.size⟩
theorem dh.keep{S S':Nat->Nat->Prop}{w w':apk}(hS:∀b o,S b o->S' b o)(hc:∀b o,S b o->w'.cell? ⟨b,o,none⟩=w.cell? ⟨b,o,none⟩){u:apj}{x:D}(h:dh S w u x):dh S' w' u x:=by
 induction h with
 |v u=>exact .v u
 |sl A b o c k xs u hA fR hm hk qL _ ih=>
  exact .sl A b o c k xs u hA fR hm hk (λi j hi hj=>⟨hS _ _ (qL i j hi hj).1,(hc _ _ (qL i j hi hj).1).trans (qL i j hi hj).2.1,(qL i j hi hj).2.2⟩) ih
 |ag vs ds hl _ ih=>exact .ag vs ds hl ih
theorem nZ.keep{S S':Nat->Nat->Prop}{w w':apk}(hS:∀b o,S b o->S' b o)(hc:∀b o,S b o->w'.cell? ⟨b,o,none⟩=w.cell? ⟨b,o,none⟩){u:apj}{x:fk}(h:nZ S w u x):nZ S' w' u x:=by
 induction h with
 |d h=>exact .d (h.keep hS hc)
 |bj c off b o u J h2=>exact .bj c off b o u (λj hj=>⟨hS _ _ (J j hj).1,(hc _ _ (J j hj).1).trans (J j hj).2⟩) (λj d hd=>(h2 j d hd).keep hS hc)
 |fn f vs cs hl _ ih=>exact .fn f vs cs hl ih
 |nS f vs cs hl _ ih=>exact .nS f vs cs hl ih
theorem aF.keep{G G':Gh}{w w':apk}(hE:bM G.N G w G' w')(hN:G.N<=G'.N){u:apj}{x:AV}(h:aF G w u x):aF G' w' u x:=by
 induction h with
 |d h=>exact .d (h.keep hE.S hE.cell)
 |agg vs cs hl _ ih=>exact .agg vs cs hl ih
 |bg vs cs hl _ ih=>exact .bg vs cs hl ih
 |ptr n off h=>rw[<-hE.aR n h];exact .ptr n off (aoP h hN)
 |bj xs i off b o u x hx hS hu=>exact .bj xs i off b o u x hx (λj hj=>⟨hE.S _ _ (hS j hj).1,(hE.cell _ _ (hS j hj).1).trans (hS j hj).2⟩) (λj d hd=>(hu j d hd).keep hE.S hE.cell)
 |own n xs h hp hle hf=>
  refine .own n xs (aoP h hN) (hp.keep hE.S hE.cell) ?_ ?_
  ·rcases hE.fr n h with⟨J,_⟩|J
   ·omega
   ·omega
  ·intro e;rcases hE.fr n h with⟨J,h2⟩|J
   ·rw[h2];exact hf (e.trans J)
   ·omega
 |full xs hp hf=>exact .full xs (hp.keep hE.S hE.cell) hf
 |row n off len cap k h hl hm=>rw[<-hE.aR n h];exact .row n off len cap k (aoP h hN) hl hm
 |fn f vs cs hl _ ih=>exact .fn f vs cs hl ih
 |mp n h=>rw[<-hE.aR n h];exact .mp n (aoP h hN)
 |cn n h=>rw[<-hE.aR n h];exact .cn n (aoP h hN)
 |vec n o len L k h hs hL hf=>
  refine .vec n o len L k (aoP h hN) hs ?_ ?_
  ·rcases hE.fr n h with⟨J,_⟩|J<;>omega
  ·intro e;rcases hE.fr n h with⟨J,h2⟩|J
   ·rw[h2];exact hf (e.trans J)
   ·omega
 |dn n i j L k h hs hL hf=>
  refine .dn n i j L k (aoP h hN) hs ?_ ?_
  ·rcases hE.fr n h with⟨J,_⟩|J<;>omega
  ·intro e;rcases hE.fr n h with⟨J,h2⟩|J
   ·rw[h2];exact hf (e.trans J)
   ·omega
 |hid h J=>exact .hid (h.keep hE.S hE.cell) J
 |dead u=>exact .dead u
structure St where
 n:Nat
 t:List (Nat×AV)
 h:List aq
def bn:apf (Nat×AV)->Nat->AV
 |[],_=> .dead
 |(k,x)::l,i=>bif i==k then x else bn l i
theorem k8(k:Nat)(x:AV)(l:apf (Nat×AV))(i:Nat):bn ((k,x)::l) i=if i=k then x else bn l i:=by
 simp only[bn,cond_eq_ite,beq_iff_eq]
def fK(b:Bool)(p:Prop):Prop:=cond b p False
theorem bO{b:Bool}{p:Prop}:fK b p↔b=true/\p:=by cases b<;>simp [fK]
def cm(a b:Nat):Bool:=a-b==0
theorem da{a b:Nat}:cm a b=true↔a<=b:=by simp [cm];omega
def U9:IntKind->Nat
 | .i8=>0| .i16=>1| .i32=>2| .i64=>3| .u8=>4| .u16=>5| .u32=>6| .u64=>7
def xc(a b:IntKind):Bool:=U9 a==U9 b
theorem Qo{a b:IntKind}:xc a b=true↔a=b:=by cases a<;>cases b<;>decide
def St.put(s:St)(dst:aph Nat)(x:AV):St:=
 match dst with
 |none=>s
 |some d=>bif s.n-d==0 then s else{s with t:=(d,x)::s.t}
theorem ri{s:St}{d:Nat}(h:d<s.n)(x:AV):s.put (some d) x={s with t:=(d,x)::s.t}:=by
 have:(s.n-d==0)=false:=by simp;omega
 simp only[St.put,this,cond_false]
theorem CH{s:St}{d:Nat}(h:¬d<s.n)(x:AV):s.put (some d) x=s:=by
 have:(s.n-d==0)=true:=by simp;omega
 simp only[St.put,this,cond_true]
def St.wh(s:St)(h:apf aq):St:={s with h:=h}
def Qp:apj->AV
 | .agg vs=> .agg (vs.toList.map λu=> .d (.v u))
 | .tuple vs=> .bg (vs.toList.map λu=> .d (.v u))
 |u=> .d (.v u)
def ev(s:St):Operand->AV
 | .tmp t=>bn s.t t
 | .const v=>Qp v
 | .func f=> .fn f []
 | .global g=>match BR By g with
   |some l=> .bj [l.map .v] 0 0
   |none=> .dead
def AV.kh:AV->Bool
 | .d (.v u)=>u.oneCell'
 | .d (.sl _)| .ptr .. | .bj .. | .own .. | .full _| .row .. | .fn .. | .mp _| .cn _| .hid _| .vec .. | .dn .. =>true
 | .agg _| .bg _| .dead| .d (.ag _)=>false
def AV.cells:AV->apf AV
 | .agg cs=>cs
 |x=>[x]
def AV.jS:AV->Bool
 | .agg cs=>cs.all AV.kh
 |x=>x.kh
def D.ua:D->D
 | .v (.slice none 0 0)=> .sl []
 |x=>x
def AV.wU:AV->aph D
 | .d x=>some x.ua
 | .own _ xs=>some (.sl xs)
 | .full xs=>some (.sl xs)
 |_=>none
def AV.fI:AV->aph (apf (apf D))
 | .d (.sl xs)=>some xs
 | .own _ xs=>some xs
 | .full xs=>some xs
 | .d (.v (.slice none 0 0))=>some []
 |_=>none
def AV.int?:AV->aph Int
 | .d (.v (.int _ n))=>some n
 |_=>none
def fk.av:fk->AV
 | .d x=> .d x
 | .bj c off=> .bj [c] 0 off
 | .fn f cs=> .hid (.fn f cs)
 | .nS f cs=> .hid (.nS f cs)
def fk.app(as:apf AV):fk->aph (FuncId×apf AV)
 | .fn g cs=>some (g,as++cs.map fk.av)
 | .nS g cs=>some (g,cs.map fk.av++as)
 |_=>none
mutual
def AV.cap:AV->aph fk
 | .d x=>some (.d x)
 | .own _ xs=>some (.d (.sl xs))
 | .full xs=>some (.d (.sl xs))
 | .bj xs i off=>match xs[i]? with
   |some c=>some (.bj c off)
   |none=>none
 | .fn f cs=>match AV.wI cs with
   |some l=>some (.fn f l)
   |none=>none
 | .hid c=>some c
 |_=>none
def AV.wI:apf AV->aph (apf fk)
 |[]=>some []
 |x::l=>match x.cap,AV.wI l with
  |some c,some l=>some (c::l)
  |_,_=>none
end
def Q9(f:FuncId)(first cZ:apf AV):aph AV:=
 match first with
 |[]=>some (.fn f cZ)
 |l=>match AV.wI l,cZ with
  |some cs,[]=>some (.hid (.nS f cs))
  |_,_=>none
def gh(P:api)(t:TypeId):aph Nat:=(P.info? t).map (·.size)
def mJ(P:api)(t:TypeId):aph Bool:=(P.underlying t).map fun| .struct _=>true| .array .. =>true|_=>false
def rM(P:api)(t:TypeId)(i:Nat):aph (Nat×Nat×Bool):=
 match P.underlying t with
 |some (.struct fs)=>match fs[i]? with
  |some f=>match gh P f.type,mJ P f.type with
   |some (k+1),some g=>some (f.offset,k+1,g)
   |_,_=>none
  |none=>none
 |_=>none
def eY(P:api)(t:TypeId):aph (TypeId×Nat):=
 match P.underlying t with
 |some (.slice e)=>(gh P e).map λk=>(e,k)
 |_=>none
def uj(P:api)(t:TypeId):aph (Nat×TypeId×Nat):=
 match P.underlying t with
 |some (.array n e)=>(gh P e).map λk=>(n,e,k)
 |_=>none
def iu(P:api)(t:TypeId):Bool:=match P.underlying t with|some .string=>true|_=>false
def zP(P:api)(t:TypeId):Bool:=match P.underlying t with|some .bool=>true|_=>false
def qS(P:api)(t:TypeId):aph IntKind:=match P.underlying t with|some (.int k)=>some k|_=>none
def Dz(P:api)(t:TypeId):Bool:=match P.underlying t with|some (.int .u8)=>true|_=>false
def iR(P:api)(t:TypeId):aph apj:=(P.info? t).bind (·.zero)
def qQ(P:api)(t:TypeId):aph Nat:=(P.info? t).map (·.bytes)
def NX(op:BinOp)(k:IntKind)(a b:Int):aph apj:=
 match op with
 | .add=>some (.int k (k.wrap (a+b)))
 | .sub=>some (.int k (k.wrap (a-b)))
 | .mul=>some (.int k (k.wrap (a*b)))
 | .eql=>some (.bool (a==b))
 | .neq=>some (.bool (a !=b))
 | .lss=>some (.bool (a<b))
 | .leq=>some (.bool (a<=b))
 | .gtr=>some (.bool (a>b))
 | .geq=>some (.bool (a>=b))
 | .and=>some (.int k (k.wrap (BitVec.ofInt k.bits a&&&BitVec.ofInt k.bits b).toNat))
 | .or=>some (.int k (k.wrap (BitVec.ofInt k.bits a|||BitVec.ofInt k.bits b).toNat))
 | .xor=>some (.int k (k.wrap (BitVec.ofInt k.bits a^^^BitVec.ofInt k.bits b).toNat))
 | .andNot=>some (.int k (k.wrap (BitVec.ofInt k.bits a&&& ~~~BitVec.ofInt k.bits b).toNat))
 |_=>none
def Qb(op:BinOp)(a b:apg):aph apj:=
 match op with
 | .eql=>some (.bool (bL a==bL b))
 | .neq=>some (.bool (!(bL a==bL b)))
 | .lss=>some (.bool (Op.bytesLess (bL a) (bL b)))
 | .leq=>some (.bool (Op.bytesLess (bL a) (bL b)||bL a==bL b))
 | .gtr=>some (.bool (!(Op.bytesLess (bL a) (bL b)||bL a==bL b)))
 | .geq=>some (.bool (!Op.bytesLess (bL a) (bL b)))
 |_=>none
def P5(op:BinOp)(a b:Bool):aph apj:=
 match op with
 | .eql=>some (.bool (a==b))
 | .neq=>some (.bool (!(a==b)))
 |_=>none
def P6(op:BinOp)(k:IntKind)(a b:Int):aph apj:=
 match op with
 | .quo=>some (.int k (k.wrap (a.tdiv b)))
 | .rem=>some (.int k (a.tmod b))
 |_=>none
def Pe(op:BinOp)(k:IntKind)(a b:Int):aph apj:=
 match op with
 | .shl=>some (.int k (k.wrap (a*2^(min b.toNat k.bits))))
 | .shr=>some (.int k (a.fdiv (2^(min b.toNat k.bits))))
 |_=>none
def Il(op:UnOp)(x:apj):aph apj:=
 match op,x with
 | .not, .bool b=>some (.bool (!b))
 | .neg, .int k n=>some (.int k (k.wrap (0-n)))
 | .xor, .int k n=>some (.int k (k.wrap (BitVec.ofInt k.bits (if k.signed then-1 else k.max)^^^BitVec.ofInt k.bits n).toNat))
 |_,_=>none
def iW(cs:apf AV)(off:Nat)(ys:apf AV):apf AV:=cs.take off++ys++cs.drop (off+ys.length)
def n8(k:Nat):Nat->apf D->apf (apf D)
 |0,_=>[]
 |n+1,l=>l.take k::n8 k n (l.drop k)
def pH(places:apf (Nat×Nat)):apf AV->apf (Nat×AV)->aph (apf AV)
 |cs,[]=>some cs
 |cs,(i,x)::r=>
  match places[i]? with
  |some (off,k)=>bif x.cells.length==k&&cm (off+k) cs.length then pH places (iW cs off x.cells) r else none
  |none=>none
def mW:apf AV->aph (apf D)
 |[]=>some []
 |x::r=>match x.wU,mW r with
  |some d,some l=>some (d::l)
  |_,_=>none
def Ff(P:api)(fs:apf Field):aph (apf (Nat×Nat)):=fs.mapM λf=>(gh P f.type).map λk=>(f.offset,k)
def Ku(P:api)(f:FuncId):Bool:=
 match P.funcs[f]? with
 |some fn=>fn.body.isSome&& !(fn.name== "runtime.NumGoroutine")
 |none=>false
def cO(P:api)(f:FuncId)(args:apf AV)(h:apf aq)(K:AV->apf aq->Prop):Prop:=
 Ku P f=true/\∀(G:Gh)(w:apk)(vs:Array apj),bN G w h->vs.size=args.length->(∀(i:Nat)(u:apj)(c:AV),vs[i]?=some u->args[i]?=some c->aF G w u c)->
  Calls P f vs w λe w'=>∃v G' r h',e= .returned v/\bM G.N G w G' w'/\G.N<=G'.N/\bN G' w' h'/\aF G' w' v r/\K r h'
theorem cO.mono{P:api}{f:FuncId}{args:apf AV}{h:apf aq}{K K':AV->apf aq->Prop}(hc:cO P f args h K)(hk:∀r h',K r h'->K' r h'):cO P f args h K':=
 ⟨hc.1,λG w vs hi hl hr=>(hc.2 G w vs hi hl hr).mono λ_ _ ⟨v,G',r,h',e,x1,x2,x3,x4,x5⟩=>⟨v,G',r,h',e,x1,x2,x3,x4,hk _ _ x5⟩⟩
def sE(h:apf aq)(p:AV)(K:apf AV->Nat->Prop):Prop:=
 match p with
 | .ptr n off=>match h[n]? with
   |some (.cells cs)=>K cs off
   |_=>False
 | .bj xs i off=>match xs[i]? with
   |some cs=>K (cs.map .d) off
   |none=>False
 |_=>False
def oM(P:api)(t:TypeId)(h:apf aq)(p:AV)(K:AV->Prop):Prop:=
 sE h p λcs off=>match mJ P t,gh P t with
  |some true,some k=>fK (cm (off+k) cs.length) (K (.agg ((cs.drop off).take k)))
  |some false,some _=>match cs[off]? with
   |some c=>K c
   |none=>False
  |_,_=>False
def xQ(P:api)(t:TypeId)(h:apf aq)(p x:AV)(K:apf aq->Prop):Prop:=
 match p with
 | .ptr n off=>match h[n]? with
   |some (.cells cs)=>match gh P t with
    |some k=>fK (k==x.cells.length&&x.jS&&cm (off+x.cells.length) cs.length) (K (h.set n (.cells (iW cs off x.cells))))
    |none=>False
   |_=>False
 |_=>False
def rX(P:api)(T:TypeId)(x i:AV)(K:AV->Prop):Prop:=
 match eY P T with
 |some (_,k)=>
  match x with
  | .row n off len _ k'=>match i.int? with
    |some z=>fK (k'==k) (0<=z/\z<len/\K (.ptr n (off+z.toNat*k)))
    |none=>False
  |_=>match x.fI,i.int? with
   |some xs,some z=>0<=z/\(match xs[z.toNat]? with|some c=>c.length=k/\K (.bj [c] 0 0)|none=>False)
   |_,_=>False
 |none=>match uj P T,x,i.int? with
  |some (n,_,k), .ptr b off,some z=>0<=z/\z<n/\K (.ptr b (off+z.toNat*k))
  |some (n,_,k), .bj xs i off,some z=>fK (k==1) (0<=z/\z<n/\(match xs[i]? with|some c=>(match c[off+z.toNat]? with|some d=>K (.bj [[d]] 0 0)|none=>False)|none=>False))
  |_,_,_=>False
def rS(P:api)(T:TypeId)(x:AV)(K:Nat->Prop):Prop:=
 match x with
 | .d (.v (.string s))=>fK (iu P T) (K s.size)
 | .row _ _ len _ _=>fK (eY P T).isSome (K len)
 |x=>match x.fI with
  |some xs=>fK (eY P T).isSome (K xs.length)
  |none=>False
def jW(ρ:Operand->AV)(x:aph Operand)(an1:Nat)(K:Nat->Prop):Prop:=
 match x with
 |none=>K an1
 |some y=>match (ρ y).int? with
  |some z=>0<=z/\K z.toNat
  |none=>False
def vn(P:api)(T:TypeId)(ρ:Operand->AV)(x:AV)(lo hi mx:aph Operand)(K:AV->Prop):Prop:=
 match mx with
 |none=>
  match x with
  | .d (.v (.string b))=>fK (iu P T) (jW ρ hi b.size λh=>h<=b.size/\jW ρ lo 0 λl=>l<=h/\K (.d (.v (.string (b.extract l h)))))
  | .ptr n off=>match uj P T with
    |some (m,_,k)=>fK (cm m 4096) (jW ρ hi m λh=>fK (cm h m) (jW ρ lo 0 λl=>fK (cm l h&& !cm m l) (K (.row n (off+l*k) (h-l) (m-l) k))))
    |none=>False
  |x=>match x.fI,eY P T with
   |some xs,some (_,k)=>(∀c∈xs,c.length=k)/\jW ρ hi xs.length λh=>h<=xs.length/\jW ρ lo 0 λl=>l<=h/\K (.d (.sl ((xs.take h).drop l)))
   |_,_=>False
 |some m=>match lo,hi with
  |none,some y=>match x.fI,eY P T with
   |some xs,some (_,k)=>(∀c∈xs,c.length=k)/\jW ρ (some m) 0 λc=>c<=xs.length/\jW ρ (some y) 0 λh=>h=c/\K (.full (xs.take h))
   |_,_=>False
  |_,_=>False
def uP(h:apf aq)(k:Nat)(x:AV)(K:apf (apf D)->Prop):Prop:=
 match x with
 | .row n off len _ k'=>match h[n]? with
   |some (.cells cs)=>match mW ((cs.drop off).take (len*k))with
    |some ds=>fK (k'==k&&cm (off+len*k) cs.length&&((cs.drop off).take (len*k)).all AV.kh) (K (n8 k len ds))
    |none=>False
   |_=>False
 |x=>match x.fI with
  |some ys=>(∀c∈ys,c.length=k)/\K ys
  |none=>False
def vx(P:api)(T:TypeId)(h:apf aq)(x y:AV)(K:AV->apf aq->Prop):Prop:=
 match eY P T with
 |some (e,k)=>match iR P e,qQ P e with
  |some z,some cW=>fK (cm 1 k&&z.cells.toList.length==k)<|uP h k y λys=>
   match x with
   | .own n xs=>match h[n]? with
     |some (.front e' k' len)=>fK (e'==e&&k'==k)<|len=xs.length/\(∀c∈xs,c.length=k)/\xs.length+ys.length<=maxLen/\(xs.length+ys.length)*cW<=140737488355328/\K (.own n (xs++ys)) (h.set n (.front e k (xs.length+ys.length)))
     |_=>False
   | .d (.v (.slice none 0 0))=>ys.length<=maxLen/\ys.length*cW<=140737488355328/\K (.own h.length ys) (h++[.front e k ys.length])
   | .full xs=>(∀c∈xs,c.length=k)/\xs.length+ys.length<=maxLen/\(xs.length+ys.length)*cW<=140737488355328/\K (.own h.length (xs++ys)) (h++[.front e k (xs.length+ys.length)])
   |_=>False
  |_,_=>False
 |none=>False
def RE(P:api)(T:TypeId):aph (apf (Nat×Nat)):=
 match P.underlying T with
 |some (.struct fs)=>Ff P fs.toList
 |_=>none
def yd(P:api)(T:TypeId)(ps:apf (Nat×AV))(K:AV->Prop):Prop:=
 match RE P T,iR P T with
 |some places,some z=>match pH places (z.cells.toList.map λu=> .d (.v u)) ps with
  |some cs=>fK ((ps.all λp=>p.2.jS)&&z.cells.toList.all Value.oneCell') (K (.agg cs))
  |none=>False
 |_,_=>False
def vp(k:Nat):Nat->Nat->apf (Nat×Nat)
 |_,0=>[]
 |o,n+1=>(o,k)::vp k (o+k) n
def rU:Nat->apf AV->apf AV
 |0,_=>[]
 |n+1,l=>l++rU n l
def wa(P:api)(T:TypeId)(len:Nat)(ps:apf (Nat×AV))(K:AV->Prop):Prop:=
 match eY P T with
 |some (e,k)=>match iR P e with
  |some z=>match pH (vp k 0 len) (rU len (z.cells.toList.map λu=> .d (.v u))) ps with
   |some cs=>match mW cs with
    |some ds=>fK (cm 1 k&&cm (len*k) 16777216&&z.cells.toList.length==k&&z.cells.toList.all Value.oneCell'&&(ps.all λp=>p.2.jS)) (K (.full (n8 k len ds)))
    |none=>False
   |none=>False
  |none=>False
 |none=>False
def Cd(P:api)(t:TypeId)(x y:AV):aph Bool:=
 match x,y with
 | .d (.v (.int k a)), .d (.v (.int k' b))=>bif xc k k'&&(qS P t).isSome then some (a==b)else none
 | .d (.v (.string a)), .d (.v (.string b))=>bif iu P t then some (bL a==bL b)else none
 | .d (.v (.bool a)), .d (.v (.bool b))=>bif zP P t then some (a==b)else none
 |_,_=>none
def AR(P:api)(sub:TypeId->apf AV->apf AV->aph Bool):apf Field->apf AV->apf AV->aph Bool
 |[],_,_=>some true
 |f::fs,xs,ys=>bif f.name== "_" then none else
  match mJ P f.type with
  |some false=>match xs[f.offset]?,ys[f.offset]? with
   |some x,some y=>match Cd P f.type x y,AR P sub fs xs ys with
    |some a,some b=>some (a&&b)
    |_,_=>none
   |_,_=>none
  |some true=>match gh P f.type with
   |some k=>bif cm (f.offset+k) xs.length&&cm (f.offset+k) ys.length then match sub f.type ((xs.drop f.offset).take k) ((ys.drop f.offset).take k),AR P sub fs xs ys with
    |some a,some b=>some (a&&b)
    |_,_=>none
    else none
   |none=>none
  |none=>none
def Hi(P:api):Nat->TypeId->apf AV->apf AV->aph Bool
 |0=>λ_ _ _=>none
 |d+1=>λT xs ys=>match P.underlying T with
  |some (.struct fs)=>bif P.stoodInHeld T then none else AR P (Hi P d) fs.toList xs ys
  |_=>none
def GD(P:api)(T:TypeId)(xs ys:apf AV):aph Bool:=
 match P.underlying T with
 |some (.struct fs)=>bif P.stoodInHeld T||P.eqGuardType P.depth T then none else AR P (Hi P 4) fs.toList xs ys
 |_=>none
def wC(op:BinOp)(b:Bool):aph apj:=
 match op with
 | .eql=>some (.bool b)
 | .neq=>some (.bool (!b))
 |_=>none
def w6(P:api)(T:TypeId)(op:BinOp)(x y:AV)(K:AV->Prop):Prop:=
 match x,y with
 | .d (.v (.int k a)), .d (.v (.int k' b))=>
   match P6 op k a b with
   |some v=>fK (xc k k') (b≠0/\K (.d (.v v)))
   |none=>match Pe op k a b with
    |some v=>0<=b/\K (.d (.v v))
    |none=>match NX op k a b with
     |some v=>fK (xc k k') (K (.d (.v v)))
     |none=>False
 | .d (.v (.string a)), .d (.v (.string b))=>match Qb op a b with
   |some v=>K (.d (.v v))
   |none=>match op with
    | .add=>a.size+b.size<=maxLen/\K (.d (.v (.string (a++b))))
    |_=>False
 | .d (.v (.bool a)), .d (.v (.bool b))=>match P5 op a b with
   |some v=>fK (zP P T) (K (.d (.v v)))
   |none=>False
 | .agg xs, .agg ys=>match GD P T xs ys with
   |some b=>match wC op b with
    |some v=>K (.d (.v v))
    |none=>False
   |none=>False
 |_,_=>False
def wX(op:UnOp)(x:AV)(K:AV->Prop):Prop:=
 match x with
 | .d (.v u)=>match Il op u with
   |some v=>K (.d (.v v))
   |none=>False
 |_=>False
def wW(P:api)(src dst:TypeId)(x:AV)(K:AV->Prop):Prop:=
 match x with
 | .d (.v (.int _ n))=>match qS P src,qS P dst with
   |some _,some k=>K (.d (.v (.int k (k.wrap n))))
   |_,_=>False
 | .d (.v (.string b))=>fK (iu P src&&iu P dst) (K (.d (.v (.string b))))
 |x=>match x.fI,eY P src with
  |some xs,some (e,_)=>fK (Dz P e&&iu P dst) (∃ns:apf Int,xs=ns.map (λn=>[.v (.int .u8 n)])/\K (.d (.v (.string ⟨(ns.map λn=>UInt8.ofNat n.toNat).toArray⟩))))
  |_,_=>False
def xv(P:api)(T:TypeId)(x:AV)(f:Nat)(K:AV->Prop):Prop:=
 match rM P T f,x with
 |some (off,k,true), .agg cs=>fK (cm (off+k) cs.length) (K (.agg ((cs.drop off).take k)))
 |some (off,_,false), .agg cs=>match cs[off]? with
  |some c=>K c
  |none=>False
 |_,_=>False
def vo(P:api)(T:TypeId):aph (TypeId×TypeId):=
 match P.underlying T with
 |some (.map k e)=>some (k,e)
 |_=>none
inductive Sd
 |no
 |lt (n:Nat)
def Sd.ok:Sd->Prop
 | .no=>True
 | .lt n=>n<maxLen
def I1:D->AV
 | .ag ds=> .agg (ds.map .d)
 |d=> .d d
def AF:apj->AV
 | .agg vs=> .agg (vs.toList.map λv=> .d (D.ua (.v v)))
 |v=> .d (.v v)
def qR(Ym:Bool)(z:apj):aph D->AV
 |some d=>bif Ym then .bg [I1 d, .d (.v (.bool true))]else I1 d
 |none=>bif Ym then .bg [AF z, .d (.v (.bool false))]else AF z
def AV.SG:AV->aph D
 | .agg cs=>(mW cs).map .ag
 |x=>x.wU
def pV(P:api)(op:Op)(ρ:Operand->AV)(h:apf aq):aph (AV×apf aq×Sd):=
 match op with
 | .makeMap T none=>match vo P T with
   |some _=>some (.mp h.length,h++[.map []], .no)
   |none=>none
 | .lookup T m i ok=>match vo P T with
   |some (k,e)=>match iR P e with
    |some z=>match ρ m,ρ i with
     | .mp n, .d (.v (.string s))=>match h[n]? with
       |some (.map kv)=>bif iu P k then some (qR ok z (kV kv s),h, .no)else none
       |_=>none
     |_,_=>none
    |none=>none
   |none=>none
 | .mapUpdate T m i x=>match vo P T with
   |some (k,_)=>match ρ m,ρ i,(ρ x).SG with
    | .mp n, .d (.v (.string s)),some d=>match h[n]? with
      |some (.map kv)=>bif iu P k then some (.d (.v undef),h.set n (.map ((s,d)::kv)), .lt kv.length)else none
      |_=>none
    |_,_,_=>none
   |none=>none
 |_=>none
inductive VA
 |no
 |el (c:List AV)
 |st (c:List AV) (cs:List (List AV))
 |mk (cs:List (List AV)) (len m:Nat)
 |ap (cs ys:List (List AV)) (L len:Nat)
 |ix (i:Nat)
 |ol (o len:Nat)
def Q4(P:api)(t:TypeId)(c:apf AV)(j:Nat):aph AV:=
 match mJ P t,gh P t with
 |some true,some k=>bif cm (j+k) c.length then some (.agg ((c.drop j).take k))else none
 |some false,some _=>c[j]?
 |_,_=>none
def cd(xs:apf (apf D)):apf (apf AV):=xs.map λc=>c.map AV.d
def AZ(h:apf aq)(k:Nat)(y:AV)(ys:apf (apf AV)):Prop:=
 (∃xs,y.fI=some xs/\(∀c∈xs,c.length=k)/\ys=cd xs)\/(∃n o len L e cs,y= .vec n o len L k/\h[n]?=some (.vec e k cs)/\cs.length=L/\ys=(cs.drop o).take len/\∀c∈ys,c.all AV.kh=true)
def uS(ρ:Operand->AV)(d:Int):aph Operand->aph Int
 |none=>some d
 |some y=>(ρ y).int?
def iD(P:api)(op:Op)(ρ:Operand->AV)(h:apf aq)(a:VA):aph (AV×apf aq×Prop):=
 match op with
 | .indexAddr T x i=>match ρ x,(ρ i).int?,eY P T,a with
   | .vec n o len L k,some z,some (_,k'), .ix i'=>match h[n]? with
     |some (.vec _ k2 cs)=>bif k'==k&&k2==k then some (.dn n i' 0 L k,h,cs.length=L/\0<=z/\z<len/\i'=o+z.toNat)else none
     |_=>none
   |_,_,_,_=>none
 | .fieldAddr S x f=>match ρ x,rM P S f with
   | .dn n i j L k,some (fo,_,_)=>some (.dn n i (j+fo) L k,h,True)
   |_,_=>none
 | .nilCheck x=>match ρ x with
   | .dn n i j L k=>some (.dn n i j L k,h,True)
   |_=>none
 | .load t p=>match ρ p,a with
   | .dn n i j L k, .el c=>match h[n]?,Q4 P t c j with
     |some (.vec _ k' cs),some x=>bif k'==k then some (x,h,cs.length=L/\cs[i]?=some c)else none
     |_,_=>none
   |_,_=>none
 | .store t p x=>match ρ p,a with
   | .dn n i j L k, .st c cB=>match h[n]?,gh P t with
     |some (.vec e k' cs),some q=>bif k'==k&&q==(ρ x).cells.length&&(ρ x).jS&&cm (j+(ρ x).cells.length) k&&cm 1 k then some (.d (.v undef),h.set n (.vec e k cB),cs.length=L/\cs[i]?=some c/\cB=cs.set i (iW c j (ρ x).cells))else none
     |_,_=>none
   |_,_=>none
 | .slice T x lo hi none=>match ρ x,eY P T,a with
   | .vec n o len L k,some (_,k'), .ol o' len'=>match uS ρ 0 lo,uS ρ len hi with
     |some l,some u=>match h[n]? with
      |some (.vec _ k2 cs)=>bif k'==k&&k2==k then some (.vec n o' len' L k,h,cs.length=L/\0<=l/\l<=u/\u<=(L:Int)-o/\o'=o+l.toNat/\len'=u.toNat-l.toNat)else none
      |_=>none
     |_,_=>none
   |_,_,_=>none
 | .makeSlice T l c=>match eY P T,(ρ l).int?,(ρ c).int?,a with
   |some (e,k),some l,some c, .mk cs len m=>match iR P e,qQ P e with
    |some z,some cW=>bif cm 1 k&&z.cells.toList.length==k&&z.cells.toList.all Value.oneCell' then some (.vec h.length 0 len m k,h++[.vec e k cs],0<=l/\l<=c/\l.toNat=len/\c.toNat=m/\cs=List.replicate m (z.cells.toList.map λu=> .d (.v u))/\m<=maxLen/\cW*m<=281474976710656)else none
    |_,_=>none
   |_,_,_,_=>none
 | .call c=>match c.callee with
   | .builtin .len=>match c.args.toList,c.argTypes.toList with
     |[x],[T]=>match ρ x with
      | .vec n _ len L k=>match h[n]? with
        |some (.vec _ k2 cs)=>bif (eY P T).isSome&&k2==k then some (.d (.v (.int .i64 len)),h,cs.length=L)else none
        |_=>none
      |_=>none
     |_,_=>none
   | .builtin .append=>match c.args.toList,c.argTypes.toList with
     |[x,y],[T,U]=>match eY P T,eY P U,a with
      |some (e,k),some _, .ap cB ys L' len'=>match iR P e,qQ P e with
       |some z,some cW=>bif cm 1 k&&z.cells.toList.length==k then
        match ρ x with
        | .vec n o len L k1=>match h[n]? with
          |some (.vec e1 k2 cs)=>bif k1==k&&k2==k&&e1==e then some (.vec n o len' L' k,h.set n (.vec e k cB),cs.length=L/\AZ h k (ρ y) ys/\len'=len+ys.length/\
           ((o+len+ys.length<=L/\L'=L/\cB=cs.take (o+len)++ys++cs.drop (o+len+ys.length))\/(o=0/\len=L/\L'=L+ys.length/\cB=cs++ys/\L'<=maxLen/\L'*cW<=140737488355328)))else none
          |_=>none
        | .d (.v (.slice none 0 0))=>some (.vec h.length 0 len' L' k,h++[.vec e k cB],AZ h k (ρ y) ys/\cB=ys/\len'=ys.length/\L'=ys.length/\L'<=maxLen/\L'*cW<=140737488355328)
        | .full xs=>some (.vec h.length 0 len' L' k,h++[.vec e k cB],xs=[]/\AZ h k (ρ y) ys/\cB=ys/\len'=ys.length/\L'=ys.length/\L'<=maxLen/\L'*cW<=140737488355328)
        |_=>none
       else none
       |_,_=>none
      |_,_,_=>none
     |_,_=>none
   |_=>none
 |_=>none
def Ii(mx:Bool)(k:IntKind):Int->apf AV->aph (IntKind×Int)
 |a,[]=>some (k,a)
 |a, .d (.v (.int _ b))::l=>Ii mx k (bif mx then(if b>a then b else a)else(if b<a then b else a)) l
 |_,_=>none
def BV(mx:Bool):apf AV->aph (IntKind×Int)
 | .d (.v (.int k a))::l=>Ii mx k a l
 |_=>none
def cG(P:api)(o:Oper)(ρ:Operand->AV)(h:apf aq)(C:AV->apf aq->Prop):Prop:=
 match o.op with
 | .move x| .assign x=>C (ρ x) h
 | .pick c a b=>match ρ c with
   | .d (.v (.bool t))=>(t=true->C (ρ a) h)/\(t=false->C (ρ b) h)
   |_=>False
 | .alloc e=>match iR P e with
   |some z=>C (.ptr h.length 0) (h++[aq.cells (z.cells.toList.map λu=> .d (.v u))])
   |none=>False
 | .box _ x=>fK (ρ x).jS<|C (.ptr h.length 0) (h++[aq.cells (ρ x).cells])
 | .load t a=>oM P t h (ρ a) λx=>C x h
 | .store t a x=>xQ P t h (ρ a) (ρ x) λh'=>C (.d (.v undef)) h'
 | .nilCheck x=>match ρ x with
   | .ptr n off=>C (.ptr n off) h
   | .bj xs i off=>C (.bj xs i off) h
   | .fn f cs=>C (.fn f cs) h
   |_=>False
 | .fieldAddr S x f=>match rM P S f with
   |some (fo,_,_)=>match ρ x with
    | .ptr n off=>C (.ptr n (off+fo)) h
    | .bj xs i off=>C (.bj xs i (off+fo)) h
    |_=>False
   |none=>False
 | .field T x f=>xv P T (ρ x) f λy=>C y h
 | .indexAddr T x i=>rX P T (ρ x) (ρ i) λy=>C y h
 | .index T x i=>match ρ x,(ρ i).int? with
   | .d (.v (.string b)),some z=>fK (iu P T) (0<=z/\(match b[z.toNat]? with|some c=>C (.d (.v (.int .u8 c.toNat))) h|none=>False))
   |_,_=>False
 | .build T ps=>yd P T (ps.toList.map λp=>(p.1,ρ p.2)) λy=>C y h
 | .buildSlice T len ps=>wa P T len (ps.toList.map λp=>(p.1,ρ p.2)) λy=>C y h
 | .slice T x lo hi mx=>vn P T ρ (ρ x) lo hi mx λy=>C y h
 | .extract x i=>match ρ x with
   | .bg cs=>match cs[i]? with
     |some c=>C c h
     |none=>False
   |_=>False
 | .makeFunc (.func f) first cZ=>match Q9 f (first.toList.map ρ) (cZ.toList.map ρ)with
   |some x=>C x h
   |none=>False
 | .binOp op T x y _=>w6 P T op (ρ x) (ρ y) λv=>C v h
 | .unOp op _ x=>wX op (ρ x) λv=>C v h
 | .convert a b x=>wW P a b (ρ x) λv=>C v h
 | .call c=>match c.callee with
   | .builtin .len=>match c.args.toList,c.argTypes.toList with
     |[x],[T]=>rS P T (ρ x) λn=>C (.d (.v (.int .i64 n))) h
     |_,_=>False
   | .builtin .append=>match c.args.toList,c.argTypes.toList with
     |[x,y],[T,U]=>fK (eY P U).isSome<|vx P T h (ρ x) (ρ y) λv h'=>C v h'
     |_,_=>False
   | .builtin .max=>match BV true (c.args.toList.map ρ)with
     |some (k,a)=>C (.d (.v (.int k a))) h
     |none=>False
   | .builtin .min=>match BV false (c.args.toList.map ρ)with
     |some (k,a)=>C (.d (.v (.int k a))) h
     |none=>False
   | .value f=>match ρ f with
     | .fn g cZ=>cO P g (c.args.toList.map ρ++cZ) h λr h'=>C r h'
     | .hid q=>∃g as,q.app (c.args.toList.map ρ)=some (g,as)/\cO P g as h λr h'=>C r h'
     |_=>False
   |_=>False
 |op=>match pV P op ρ h with
  |some (x,h',p)=>p.ok/\C x h'
  |none=>False
def EU(P:api)(o:Oper)(K:St->Prop)(s:St):Prop:=
 match o.op with
 | .binOp op T x y _=>match (ev s x).fI,ev s y,eY P T,wC op true,wC op false with
   |some xs, .d (.v (.slice none 0 0)),some _,some v1,some v2=>(xs=[]->K (s.put o.dst (.d (.v v1))))/\K (s.put o.dst (.d (.v v2)))
   |_,_,_,_,_=>False
 |_=>False
def Li(P:api)(o:Oper)(K:St->Prop)(s:St):Prop:=∃a x h' p,iD P o.op (ev s) s.h a=some (x,h',p)/\p/\K ((s.wh h').put o.dst x)
def qN(P:api)(o:Oper)(K:St->Prop)(s:St):Prop:=cG P o (ev s) s.h λx h=>K ((s.wh h).put o.dst x)
def alH(P:api)(o:Oper)(K:St->Prop)(s:St):Prop:=Li P o K s\/EU P o K s\/qN P o K s
theorem lI(b o n:Nat):(⟨b,o,none⟩:Addr).add n=⟨b,o+n,none⟩:=by unfold Addr.add;split<;>simp_all
structure cV(G:Gh)(w:World)(a:Act)(s:St):Prop where
 size:a.tmps.size=s.n
 tmp:∀i,aF G w (a.tmps.getD i undef) (bn s.t i)
 inv:bN G w s.h
 df:rG G w a.defers
theorem nZ.av{G:Gh}{w:apk}{u:apj}{c:fk}(h:nZ G.S w u c):aF G w u c.av:=by
 cases h with
 |d h=>exact .d h
 |bj c off b o u J h2=>exact .bj [c] 0 off b o u c rfl J h2
 |fn f vs cs hl h=>exact .hid (.fn f vs cs hl h) rfl
 |nS f vs cs hl h=>exact .hid (.nS f vs cs hl h) rfl
theorem aF.kh{G:Gh}{w:apk}{u:apj}{x:AV}(h:aF G w u x)(hb:x.kh=true):u.oneCell'=true:=by
 cases h with
 |d hp=>cases hp with
  |v u=>exact hb
  |sl=>rfl
  |ag=>simp [AV.kh]at hb
 |agg=>simp [AV.kh]at hb
 |bg=>simp [AV.kh]at hb
 |own n xs _ hp=>cases hp;rfl
 |vec n o len L k _ hs=>obtain⟨A,l,c,rfl⟩:=hs;rfl
 |dn n i j L k _ hs=>obtain⟨b,q,rfl⟩:=hs;rfl
 |full xs hp=>cases hp;rfl
 |hid h J=>exact J
 |dead=>simp [AV.kh]at hb
 |_=>rfl
theorem aF.cells{G:Gh}{w:apk}{u:apj}{x:AV}(h:aF G w u x)(hb:x.jS=true):
 u.cells.size=x.cells.length/\∀(i:Nat)(v:apj)(c:AV),u.cells[i]?=some v->x.cells[i]?=some c->aF G w v c/\v.oneCell'=true:=by
 have one:x.kh=true->x.cells=[x]->u.cells.size=x.cells.length/\∀(i:Nat)(v:apj)(c:AV),u.cells[i]?=some v->x.cells[i]?=some c->aF G w v c/\v.oneCell'=true:=by
  intro hc hx;have ho:=h.kh hc;have hu:u.cells= #[u]:=by cases u<;>simp_all [Value.cells,Value.oneCell']
  rw[hu,hx];refine⟨rfl,λi v c J h2=> ?_⟩
  match i with
  |0=>simp at J h2;subst J;subst h2;exact⟨h,ho⟩
  |i+1=>simp at h2
 cases x with
 |agg cs=>
  cases h with
  |agg vs cs hl hr=>
   refine⟨hl,λi v c J h2=> ?_⟩;have hv:=hr i v c J h2;refine⟨hv,hv.kh ?_⟩;simp only[AV.jS,aoR]at hb;exact hb c (aoE h2)
 |bg cs=>simp [AV.jS,AV.kh]at hb
 |dead=>simp [AV.jS,AV.kh]at hb
 |_=>exact one hb rfl
theorem bN.lt{G:Gh}{w:apk}{h:apf aq}(hi:bN G w h){n:Nat}{B:aq}(hb:h[n]?=some B):n<G.N:=by
 rw[<-hi.len];exact(aor.1 hb).1
theorem bN.h1{G:Gh}{w:apk}{h:apf aq}(hi:bN G w h){n b:Nat}(hb:bK h G n=some b):b<w.heap.size:=by
 obtain⟨B,hB,hb⟩:=nm hb;have hr:=hi.c7 n B hB;cases B with
 |gone=>cases hb
 |cells cs=>
  obtain⟨_,_,vs,T,hh,_⟩:=hr;cases hb
  exact(aoG.1 hh).1
 |lp ls p as bd cs=>
  obtain⟨_,_,fn,vs,T,hh,_⟩:=hr;cases hb
  exact(aoG.1 hh).1
 |it sn cs=>
  obtain⟨_,_,fn,vs,T,hh,_⟩:=hr;cases hb
  exact(aoG.1 hh).1
 |eP T0 cs=>
  obtain⟨_,_,fn,vs,T,hh,_⟩:=hr;cases hb
  exact(aoG.1 hh).1
 |map kv=>
  obtain⟨_,_,es,c,hh,_⟩:=hr;cases hb
  exact(aoG.1 hh).1
 |iS kv=>
  obtain⟨_,_,es,c,hh,_⟩:=hr;cases hb
  exact(aoG.1 hh).1
 |front e k len=>
  have hb:G.ow n=some b:=hb;obtain⟨_,_,J|⟨g,cap,cur,J,_,_,hh,_⟩⟩:=hr
  ·rw[J.1]at hb;cases hb
  ·rw[J]at hb;cases hb;exact(aoG.1 hh).1
 |iB e b2=>
  have hb:G.ow n=some b:=hb;obtain⟨_,_,J|⟨g,cap,cur,J,_,_,hh,_⟩⟩:=hr
  ·rw[J.1]at hb;cases hb
  ·rw[J]at hb;cases hb;exact(aoG.1 hh).1
 |vec e k cs=>
  have hb:G.ow n=some b:=hb;obtain⟨_,_,_,J|⟨g,cap,cur,J,_,_,hh,_⟩⟩:=hr
  ·rw[J.1]at hb;cases hb
  ·rw[J]at hb;cases hb;exact(aoG.1 hh).1
theorem dZ.lq{G:Gh}{w:apk}{n b:Nat}{B:aq}(hr:dZ G w n B)(hb:B.dP G n=some b):¬G.Z b:=by
 cases B with
 |gone=>cases hb
 |cells cs=>cases hb;exact hr.1
 |lp ls p as bd cs=>cases hb;exact hr.1
 |it sn cs=>cases hb;exact hr.1
 |eP T0 cs=>cases hb;exact hr.1
 |map kv=>cases hb;exact hr.1
 |iS kv=>cases hb;exact hr.1
 |front e k len=>
  have hb:G.ow n=some b:=hb;obtain⟨_,_,J|⟨g,cap,cur,J,_,hz,_⟩⟩:=hr
  ·rw[J.1]at hb;cases hb
  ·rw[J]at hb;cases hb;exact hz
 |iB e b2=>
  have hb:G.ow n=some b:=hb;obtain⟨_,_,J|⟨g,cap,cur,J,_,hz,_⟩⟩:=hr
  ·rw[J.1]at hb;cases hb
  ·rw[J]at hb;cases hb;exact hz
 |vec e k cs=>
  have hb:G.ow n=some b:=hb;obtain⟨_,_,_,J|⟨g,cap,cur,J,_,hz,_⟩⟩:=hr
  ·rw[J.1]at hb;cases hb
  ·rw[J]at hb;cases hb;exact hz
theorem tK.keep{S S':Nat->Nat->Prop}{w w':apk}{es:Array MapEntry}{c:Nat}{kv:apf (apg×D)}(h:tK S w es c kv)(hS:∀b o,S b o->S' b o)(hc:∀b o,S b o->w'.cell? ⟨b,o,none⟩=w.cell? ⟨b,o,none⟩):tK S' w' es c kv:=
 ⟨h.size,h.stamped,λe he=>let ⟨s,d,J,h2,h3⟩:=h.BQ e he;⟨s,d,J,h2,h3.keep hS hc⟩,h.all,h.len,h.born,h.Ea⟩
theorem yp.keep{S S':Nat->Nat->Prop}{w w':apk}{es:Array MapEntry}{c:Nat}{kv:apf (apg×D)}(h:yp S w es c kv)(hS:∀b o,S b o->S' b o)(hc:∀b o,S b o->w'.cell? ⟨b,o,none⟩=w.cell? ⟨b,o,none⟩):yp S' w' es c kv:=
 ⟨h.ok.keep hS hc,λi e he=>let ⟨p,J,h2,h3⟩:=h.ord i e he;⟨p,J,h2,h3.keep hS hc⟩,h.all⟩
theorem dZ.keep{G G':Gh}{w w':apk}{n:Nat}(hn:n<G.N)(hE:bM G.N G w G' w')(hN:G.N<=G'.N){B:aq}
 (hg:G'.fl n=G.fl n/\G'.sg n=G.sg n/\G'.ow n=G.ow n)
 (ho:∀b,B.dP G n=some b->w'.heap[b]?=w.heap[b]?/\∀o,¬G.S b o->¬G'.S b o)
 (h:dZ G w n B):dZ G' w' n B:=by
 obtain⟨f1,f2,f3⟩:=hg;cases B with
 |gone=>trivial
 |cells cs=>
  obtain⟨J,h2,vs,T,h3,h4,h5⟩:=h;obtain⟨c2,c1⟩:=ho _ rfl;refine⟨by rw[hE.aR n hn];exact hE.lq (aoG.1 h3).1 J,by rw[hE.aR n hn];exact λo=>c1 o (h2 o),vs,T,by rw[hE.aR n hn,c2];exact h3,h4,λi u c hu hc=>(h5 i u c hu hc).keep hE hN⟩
 |lp ls p as bd cs=>
  obtain⟨J,h2,fn,vs,T,h3,h4,h5⟩:=h;obtain⟨c2,c1⟩:=ho _ rfl;refine⟨by rw[hE.aR n hn];exact hE.lq (aoG.1 h3).1 J,by rw[hE.aR n hn];exact λo=>c1 o (h2 o),fn,vs,T,by rw[hE.aR n hn,c2];exact h3,h4,λi u c hu hc=>(h5 i u c hu hc).keep hE hN⟩
 |it sn cs=>
  obtain⟨J,h2,fn,vs,T,h3,h4,h5⟩:=h;obtain⟨c2,c1⟩:=ho _ rfl;refine⟨by rw[hE.aR n hn];exact hE.lq (aoG.1 h3).1 J,by rw[hE.aR n hn];exact λo=>c1 o (h2 o),fn,vs,T,by rw[hE.aR n hn,c2];exact h3,h4,λi u c hu hc=>(h5 i u c hu hc).keep hE hN⟩
 |eP T0 cs=>
  obtain⟨J,h2,fn,vs,T,h3,h4,h5⟩:=h;obtain⟨c2,c1⟩:=ho _ rfl;refine⟨by rw[hE.aR n hn];exact hE.lq (aoG.1 h3).1 J,by rw[hE.aR n hn];exact λo=>c1 o (h2 o),fn,vs,T,by rw[hE.aR n hn,c2];exact h3,by rw[hE.aR n hn];exact h4,λi u c hu hc=>(h5 i u c hu hc).keep hE hN⟩
 |map kv=>
  obtain⟨J,h2,es,c,h3,h4⟩:=h;obtain⟨c2,c1⟩:=ho _ rfl;exact⟨by rw[hE.aR n hn];exact hE.lq (aoG.1 h3).1 J,by rw[hE.aR n hn];exact λo=>c1 o (h2 o),es,c,by rw[hE.aR n hn,c2];exact h3,h4.keep hE.S hE.cell⟩
 |iS kv=>
  obtain⟨J,h2,es,c,h3,h4⟩:=h;obtain⟨c2,c1⟩:=ho _ rfl;exact⟨by rw[hE.aR n hn];exact hE.lq (aoG.1 h3).1 J,by rw[hE.aR n hn];exact λo=>c1 o (h2 o),es,c,by rw[hE.aR n hn,c2];exact h3,h4.keep hE.S hE.cell⟩
 |iB e b=>
  obtain⟨J,hm,h2⟩:=h;refine⟨f1.trans J,hm,?_⟩;rcases h2 with⟨h2,h0,A,h3⟩|⟨g,cap,cur,h2,h3,h4,h5,h6,h7,h8,h9,bG⟩
  ·exact .inl ⟨f3.trans h2,h0,A,f2.trans h3⟩
  ·obtain⟨f5,f6⟩:=ho g h2;exact .inr ⟨g,cap,cur,f3.trans h2,f2.trans h3,hE.lq (aoG.1 h5).1 h4,f5.trans h5,h6,h7,h8,λo=>f6 o (h9 o),bG⟩
 |front e k len=>
  obtain⟨J,hm,h2⟩:=h;refine⟨f1.trans J,hm,?_⟩;rcases h2 with⟨h2,A,h3⟩|⟨g,cap,cur,h2,h3,h4,h5,h6,h7,h8,h9⟩
  ·exact .inl ⟨f3.trans h2,A,f2.trans h3⟩
  ·obtain⟨f5,f6⟩:=ho g h2;exact .inr ⟨g,cap,cur,f3.trans h2,f2.trans h3,hE.lq (aoG.1 h5).1 h4,f5.trans h5,h6,h7,h8,λo ho=>f6 o (h9 o ho)⟩
 |vec e k cs=>
  obtain⟨J,hm,hk,h2⟩:=h;refine⟨f1.trans J,hm,hk,?_⟩;rcases h2 with⟨h2,e2,A,h3⟩|⟨g,cap,cur,h2,h3,h4,h5,h6,h7,h8,h9,bG⟩
  ·exact .inl ⟨f3.trans h2,e2,A,f2.trans h3⟩
  ·obtain⟨f5,f6⟩:=ho g h2;exact .inr ⟨g,cap,cur,f3.trans h2,f2.trans h3,hE.lq (aoG.1 h5).1 h4,f5.trans h5,h6,h7,h8,λo=>f6 o (h9 o),λi j c x u hc hx hu=>(bG i j c x u hc hx hu).keep hE hN⟩
theorem cV.put{G:Gh}{w:apk}{a:Act}{s:St}(h:cV G w a s){v:apj}{x:AV}(hv:aF G w v x)(dst:aph Nat):cV G w (a.put dst v) (s.put dst x):=by
 cases dst with
 |none=>exact h
 |some d=>
  by_cases hd:d<s.n
  ·have e1:s.put (some d) x={s with t:=(d,x)::s.t}:=ri hd x;rw[e1];refine⟨by simp [Act.put,h.size],λi=> ?_,h.inv,h.df⟩;by_cases hi:i=d
   ·subst hi;have:(a.tmps.setIfInBounds i v).getD i undef=v:=by simp [Array.getD,h.size,hd]
    simp only[Act.put,this,k8,if_true];exact hv
   ·have:(a.tmps.setIfInBounds d v).getD i undef=a.tmps.getD i undef:=by simp [Array.getElem?_setIfInBounds_ne (Ne.symm hi)]
    simp only[Act.put,this,k8,if_neg hi];exact h.tmp i
  ·have e1:s.put (some d) x=s:=CH hd x;have e2:a.put (some d) v=a:=by
    have:a.tmps.setIfInBounds d v=a.tmps:=Array.setIfInBounds_eq_of_size_le (by rw[h.size];omega);simp [Act.put,this]
   rw[e1,e2];exact h
theorem cV.move{G G':Gh}{w w':apk}{a:Act}{s:St}(h:cV G w a s)(hE:bM G.N G w G' w')(hN:G.N<=G'.N){h':apf aq}(hi:bN G' w' h'):cV G' w' a {s with h:=h'}:=
 ⟨h.size,λi=>(h.tmp i).keep hE hN,hi,h.df.keep hE⟩
theorem cV.ev{G:Gh}{w:apk}{a:Act}{s:St}(h:cV G w a s)(x:Operand):aF G w (a.eval x) (ev s x):=by
 cases x with
 |tmp t=>exact h.tmp t
 |const v=>
  show aF G w v (Qp v);unfold Qp;split
  ·rename_i vs
   exact .agg vs _ (by simp) λi u c hu hc=>by
    simp only[aoy,aoO,hu,Option.map_some,Option.some.injEq]at hc;subst hc;exact .d (.v u)
  ·rename_i vs
   exact .bg vs _ (by simp) λi u c hu hc=>by
    simp only[aoy,aoO,hu,Option.map_some,Option.some.injEq]at hc;subst hc;exact .d (.v u)
  ·exact .d (.v v)
 |global g=>
  show aF G w (.pointer (some ⟨g,0,none⟩)) (match BR By g with|some l=> .bj [l.map .v] 0 0|none=> .dead);split
  ·next l hl=>
   have hg:=h.inv.gl.1 g l (Yj hl);have:=aF.bj (G:=G) (w:=w) [l.map .v] 0 0 g 0 (λj=>l.getD j undef) (l.map .v) rfl (λj hj=> ?_) (λj d hd=> ?_)
   ·exact this
   ·rw[aow]at hj;have e:l[j]?=some l[j]:=aov hj;rw[aoL];refine⟨(hg j _ e).1,?_⟩;rw[(hg j _ e).2];simp [hj]
   ·rw[aoy]at hd;cases e:l[j]? with
    |none=>rw[e]at hd;cases hd
    |some v=>
     rw[e]at hd;cases hd
     have:l.getD j undef=v:=by simp [List.getD,e]
     rw[this];exact .v v
  ·exact .dead _
 |func f=>exact .fn f #[] [] rfl λi u c hu=>by simp at hu
def Gh.cX(G:Gh)(b:Nat):Gh:={G with N:=G.N+1,aR:=λn=>if n=G.N then b else G.aR n}
theorem sr(G:Gh)(w:apk)(hz:∀b,G.Z b->b<w.heap.size)(hS:∀b o,G.S b o->b<w.heap.size)(o:Obj):bM G.N G w (G.cX w.heap.size) (w.alloc o):=
 ⟨by simp,λ_ _ h=>h,λb _ h=>World.cell?_alloc_lt _ _ _ (hS _ _ h),λn hn=>by simp [Gh.cX,Nat.ne_of_lt hn],λ_ _=> .inl ⟨rfl,rfl⟩,zsame rfl,
  λb hb=>Below.heap_alloc w o b (hz b hb),rfl,rfl,rfl,λ_ _ h=> .inl h⟩
theorem YR{G:Gh}{w:apk}{h:apf aq}(hi:bN G w h)(vs:Array apj)(T:TypeId)(cs:apf AV)(hl:vs.size=cs.length)
 (hr:∀(i:Nat)(u:apj)(c:AV),vs[i]?=some u->cs[i]?=some c->aF G w u c):
 bN (G.cX w.heap.size) (w.alloc (.cells vs T)) (h++[.cells cs])/\aF (G.cX w.heap.size) (w.alloc (.cells vs T)) (.pointer (some ⟨w.heap.size,0,none⟩)) (.ptr h.length 0):=by
 have hE:=sr G w hi.z hi.S (.cells vs T);have hN:G.N<=(G.cX w.heap.size).N:=Nat.le_succ _;have gj:(G.cX w.heap.size).aR h.length=w.heap.size:=by simp [Gh.cX,hi.len]
 have k9:∀n(B:aq),n<G.N->B.dP (G.cX w.heap.size) n=B.dP G n:=λn B hn=>by
  cases B<;>simp [aq.dP,Gh.cX,Nat.ne_of_lt hn]
 have fm:∀n,n<G.N->bK (h++[.cells cs]) (G.cX w.heap.size) n=bK h G n:=λn hn=>by
  have aN:n<h.length:=by rw[hi.len];exact hn
  unfold bK;rw[aoB aN,aov aN];exact k9 n _ hn
 have sM:bK (h++[.cells cs]) (G.cX w.heap.size) h.length=some w.heap.size:=by
  rw[dA (B:= .cells cs) (by simp)];exact congrArg some gj
 refine⟨⟨by simp [Gh.cX,hi.len],λb hb=>aoP (hi.z b hb) hE.size,λb o hs=>aoP (hi.S b o hs) hE.size,λn B hB=> ?_,λm n b hm hn=> ?_,hi.gl.keep hE⟩,?_⟩
 ·by_cases hn:n<h.length
  ·rw[aoB hn]at hB;have eW:n<G.N:=hi.len▸hn;exact dZ.keep eW hE hN ⟨rfl,rfl,rfl⟩ (λb hb=>⟨Below.heap_alloc w _ _ (hi.h1 (n:=n) ((dA hB).trans hb)),λo h=>h⟩) (hi.c7 n B hB)
  ·have ku:n=h.length:=by
    have:=(aor.1 hB).1;simp at this;omega
   subst ku;simp at hB;subst hB;exact⟨by rw[gj];exact λhz=>ao5 _ (hi.z _ hz),λo hs=>by rw[gj]at hs;exact ao5 _ (hi.S _ _ hs),vs,T,by rw[gj];exact World.alloc_heap_new w _,hl,λi u c hu hc=>(hr i u c hu hc).keep hE hN⟩
 ·have key:∀n b,bK (h++[.cells cs]) (G.cX w.heap.size) n=some b->(n<G.N/\bK h G n=some b)\/(n=h.length/\b=w.heap.size):=λn b hn=>by
   by_cases aN:n<G.N
   ·exact .inl ⟨aN,by rw[<-fm n aN];exact hn⟩
   ·by_cases e:n=h.length
    ·subst e;rw[sM]at hn;cases hn;exact .inr ⟨rfl,rfl⟩
    ·rw[uT (aoX (by simp;have:=hi.len;omega))]at hn;cases hn
  rcases key m b hm with⟨_,gk⟩|⟨rfl,rfl⟩<;>rcases key n _ hn with⟨_,eW⟩|⟨rfl,hb⟩
  ·exact hi.inj m n b gk eW
  ·have:=hi.h1 gk;omega
  ·have:=hi.h1 eW;omega
  ·rfl
 ·have:=aF.ptr (G:=G.cX w.heap.size) (w:=w.alloc (.cells vs T)) h.length 0 (by simp [Gh.cX,hi.len])
  rwa [gj]at this
theorem Mt(w:apk)(g:Nat)(cs:Array apj):(w.setRow g cs).heap.size=w.heap.size:=by simp [World.setRow]
theorem afN(w:apk)(g:Nat)(cs:Array apj)(b o:Nat)(h:b≠g):(w.setRow g cs).cell? ⟨b,o,none⟩=w.cell? ⟨b,o,none⟩:=World.cell?_of_block (setRow_other w g b cs h)
theorem an2{G:Gh}{w:apk}{g:Nat}(cs:Array apj)(hg:¬G.Z g)(hS:∀b o,G.S b o->(w.setRow g cs).cell? ⟨b,o,none⟩=w.cell? ⟨b,o,none⟩):bM G.N G w G (w.setRow g cs):=
 ⟨by rw[Mt];exact aoC _,λ_ _ h=>h,hS,λ_ _=>rfl,λ_ _=> .inl ⟨rfl,rfl⟩,zsame rfl,λb hb=>setRow_other w g b cs (λe=>hg (e▸hb)),rfl,rfl,rfl,λ_ _ h=> .inl h⟩
theorem D9(cs ys:apf AV)(off:Nat)(h:off+ys.length<=cs.length):(iW cs off ys).length=cs.length:=by
 simp [iW];omega
theorem ajM{R:apj->AV->Prop}(vs us:Array apj)(cs ys:apf AV)(off:Nat)(hl:vs.size=cs.length)(hu:us.size=ys.length)(hb:off+ys.length<=cs.length)
 (hr:∀(i:Nat)(u:apj)(c:AV),vs[i]?=some u->cs[i]?=some c->R u c) (pZ:∀(i:Nat)(u:apj)(c:AV),us[i]?=some u->ys[i]?=some c->R u c):
 ∀(i:Nat)(u:apj)(c:AV),(vs.toList.take off++us.toList++vs.toList.drop (off+us.toList.length)).toArray[i]?=some u->(iW cs off ys)[i]?=some c->R u c:=by
 intro i u c J h2;have oB:us.toList.length=ys.length:=by rw[aoY,hu]
 rw[oB]at J;rw[List.getElem?_toArray]at J;unfold iW at h2;simp only[aoI]at J h2;have xU:vs.toList.length=cs.length:=by rw[aoY,hl]
 by_cases h:i<off
 ·rw[aoB (by simp;omega),List.getElem?_take_of_lt h]at J;rw[aoB (by simp;omega),List.getElem?_take_of_lt h]at h2;exact hr i u c (by rw[<-aoO];exact J) h2
 ·rw[aoH (by simp;omega)]at J h2;simp only[List.length_take,xU]at J h2;rw[Nat.min_eq_left (by omega)]at J h2;by_cases h':i-off<ys.length
  ·rw[aoB (by rw[oB];exact h')]at J;rw[aoB h']at h2;exact pZ (i-off) u c (by rw[<-aoO];exact J) h2
  ·rw[aoH (by rw[oB];omega),List.getElem?_drop]at J;rw[aoH (by omega),List.getElem?_drop]at h2;rw[oB]at J;rw[show off+ys.length+(i-off-ys.length)=i by omega]at J h2;exact hr i u c (by rw[<-aoO];exact J) h2
theorem afP{P:api}{G:Gh}{w:apk}{h:apf aq}(hi:bN G w h){n off:Nat}{cs:apf AV}(hn:h[n]?=some (.cells cs)){t:TypeId}{v:apj}{x:AV}
 (hv:aF G w v x) (hb:x.jS=true) (ht:gh P t=some x.cells.length) (ho:off+x.cells.length<=cs.length):
 ∃w',(storeVar t ⟨G.aR n,off,none⟩ v).run P w= .ok () w'/\bM G.N G w G w'/\bN G w' (h.set n (.cells (iW cs off x.cells))):=by
 obtain⟨hz,hS,vs,T,hh,hl,hr⟩:=hi.c7 n _ hn;obtain⟨A5,P4⟩:=hv.cells hb;obtain⟨i,j5,kI⟩:∃i,P.info? t=some i/\i.size=x.cells.length:=by
  unfold gh at ht;cases hq:P.info? t with
  |none=>rw[hq]at ht;cases ht
  |some i=>rw[hq]at ht;exact⟨i,rfl,by simpa using ht⟩
 have lK:=run_storeCells_at P (G.aR n) off T v.cells.toList 0 vs w hh (by rw[aoY,A5,hl];simpa using ho) (λu hu=>by
  obtain⟨j,hj⟩:=List.mem_iff_getElem?.1 hu;have jh:v.cells[j]?=some u:=by rw[<-aoO];exact hj
  have yK:j<x.cells.length:=by rw[<-A5];exact(aoG.1 jh).1
  exact(P4 j u _ jh (aov yK)).2)
 simp only[Nat.add_zero]at lK;obtain⟨w',eZ⟩:∃w',w'=w.setRow (G.aR n) (vs.toList.take off++v.cells.toList++vs.toList.drop (off+v.cells.toList.length)).toArray:=⟨_,rfl⟩;rw[<-eZ]at lK;have hE:bM G.N G w G w':=by
  rw[eZ];exact an2 _ hz λb o hs=>afN w _ _ b o (λe=>hS o (e▸hs))
 have e9:∀m,m≠n->(h.set n (.cells (iW cs off x.cells)))[m]?=h[m]?:=λm hm=>by rw[aoZ (Ne.symm hm)]
 have mB:(h.set n (.cells (iW cs off x.cells)))[n]?=some (.cells (iW cs off x.cells)):=by
  rw[aoU (aor.1 hn).1]
 have eG:∀m,bK (h.set n (.cells (iW cs off x.cells))) G m=bK h G m:=λm=>by
  by_cases e:m=n
  ·subst e;rw[dA mB,dA hn];rfl
  ·unfold bK;rw[e9 m e]
 have lv:bK h G n=some (G.aR n):=dA hn;refine⟨w',?_,hE,⟨by rw[List.length_set];exact hi.len,λb hb=>aoP (hi.z b hb) hE.size,λb o hs=>aoP (hi.S b o hs) hE.size,λm B hB=> ?_,λm m' b J h2=>hi.inj m m' b (by rw[<-eG];exact J) (by rw[<-eG];exact h2),hi.gl.keep hE⟩⟩
 ·unfold storeVar;simp only[sizeOf,typeInfo,Sem.run_bind,A5];simp [j5,kI,lK]
 ·by_cases e:m=n
  ·subst e;rw[mB]at hB;cases hB
   refine⟨hz,hS,_,T,by rw[eZ];exact setRow_heap w _ vs _ T _ hh,?_,λi u c hu hc=> ?_⟩
   ·rw[D9 _ _ _ ho];have:v.cells.toList.length=x.cells.length:=by rw[aoY];exact A5
    simp only[List.size_toArray,aos,List.length_take,List.length_drop,aoY,hl,A5];omega
   ·exact(ajM (R:=aF G w) vs v.cells cs x.cells off hl A5 ho hr (λi u c J h2=>(P4 i u c J h2).1) i u c hu hc).keep hE (aoC _)
  ·rw[e9 m e]at hB;have cE:∀b,bK h G m=some b->b≠G.aR n:=λb hb eb=>e (hi.inj m n b hb (by rw[eb];exact lv));refine dZ.keep (hi.lt hB) hE (aoC _) ⟨rfl,rfl,rfl⟩ (λb hb=>⟨?_,λo h=>h⟩) (hi.c7 m B hB);rw[eZ];exact setRow_other w _ _ _ (cE _ ((dA hB).trans hb))
theorem dh.qh{S:Nat->Nat->Prop}{w:apk}{v:apj}{xs:apf (apf D)}(h:dh S w v (.sl xs)):
 ∃(A:aph Addr)(b o c k:Nat)(u:Nat->Nat->apj),v= .slice A xs.length c/\(xs≠ []->A=some ⟨b,o,none⟩)/\xs.length<=c/\c<=maxLen/\(∀x∈xs,x.length=k)/\
  (∀i j,i<xs.length->j<k->S b (o+i*k+j)/\w.cell? ⟨b,o+i*k+j,none⟩=some (u i j)/\(u i j).oneCell'=true)/\
  (∀(i j:Nat)(x:apf D)(d:D),xs[i]?=some x->x[j]?=some d->dh S w (u i j) d):=by
 cases h with
 |sl A b o c k xs u hA hc hm hk hS hu=>exact⟨A,b,o,c,k,u,rfl,hA,hc,hm,hk,hS,hu⟩
structure Rd(S:Nat->Nat->Prop)(w:World)(k:Nat)(xs:List (List D))(us:List Value):Prop where
 len:us.length=xs.length*k
 wid:∀x∈xs,x.length=k
 one:∀u∈us,u.oneCell'=true
 rel:∀(i j:Nat)(x:List D)(d:D),xs[i]?=some x->x[j]?=some d->∃u,us[i*k+j]?=some u/\dh S w u d
theorem Rd.keep{S S':Nat->Nat->Prop}{w w':apk}{k:Nat}{xs:apf (apf D)}{us:apf apj}(h:Rd S w k xs us)(hS:∀b o,S b o->S' b o)(hc:∀b o,S b o->w'.cell? ⟨b,o,none⟩=w.cell? ⟨b,o,none⟩):Rd S' w' k xs us:=
 ⟨h.len,h.wid,h.one,λi j x d hx hd=>let ⟨u,J,h2⟩:=h.rel i j x d hx hd;⟨u,J,h2.keep hS hc⟩⟩
theorem Rd.append{S:Nat->Nat->Prop}{w:apk}{k:Nat}{xs ys:apf (apf D)}{us vs:apf apj}(h:Rd S w k xs us)(h':Rd S w k ys vs):Rd S w k (xs++ys) (us++vs):=by
 refine⟨by rw[aos,aos,h.len,h'.len,Nat.add_mul],λx hx=> ?_,λu hu=> ?_,λi j x d hx hd=> ?_⟩
 ·rcases ao3.1 hx with hx|hx
  ·exact h.wid x hx
  ·exact h'.wid x hx
 ·rcases ao3.1 hu with hu|hu
  ·exact h.one u hu
  ·exact h'.one u hu
 ·by_cases hi:i<xs.length
  ·rw[aoB hi]at hx;obtain⟨u,J,h2⟩:=h.rel i j x d hx hd;exact⟨u,by rw[aoB (aor.1 J).1];exact J,h2⟩
  ·rw[aoH (by omega)]at hx;obtain⟨u,J,h2⟩:=h'.rel (i-xs.length) j x d hx hd;refine⟨u,?_,h2⟩;have e:i*k+j=xs.length*k+((i-xs.length)*k+j):=by rw[Nat.sub_mul];have:=Nat.mul_le_mul_right k (Nat.le_of_not_lt hi);omega
   rw[e,aoH (by rw[h.len];omega),h.len,Nat.add_sub_cancel_left];exact J
theorem Rd.CT{S:Nat->Nat->Prop}{w:apk}{k:Nat}{xs:apf (apf D)}{us:apf apj}(h:Rd S w k xs us)(b c:Nat)(hc:xs.length<=c)(hm:c<=maxLen)
 (hS:∀o,o<xs.length*k->S b o) (ie:∀(o:Nat)(u:apj),us[o]?=some u->w.cell? ⟨b,o,none⟩=some u):dh S w (.slice (some ⟨b,0,none⟩) xs.length c) (.sl xs):=by
 refine .sl _ b 0 c k xs (λi j=>us.getD (i*k+j) undef) (λ_=>rfl) hc hm h.wid (λi j hi hj=> ?_) (λi j x d hx hd=> ?_)
 ·have aN:i*k+j<xs.length*k:=by
   have:(i+1)*k<=xs.length*k:=Nat.mul_le_mul_right k hi;rw[Nat.add_mul]at this;omega
  have hg:us[i*k+j]?=some (us[i*k+j]'(by rw[h.len];exact aN)):=aov (by rw[h.len];exact aN);rw[aoL];refine⟨hS _ aN,?_,?_⟩
  ·rw[ie _ _ hg];simp [hg]
  ·simp only[List.getD_eq_getElem?_getD,hg,Option.getD_some];exact h.one _ (List.getElem_mem _)
 ·obtain⟨u,J,h2⟩:=h.rel i j x d hx hd;simp only[List.getD_eq_getElem?_getD,J,Option.getD_some];exact h2
theorem dh.rd{S:Nat->Nat->Prop}{w:apk}{v:apj}{xs:apf (apf D)}{k:Nat}(h:dh S w v (.sl xs))(gK:0<k)(hk:∀x∈xs,x.length=k):
 ∃us,Rd S w k xs us/\∃A c,v= .slice A xs.length c/\xs.length<=c/\c<=maxLen/\(xs≠ []->∃b o,A=some ⟨b,o,none⟩/\∀(j:Nat)(u:apj),us[j]?=some u->S b (o+j)/\w.cell? ⟨b,o+j,none⟩=some u):=by
 obtain⟨A,b,o,c,k',u,rfl,hA,hc,hm,gL,hS,hu⟩:=h.qh;by_cases hx:xs=[]
 ·subst hx;exact⟨[],⟨by simp,(λ_ h=>by cases h),(λ_ h=>by cases h),λi j x d hx=>by simp at hx⟩,A,c,rfl,hc,hm,λh=>absurd rfl h⟩
 ·have ek:k'=k:=by
   obtain⟨x,kP⟩:=List.exists_mem_of_ne_nil xs hx;rw[<-gL x kP,hk x kP]
  subst ek;refine⟨(List.range (xs.length*k')).map λt=>u (t / k') (t%k'),⟨by simp,hk,λv hv=> ?_,λi j x d hx hd=> ?_⟩,A,c,rfl,hc,hm,λcE=>⟨b,o,hA cE,λj v hv=> ?_⟩⟩
  ·obtain⟨t,ht,rfl⟩:=List.mem_map.1 hv;have qu:=List.mem_range.1 ht;exact(hS (t / k') (t%k') (Nat.div_lt_of_lt_mul (by rw[Nat.mul_comm];exact qu)) (Nat.mod_lt _ gK)).2.2
  ·have hj:j<k':=by rw[<-hk x (aoE hx)];exact(aor.1 hd).1
   have hi:i<xs.length:=(aor.1 hx).1;refine⟨u i j,?_,hu i j x d hx hd⟩;have aN:i*k'+j<xs.length*k':=by
    have:(i+1)*k'<=xs.length*k':=Nat.mul_le_mul_right k' hi;rw[Nat.add_mul]at this;omega
   rw[aoy,List.getElem?_range aN];simp only[Option.map_some,Option.some.injEq];rw[show(i*k'+j)/ k'=i by rw[Nat.add_comm,Nat.add_mul_div_right _ _ gK,Nat.div_eq_of_lt hj,aoL],show(i*k'+j)%k'=j by rw[Nat.add_comm,Nat.add_mul_mod_self_right,Nat.mod_eq_of_lt hj]]
  ·rw[aoy]at hv;by_cases hj:j<xs.length*k'
   ·rw[List.getElem?_range hj]at hv;simp only[Option.map_some,Option.some.injEq]at hv;subst hv;have:=hS (j / k') (j%k') (Nat.div_lt_of_lt_mul (by rw[Nat.mul_comm];exact hj)) (Nat.mod_lt _ gK);have e:o+j / k'*k'+j%k'=o+j:=by have:=Nat.div_add_mod j k';rw[Nat.mul_comm]at this;omega
    rw[e]at this;exact⟨this.1,this.2.1⟩
   ·rw[aoX (by simp;omega)]at hv;cases hv
theorem dh.src{P:api}{S:Nat->Nat->Prop}{w:apk}{v:apj}{xs:apf (apf D)}{k:Nat}(h:dh S w v (.sl xs))(gK:0<k)(hk:∀x∈xs,x.length=k){tx e':TypeId}(ht:P.underlying tx=some (.slice e')):
 ∃us,Rd S w k xs us/\Src P k tx v xs.length us w:=by
 obtain⟨us,hr,A,c,rfl,_,_,hA⟩:=h.rd gK hk;refine⟨us,hr,?_⟩;by_cases hx:xs=[]
 ·subst hx;have l8:us=[]:=List.eq_nil_of_length_eq_zero (by rw[hr.len];simp);subst l8;cases A with
  |none=>exact Src.ofNil w ht c
  |some a=>exact Src.ofSlice w ht a 0 c [] (by simp) (λj u hu=>by simp at hu) (λu hu=>by cases hu)
 ·obtain⟨b,o,rfl,hc⟩:=hA hx;exact Src.ofSlice w ht _ _ c us hr.len (λj u hu=>by rw[lI];exact(hc j u hu).2) hr.one
def Gh.ib(G:Gh)(v:apj)(len:Nat):Gh:=
 {G with N:=G.N+1,sg:=λn=>if n=G.N then v else G.sg n,fl:=λn=>if n=G.N then len else G.fl n,ow:=λn=>if n=G.N then none else G.ow n}
theorem PO{G:Gh}{w:apk}{h:apf aq}(hi:bN G w h){v:apj}{xs:apf (apf D)}(hv:dh G.S w v (.sl xs))(hf:∃A,v= .slice A xs.length xs.length)(e:TypeId)(k:Nat):
 bM G.N G w (G.ib v xs.length) w/\G.N<=(G.ib v xs.length).N/\bN (G.ib v xs.length) w (h++[.front e k xs.length])/\aF (G.ib v xs.length) w v (.own h.length xs):=by
 have cE:∀n,n<G.N->n≠G.N:=λn hn=>Nat.ne_of_lt hn;have hE:bM G.N G w (G.ib v xs.length) w:=⟨aoC _,λ_ _ h=>h,λ_ _ _=>rfl,λ_ _=>rfl,λn hn=> .inl ⟨by simp [Gh.ib,cE n hn],by simp [Gh.ib,cE n hn]⟩,zsame rfl,λ_ _=>rfl,rfl,rfl,rfl,λ_ _ h=> .inl h⟩;have hN:G.N<=(G.ib v xs.length).N:=Nat.le_succ _;have Td:xs.length<=maxLen:=by
  obtain⟨A,b,o,c,k',u,_,_,J,h2,_⟩:=hv.qh;exact aoJ J h2
 have k9:∀n(B:aq),n<G.N->B.dP (G.ib v xs.length) n=B.dP G n:=λn B hn=>by
  cases B<;>simp [aq.dP,Gh.ib,Nat.ne_of_lt hn]
 have hold:∀n b,bK (h++[.front e k xs.length]) (G.ib v xs.length) n=some b->bK h G n=some b:=λn b hb=>by
  by_cases hn:n<h.length
  ·unfold bK at hb ⊢;rw[aoB hn,aov hn]at hb;rw[aov hn];rw[<-hb];exact(k9 n _ (hi.len▸hn)).symm
  ·by_cases en:n=h.length
   ·subst en;rw[dA (B:= .front e k xs.length) (by simp)]at hb;simp [aq.dP,Gh.ib,hi.len]at hb
   ·rw[uT (aoX (by simp;omega))]at hb;cases hb
 refine⟨hE,hN,⟨by simp [Gh.ib,hi.len],hi.z,hi.S,λn B hB=> ?_,λm n b hm hn=>hi.inj m n b (hold m b hm) (hold n b hn),hi.gl.keep hE⟩,?_⟩
 ·by_cases hn:n<h.length
  ·rw[aoB hn]at hB;have eW:n<G.N:=hi.len▸hn;exact dZ.keep eW hE hN ⟨by simp [Gh.ib,cE n eW],by simp [Gh.ib,cE n eW],by simp [Gh.ib,cE n eW]⟩ (λb hb=>⟨rfl,λo h=>h⟩) (hi.c7 n B hB)
  ·have ku:n=h.length:=by
    have:=(aor.1 hB).1;simp at this;omega
   subst ku;simp at hB;subst hB;obtain⟨A,hA⟩:=hf;exact⟨by simp [Gh.ib,hi.len],Td, .inl ⟨by simp [Gh.ib,hi.len],A,by simp [Gh.ib,hi.len,hA]⟩⟩
 ·exact .own h.length xs (by simp [Gh.ib,hi.len]) hv (by simp [Gh.ib,hi.len]) (λ_=>by simp [Gh.ib,hi.len])
theorem QU{P:api}{e k b:Nat}(hk:gh P e=some k)(hb:qQ P e=some b):∃i,P.info? e=some i/\i.size=k/\i.bytes=b:=by
 unfold gh at hk;unfold qQ at hb;cases hq:P.info? e with
 |none=>rw[hq]at hk;cases hk
 |some i=>rw[hq]at hk hb;exact⟨i,rfl,by simpa using hk,by simpa using hb⟩
def Gh.grow(G:Gh)(n:Nat)(S:Nat->Nat->Prop)(v:apj)(len:Nat)(ow:aph Nat):Gh:=
 {G with S:=S,sg:=λm=>if m=n then v else G.sg m,fl:=λm=>if m=n then len else G.fl m,ow:=λm=>if m=n then ow else G.ow m}
theorem YX{G:Gh}{w w':apk}{h:apf aq}(hi:bN G w h){n e k len len':Nat}(hn:h[n]?=some (.front e k len))(S:Nat->Nat->Prop)(v:apj)(g:Nat)
 (hE:bM G.N G w (G.grow n S v len' (some g)) w') (hg:g=w.heap.size\/G.ow n=some g) (hgw:g<w'.heap.size)
 (hS:∀b o,S b o->G.S b o\/b=g) (jg:∀b,b<w.heap.size->b≠g->w'.heap[b]?=w.heap[b]?)
 (hB:dZ (G.grow n S v len' (some g)) w' n (.front e k len')):bN (G.grow n S v len' (some g)) w' (h.set n (.front e k len')):=by
 have e9:∀m,m≠n->(h.set n (.front e k len'))[m]?=h[m]?:=λm hm=>by rw[aoZ (Ne.symm hm)]
 have mB:(h.set n (.front e k len'))[n]?=some (.front e k len'):=by rw[aoU (aor.1 hn).1]
 have k9:∀m(B:aq),m≠n->B.dP (G.grow n S v len' (some g)) m=B.dP G m:=λm B hm=>by
  cases B<;>simp [aq.dP,Gh.grow,hm]
 have eG:∀m,m≠n->bK (h.set n (.front e k len')) (G.grow n S v len' (some g)) m=bK h G m:=λm hm=>by
  unfold bK;rw[e9 m hm];cases h[m]? with
  |none=>rfl
  |some B=>exact k9 m B hm
 have yg:∀m,m≠n->bK h G m≠some g:=λm hm hb=>by
  rcases hg with hg|hg
  ·have:=hi.h1 hb;omega
  ·exact hm (hi.inj m n g hb ((dA hn).trans hg))
 refine⟨by rw[List.length_set];exact hi.len,λb hb=>aoP (hi.z b hb) hE.size,λb o hs=> ?_,λm B hm=> ?_,λm m' b J h2=> ?_,hi.gl.keep hE⟩
 ·rcases hS b o hs with hs|hs
  ·exact aoP (hi.S b o hs) hE.size
  ·rw[hs];exact hgw
 ·by_cases em:m=n
  ·subst em;rw[mB]at hm;cases hm;exact hB
  ·rw[e9 m em]at hm;refine dZ.keep (hi.lt hm) hE (aoC _) ⟨by simp [Gh.grow,em],by simp [Gh.grow,em],by simp [Gh.grow,em]⟩ (λb hb=> ?_) (hi.c7 m B hm);have hr:bK h G m=some b:=(dA hm).trans hb;have cE:b≠g:=λe'=>yg m em (by rw[hr,e']);refine⟨jg _ (hi.h1 hr) cE,λo jx hs=> ?_⟩;rcases hS _ o hs with hs|hs
   ·exact jx hs
   ·exact cE hs
 ·by_cases e1:m=n<;>by_cases e2:m'=n
  ·rw[e1,e2]
  ·subst e1;rw[eG m' e2]at h2;have:bK (h.set m (.front e k len')) (G.grow m S v len' (some g)) m=some g:=by rw[dA mB];simp [aq.dP,Gh.grow]
   rw[this]at J;cases J;exact absurd h2 (yg m' e2)
  ·subst e2;rw[eG m e1]at J;have:bK (h.set m' (.front e k len')) (G.grow m' S v len' (some g)) m'=some g:=by rw[dA mB];simp [aq.dP,Gh.grow]
   rw[this]at h2;cases h2;exact absurd J (yg m e1)
  ·rw[eG m e1]at J;rw[eG m' e2]at h2;exact hi.inj m m' b J h2
set_option maxHeartbeats 1000000 in
theorem Yc{P:api}{G:Gh}{w:apk}{h:apf aq}(hi:bN G w h){T tx ty e k cW:Nat}{i:TypeInfo}{z:apj}(hT:P.underlying T=some (.slice e))(lr:P.info? e=some i)(hz:i.zero=some z)(l7:i.size=k)(xf:i.bytes=cW)(kt:z.cells.size=k)
 (gK:0<k) {n:Nat} {xs ys:apf (apf D)} (hn:h[n]?=some (.front e k xs.length)) {u v:apj} (hu:aF G w u (.own n xs)) (nG:∀x∈xs,x.length=k)
 {us:apf apj} (hr:Rd G.S w k ys us) (hs:Src P k tx v ys.length us w) (xF:xs.length+ys.length<=maxLen) (po:(xs.length+ys.length)*cW<=140737488355328):
 ∃r w' G',(Builtin.append_ #[T,tx] ty #[u,v]).run P w= .ok r w'/\bM G.N G w G' w'/\G.N<=G'.N/\bN G' w' (h.set n (.front e k (xs.length+ys.length)))/\aF G' w' r (.own n (xs++ys)):=by
 subst l7;subst xf;have oW:=hi.lt hn;obtain⟨my,Td,hbr⟩:=hi.c7 n _ hn;obtain⟨hp,ZO⟩:dh G.S w u (.sl xs)/\u=G.sg n:=by
  cases hu with
  |own _ _ _ hp hle hf=>exact⟨hp,hf my.symm⟩
 obtain⟨olds,Ah,A,c,Az,ln,wq,hA⟩:=hp.rd gK nG;have Pt:h.set n (.front e i.size (xs.length+0))=h:=by
  rw[Nat.add_zero];refine List.ext_getElem? λm=> ?_;by_cases em:m=n
  ·subst em;rw[aoU (aor.1 hn).1,hn]
  ·rw[aoZ (Ne.symm em)]
 by_cases hy:ys.length=0
 ·have jO:ys=[]:=List.eq_nil_of_length_eq_zero hy;subst jO;have l8:us=[]:=List.eq_nil_of_length_eq_zero (by rw[hr.len];simp);subst l8;have:=run_append_nothing (P:=P) w T tx ty e i hT lr A xs.length c ln v hs;refine⟨u,w,G,by rw[Az];exact this,bM.refl _ _ _,aoC _,?_,by rw[aoM];exact hu⟩;simp only[aoD];rw[Pt];exact hi
 ·have Xl:0<ys.length:=Nat.pos_of_ne_zero hy;have Qv:xs.length+ys.length<=9223372036854775807:=by simp only[maxLen]at xF;omega
  have RM:Rd G.S w i.size (xs++ys) (olds++us):=Ah.append hr;have grow:c<xs.length+ys.length->∃r w' G',(Builtin.append_ #[T,tx] ty #[u,v]).run P w= .ok r w'/\bM G.N G w G' w'/\G.N<=G'.N/\bN G' w' (h.set n (.front e i.size (xs.length+ys.length)))/\aF G' w' r (.own n (xs++ys)):=by
   intro hg;have hold:(Builtin.firstCells i.size xs.length (.slice A xs.length c)).run P w.drew= .ok olds.toArray w.drew:=by
    by_cases hx:xs=[]
    ·subst hx;have:olds=[]:=List.eq_nil_of_length_eq_zero (by rw[Ah.len];simp);subst this;cases A with
     |none=>exact run_firstCells_none _ _ _ _ _
     |some a=>exact run_firstCells_some _ _ _ _ _ _ [] (by simp) (λj u hu=>by simp at hu)
    ·obtain⟨b,o,rfl,hc⟩:=hA hx;exact run_firstCells_some _ _ _ _ _ _ olds Ah.len (λj u hu=>by rw[lI];exact(hc j u hu).2)
   have dB:=run_append_grow_src (P:=P) w T tx ty e i z hT lr hz A xs.length c olds hold v ys.length us hs hg (by omega) (growslice_fits hg po);obtain⟨cap,jV⟩:∃cap,cap=grownCap w (xs.length+ys.length) c e:=⟨_,rfl⟩;have jT:xs.length+ys.length<=cap:=by rw[jV];exact grownCap_ge _ _ _ _
   have hle:cap<=maxLen:=by rw[jV];exact grownCap_le_maxLen _ _ _ _ xF
   rw[<-jV]at dB;obtain⟨cur,kD⟩:∃cur,cur=(olds++us).toArray++Builtin.zeroCells z.cells (cap-(xs.length+ys.length)):=⟨_,rfl⟩;rw[<-kD]at dB;obtain⟨w',eZ⟩:∃w',w'=w.drew.alloc (.cells cur e):=⟨_,rfl⟩;rw[<-eZ]at dB;have gO:cur.size=cap*i.size:=by
     have:=size_zeroCells z.cells (cap-(xs.length+ys.length));rw[kD,Array.size_append,this,List.size_toArray,RM.len,kt,aos,<-Nat.add_mul]
     congr 1
     omega
   have fm:w'.heap[w.heap.size]?=some (.cells cur e (0,0)):=by rw[eZ];exact World.alloc_heap_new w.drew _
   have Rg:∀b,b<w.heap.size->w'.heap[b]?=w.heap[b]?:=λb hb=>by rw[eZ];exact Below.heap_alloc w.drew _ b hb
   have iq:w'.heap.size=w.heap.size+1:=by rw[eZ];simp
   obtain⟨S,hS⟩:∃S:Nat->Nat->Prop,S=λb o=>G.S b o\/(b=w.heap.size/\o<(xs.length+ys.length)*i.size):=⟨_,rfl⟩;have ie:∀b o,G.S b o->w'.cell? ⟨b,o,none⟩=w.cell? ⟨b,o,none⟩:=λb o hs=>World.cell?_of_block (Rg b (hi.S b o hs));have hE:bM G.N G w (G.grow n S (.slice (some ⟨w.heap.size,0,none⟩) (xs.length+ys.length) cap) (xs.length+ys.length) (some w.heap.size)) w':=
    ⟨by rw[iq];exact Nat.le_succ _,λb o h=>by show S b o;rw[hS];exact .inl h,ie,λ_ _=>rfl,
     λm _=>by
      by_cases em:m=n
      ·right;subst em;simp only[Gh.grow,if_true,my];omega
      ·left;exact⟨by simp [Gh.grow,em],by simp [Gh.grow,em]⟩,
     zsame rfl,λb hb=>Rg b (hi.z b hb),by rw[eZ];rfl,by rw[eZ];rfl,by rw[eZ];rfl,λb o hs=>by
      have cC:S b o:=hs;rw[hS]at cC;rcases cC with h|⟨rfl,_⟩
      ·exact .inl h
      ·exact .inr λhz=>ao5 _ (hi.z _ hz)⟩
   have hP:dh S w' (.slice (some ⟨w.heap.size,0,none⟩) (xs++ys).length cap) (.sl (xs++ys)):=by
    refine(RM.keep (S':=S) (w':=w') (λb o h=>by rw[hS];exact .inl h) ie).CT w.heap.size cap (by rw[aos];exact jT) hle (λo ho=>by rw[hS];exact .inr ⟨rfl,by rw[aos]at ho;exact ho⟩) (λo x ho=> ?_);rw[cell_of_row w' w.heap.size o cur e (0,0) fm,kD,Array.getElem?_append_left (by simp only[List.size_toArray];exact(aor.1 ho).1),List.getElem?_toArray];exact ho
   rw[aos]at hP;refine⟨_,w',_,by rw[Az];exact dB,hE,aoC _,YX hi hn S _ w.heap.size hE (.inl rfl) (by rw[iq];exact apd _) (λb o hs=> ?_) (λb hb _=>Rg b hb) ?_,?_⟩
   ·rw[hS]at hs;exact hs.imp id And.left
   ·refine⟨by simp [Gh.grow],xF, .inr ⟨w.heap.size,cap,cur,by simp [Gh.grow],by simp [Gh.grow],λhz=>ao5 _ (hi.z _ hz),fm,jT,hle,gO,λo ho hs=> ?_⟩⟩;have cC:S w.heap.size o:=hs;rw[hS]at cC;rcases cC with cC|⟨_,cC⟩
    ·have:=hi.S _ _ cC;omega
    ·omega
   ·exact .own n (xs++ys) oW hP (by simp [Gh.grow]) (λ_=>by simp [Gh.grow])
  rcases hbr with⟨iL,A',jZ⟩|⟨g,cap,cur,iL,jZ,Jk,qZ,Qh,Nu,hb7,hb8⟩
  ·refine grow ?_;rw[ZO,jZ]at Az;cases Az
   omega
  ·have TQ:=Az;rw[ZO,jZ]at TQ;injection TQ with eA0 _ e1;have e2:=e1.symm;subst e2;subst eA0;by_cases rB:xs.length+ys.length<=c
   ·
    have mf:xs.length*i.size+us.length<=cur.size:=by rw[hr.len,hb7,<-Nat.add_mul];exact Nat.mul_le_mul_right _ rB
    have DE:∀o,w.cell? ⟨g,o,none⟩=cur[o]?:=λo=>cell_of_row w g o cur e (0,0) qZ;have AW:∀j,j<us.length->(w.cell? ⟨g,0+xs.length*i.size+j,none⟩).isSome=true:=λj hj=>by
     rw[DE,aoL,aoN (by omega)];rfl
    have dB:=run_append_room_src (P:=P) w T tx ty e i hT lr g 0 xs.length c v ys.length us hs rB AW
     (λj hj=>by unfold World.frozen?;rw[qZ];simp)
    rw[aoL]at dB AW;obtain⟨w',eZ⟩:∃w',w'=w.setCells g (xs.length*i.size) us:=⟨_,rfl⟩;rw[<-eZ]at dB;have alV:g<w.heap.size:=(aoG.1 qZ).1;have lK:=run_storeCells_at P g (xs.length*i.size) e us 0 cur w qZ (by simpa using mf) hs.one;have wO:=run_storeCells_cells (P:=P) g (xs.length*i.size) us 0 w (by simpa using AW) (λj hj=>by unfold World.frozen?;rw[qZ];simp) hs.one;simp only[Nat.add_zero]at lK wO;rw[lK]at wO;have wx:w'=w.setRow g (cur.toList.take (xs.length*i.size)++us++cur.toList.drop (xs.length*i.size+us.length)).toArray:=by
      rw[eZ];injection wO with _ e2;exact e2.symm
    obtain⟨pJ,QT⟩:∃pJ:Array apj,pJ=(cur.toList.take (xs.length*i.size)++us++cur.toList.drop (xs.length*i.size+us.length)).toArray:=⟨_,rfl⟩;rw[<-QT]at wx;have o6:w'.heap[g]?=some (.cells pJ e (0,0)):=by rw[wx];exact setRow_heap w g cur pJ e _ qZ
    have jg:∀b,b≠g->w'.heap[b]?=w.heap[b]?:=λb hb=>by rw[wx];exact setRow_other w g b pJ hb
    have iq:w'.heap.size=w.heap.size:=by rw[wx];exact Mt w g pJ
    have fR:∀o,pJ[o]?=if o<xs.length*i.size then cur[o]? else if o<xs.length*i.size+us.length then us[o-xs.length*i.size]? else cur[o]?:=λo=>by
     rw[QT,List.getElem?_toArray,aoI];have hl:cur.toList.length=cur.size:=aoY;by_cases J:o<xs.length*i.size
     ·rw[if_pos J,aoB (by simp;omega),List.getElem?_take_of_lt J,aoO]
     ·rw[if_neg J,aoH (by simp;omega)];simp only[List.length_take,hl];rw[Nat.min_eq_left (by omega)];by_cases h2:o<xs.length*i.size+us.length
      ·rw[if_pos h2,aoB (by omega)]
      ·rw[if_neg h2,aoH (by omega),List.getElem?_drop,show xs.length*i.size+us.length+(o-xs.length*i.size-us.length)=o by omega,aoO]
    have afX:pJ.size=cur.size:=by
     rw[QT];simp only[List.size_toArray,aos,List.length_take,List.length_drop,aoY];omega
    have ie:∀b o,G.S b o->w'.cell? ⟨b,o,none⟩=w.cell? ⟨b,o,none⟩:=λb o hs=>by
     by_cases eb:b=g
     ·subst eb;have ho:o<xs.length*i.size:=Nat.lt_of_not_le λhle=>hb8 o hle hs;rw[DE,cell_of_row w' b o pJ e (0,0) o6,fR,if_pos ho]
     ·exact World.cell?_of_block (jg b eb)
    obtain⟨S,hS⟩:∃S:Nat->Nat->Prop,S=λb o=>G.S b o\/(b=g/\o<(xs.length+ys.length)*i.size):=⟨_,rfl⟩;have hE:bM G.N G w (G.grow n S (.slice (some ⟨g,0,none⟩) (xs.length+ys.length) c) (xs.length+ys.length) (some g)) w':=
     ⟨by rw[iq];exact aoC _,λb o h=>by show S b o;rw[hS];exact .inl h,ie,λ_ _=>rfl,
      λm _=>by
       by_cases em:m=n
       ·right;subst em;simp only[Gh.grow,if_true,my];omega
       ·left;exact⟨by simp [Gh.grow,em],by simp [Gh.grow,em]⟩,
      zsame rfl,λb hb=>jg b (λe=>Jk (e▸hb)),by rw[wx];rfl,by rw[wx];rfl,by rw[wx];rfl,λb o hs=>by
       have cC:S b o:=hs;rw[hS]at cC;rcases cC with h|⟨rfl,_⟩
       ·exact .inl h
       ·exact .inr Jk⟩
    have hP:dh S w' (.slice (some ⟨g,0,none⟩) (xs++ys).length c) (.sl (xs++ys)):=by
     refine(RM.keep (S':=S) (w':=w') (λb o h=>by rw[hS];exact .inl h) ie).CT g c (by rw[aos];exact rB) Nu (λo ho=>by rw[hS];exact .inr ⟨rfl,by rw[aos]at ho;exact ho⟩) (λo x ho=> ?_);rw[cell_of_row w' g o pJ e (0,0) o6,fR];have kC:olds.length=xs.length*i.size:=Ah.len;by_cases J:o<xs.length*i.size
     ·rw[if_pos J];rw[aoB (by omega)]at ho;have hx:xs≠ []:=λe=>by subst e;simp at J
      obtain⟨b,o',eA,hc⟩:=hA hx;cases eA
      have:=(hc o x ho).2;rw[aoL,DE]at this;exact this
     ·rw[if_neg J];rw[aoH (by omega),kC]at ho;have:=(aor.1 ho).1;rw[if_pos (by omega)];exact ho
    rw[aos]at hP;refine⟨_,w',_,by rw[Az];exact dB,hE,aoC _,YX hi hn S _ g hE (.inr iL) (by rw[iq];exact alV) (λb o hs=> ?_) (λb _ hb=>jg b hb) ?_,?_⟩
    ·rw[hS]at hs;exact hs.imp id And.left
    ·refine⟨by simp [Gh.grow],xF, .inr ⟨g,c,pJ,by simp [Gh.grow],by simp [Gh.grow],Jk,o6,rB,Nu,by rw[afX,hb7],λo ho hs=> ?_⟩⟩;have cC:S g o:=hs;rw[hS]at cC;rcases cC with cC|⟨_,cC⟩
     ·exact hb8 o (aoJ (Nat.mul_le_mul_right _ (ao6 _ _)) ho) cC
     ·omega
    ·exact .own n (xs++ys) oW hP (by simp [Gh.grow]) (λ_=>by simp [Gh.grow])
   ·exact grow (by omega)
def WF(r:aph Nat):Fence:={Fence.wide with round:=r}
def jf(N0:Nat)(G:Gh)(w:apk)(K:St->Prop)(a':Act)(w':apk):Prop:=∃G' s',bM N0 G w G' w'/\N0<=G'.N/\cV G' w' a' s'/\K s'
section
variable {P:api} {r:aph Nat} {n N0:Nat} {G:Gh} {w:apk} {a:Act} {s:St} {o:Oper} {K:St->Prop} {Q:Exit->Act->apk->Prop}
theorem mq(hO:∀c,o.op≠ .defer c)(hs:cV G w a s)(cv:N0<=G.N){v:apj}{x:AV}{w':apk}{G':Gh}{h':apf aq}(hr:(execOp a.eval o).run P w= .ok (.value v) w')
 (hE:bM G.N G w G' w') (hN:G.N<=G'.N) (hi:bN G' w' h') (hv:aF G' w' v x) (hK:K ((s.wh h').put o.dst x)):o.wpIn (WF r) n P a w (jf N0 G w K) Q:=by
 refine⟨λ_ _=>trivial,?_⟩;rw[Oper.semAt_eq _ _ _ hO,hr];exact⟨G',_,hE.less cv,aoJ cv hN,((hs.move hE hN hi).put hv o.dst),hK⟩
theorem fx(hO:∀c,o.op≠ .defer c)(hs:cV G w a s)(cv:N0<=G.N){v:apj}{x:AV}(hr:(execOp a.eval o).run P w= .ok (.value v) w)(hv:aF G w v x)(hK:K (s.put o.dst x)):
 o.wpIn (WF r) n P a w (jf N0 G w K) Q:=
 mq hO hs cv hr (bM.refl _ _ _) (aoC _) hs.inv hv hK
theorem Q1(hO:∀c,o.op≠ .defer c)(hs:cV G w a s)(cv:N0<=G.N){w':apk}{G':Gh}{h':apf aq}(hr:(execOp a.eval o).run P w= .ok .skip w')
 (hE:bM G.N G w G' w') (hN:G.N<=G'.N) (hi:bN G' w' h') (hK:K ((s.wh h').put o.dst (.d (.v undef)))):o.wpIn (WF r) n P a w (jf N0 G w K) Q:=by
 refine⟨λ_ _=>trivial,?_⟩;rw[Oper.semAt_eq _ _ _ hO,hr];exact⟨G',_,hE.less cv,aoJ cv hN,((hs.move hE hN hi).put (.d (.v undef)) o.dst),hK⟩
theorem Z9{t k:Nat}(h:gh P t=some k):∃i,P.info? t=some i/\i.size=k:=by
 unfold gh at h;cases hq:P.info? t with
 |none=>rw[hq]at h;cases h
 |some i=>rw[hq]at h;exact⟨i,rfl,by simpa using h⟩
theorem Lv{t:Nat}{z:apj}(h:iR P t=some z):∃i,P.info? t=some i/\i.zero=some z:=by
 unfold iR at h;cases hq:P.info? t with
 |none=>rw[hq]at h;cases h
 |some i=>rw[hq]at h;exact⟨i,rfl,by simpa using h⟩
theorem Dq{t:Nat}{z:apj}(h:iR P t=some z)(w:apk):(zeroValue t).run P w= .ok z w:=by
 obtain⟨i,J,h2⟩:=Lv h;simp [zeroValue,typeInfo,J,h2]
theorem l4{t k:Nat}(h:gh P t=some k)(w:apk):(sizeOf t).run P w= .ok k w:=by
 obtain⟨i,J,h2⟩:=Z9 h;simp [sizeOf,typeInfo,J,h2]
theorem EL{t:Nat}{g:Bool}(h:mJ P t=some g)(w:apk):(isAgg t).run P w= .ok g w:=by
 unfold mJ at h;cases hq:P.underlying t with
 |none=>rw[hq]at h;cases h
 |some d=>
  rw[hq]at h;unfold isAgg;rw[Sem.run_bind,run_underlying hq w];simp only[Option.map_some,Option.some.injEq]at h;subst h;cases d<;>rfl
theorem agT{t:Nat}(h:mJ P t=some true):∃d,P.underlying t=some d/\d.isRow=true:=by
 unfold mJ at h;cases hq:P.underlying t with
 |none=>rw[hq]at h;cases h
 |some d=>rw[hq]at h;refine⟨d,rfl,?_⟩;cases d<;>simp_all [TypeDesc.isRow]
theorem abH{t:Nat}{C:AV->Prop}:∀(b o:Nat)(cs:apf AV)(off:Nat)(us:Nat->apj),(∀j,j<cs.length->w.cell? ⟨b,o+j,none⟩=some (us j))->(∀(j:Nat)(c:AV),cs[j]?=some c->aF G w (us j) c)->
 (match mJ P t,gh P t with
  |some true,some k=>fK (cm (off+k) cs.length) (C (.agg ((cs.drop off).take k)))
  |some false,some _=>match cs[off]? with
   |some c=>C c
   |none=>False
  |_,_=>False)->∃u x,(loadVar t ⟨b,o+off,none⟩).run P w= .ok u w/\aF G w u x/\C x:=by
 intro b o cs off us J h2 h3;split at h3
 ·rename_i k hg hk
  obtain⟨hlen,hC⟩:=bO.1 h3;rw[da]at hlen;obtain⟨d,vr,nB⟩:=agT hg;have J1:((List.range k).map λj=>us (off+j)).length=k:=by simp
  have dB:=run_loadVar_mid (P:=P) w b (o+off) t ((List.range k).map λj=>us (off+j)) d (λj u hu=>by
   rw[aoy]at hu;by_cases hj:j<k
   ·rw[List.getElem?_range hj]at hu;simp only[Option.map_some,Option.some.injEq]at hu;subst hu;have:=J (off+j) (by omega)
    rwa [<-Nat.add_assoc]at this
   ·rw[aoX (by simp;omega)]at hu;cases hu) vr nB (by rw[J1];exact hk)
  refine⟨_,_,dB, .agg _ _ (by simp;omega) λi u c hu hc=> ?_,hC⟩;rw[List.getElem?_toArray,aoy]at hu;rw[List.getElem?_take]at hc;split at hc
  ·rename_i l7
   rw[List.getElem?_range l7]at hu;simp only[Option.map_some,Option.some.injEq]at hu;subst hu;rw[List.getElem?_drop]at hc;exact h2 (off+i) c hc
  ·cases hc
 ·rename_i k hg hk
  split at h3
  ·rename_i c hc
   refine⟨us off,c,?_,h2 off c hc,h3⟩;unfold loadVar;rw[Sem.run_bind,EL hg w];simp only[Result.andThen_ok,Bool.false_eq_true,if_false];unfold load;simp only[Sem.run,J off (aor.1 hc).1]
  ·exact h3.elim
 ·exact h3.elim
theorem V9{t:Nat}{p:AV}{v:apj}{C:AV->Prop}(hi:bN G w s.h)(hv:aF G w v p)(h:oM P t s.h p C):∃u x,(Instr.loadAt t v).run P w= .ok u w/\aF G w u x/\C x:=by
 have key:=abH (P:=P) (G:=G) (w:=w) (t:=t) (C:=C);unfold oM sE at h;cases p with
 |ptr m off=>
  simp only at h;split at h
  ·rename_i cs hm
   obtain⟨_,_,vs,T,hh,hl,hr⟩:=hi.c7 m _ hm;cases hv with
   |ptr _ _ wF=>
    obtain⟨u,x,J,h2,h3⟩:=key (G.aR m) 0 cs off (λj=>vs.getD j undef) (λj hj=>by
     have jh:j<vs.size:=by rw[hl];exact hj
     rw[aoL,cell_of_row w (G.aR m) j vs T (0,0) hh];simp [Array.getD,jh]) (λj c hc=>by
     have jh:j<vs.size:=by rw[hl];exact(aor.1 hc).1
     exact hr j _ c (by simp [Array.getD,jh]) hc) h
    rw[aoL]at J;exact⟨u,x,by simp [Instr.loadAt,Instr.sureAddr,J],h2,h3⟩
  ·exact h.elim
 |bj xs i off=>
  simp only at h;split at h
  ·rename_i cs gO
   cases hv with
   |bj _ _ _ b o us x hx hS hu=>
    rw[hx]at gO;cases gO
    obtain⟨u,y,J,h2,h3⟩:=key b o (cs.map .d) off us (λj hj=>(hS j (by simpa using hj)).2) (λj c hc=>by
     rw[aoy]at hc;cases hd:cs[j]? with
     |none=>rw[hd]at hc;cases hc
     |some d=>rw[hd]at hc;cases hc;exact .d (hu j d hd)) h
    exact⟨u,y,by simp [Instr.loadAt,Instr.sureAddr,J],h2,h3⟩
  ·exact h.elim
 |_=>exact h.elim
theorem aF.list{u:apj}{x:AV}{xs:apf (apf D)}(h:aF G w u x)(hx:x.fI=some xs):dh G.S w u (.sl xs):=by
 unfold AV.fI at hx;split at hx
 ·cases hx;cases h with|d h=>exact h
 ·cases hx;cases h with|own _ _ _ h=>exact h
 ·cases hx;cases h with|full _ h=>exact h
 ·cases hx
  cases h with
  |d h=>
   cases h with
   |v=>exact .sl none 0 0 0 0 [] (λ_ _=>undef) (λh=>absurd rfl h) (aoC _) (by simp) (λ_ h=>by cases h) (λi j hi=>by simp at hi) (λi j x d hx=>by simp at hx)
 ·cases hx
theorem aF.int{u:apj}{x:AV}{z:Int}(h:aF G w u x)(hx:x.int?=some z):∃k,u= .int k z:=by
 unfold AV.int? at hx;split at hx
 ·rename_i k m
  cases hx
  cases h with
  |d h=>cases h with|v=>exact⟨k,rfl⟩
 ·cases hx
theorem aF.bool{u:apj}{t:Bool}(h:aF G w u (.d (.v (.bool t)))):u= .bool t:=by
 cases h with|d h=>cases h with|v=>rfl
theorem aF.val{u v:apj}(h:aF G w u (.d (.v v))):u=v:=by
 cases h with|d h=>cases h with|v=>rfl
theorem j8{T e k:Nat}(h:eY P T=some (e,k)):P.underlying T=some (.slice e)/\gh P e=some k:=by
 unfold eY at h;split at h
 ·rename_i e' he
  cases hq:gh P e' with
  |none=>rw[hq]at h;cases h
  |some k'=>rw[hq]at h;simp at h;obtain⟨rfl,rfl⟩:=h;exact⟨he,hq⟩
 ·cases h
theorem P9{T m e k:Nat}(h:uj P T=some (m,e,k)):P.underlying T=some (.array m e)/\gh P e=some k:=by
 unfold uj at h;split at h
 ·rename_i m' e' he
  cases hq:gh P e' with
  |none=>rw[hq]at h;cases h
  |some k'=>rw[hq]at h;simp at h;obtain⟨rfl,rfl,rfl⟩:=h;exact⟨he,hq⟩
 ·cases h
theorem alq{T:Nat}{x i:AV}{u v:apj}{C:AV->Prop}(hu:aF G w u x)(hv:aF G w v i)(h:rX P T x i C):∃p y,(Instr.indexAt T u v).run P w= .ok p w/\aF G w p y/\C y:=by
 unfold rX at h;split at h
 ·rename_i e k hT
  obtain⟨fD,fW⟩:=j8 hT;split at h
  ·rename_i m off len cap k'
   split at h
   ·rename_i z hz
    obtain⟨ux,h0,aN,hC⟩:=bO.1 h;rw[beq_iff_eq]at ux;subst ux;obtain⟨kz,rfl⟩:=hv.int hz;cases hu with
    |row _ _ _ _ _ hm hl pG=>
     have hN:(z.toNat:Int)=z:=Int.toNat_of_nonneg h0;refine⟨_,_,?_, .ptr m (off+z.toNat*k') hm,hC⟩;simp [Instr.indexAt,asIntOf,run_underlying fD,h0,aN,l4 fW,lI]
   ·exact h.elim
  ·split at h
   ·rename_i xs z lT hz
    obtain⟨h0,h⟩:=h;obtain⟨kz,rfl⟩:=hv.int hz;split at h
    ·rename_i c hc
     obtain⟨hk,hC⟩:=h;obtain⟨A,b,o,cc,k',us,rfl,hA,ln,wq,gL,hS,l8⟩:=(hu.list lT).qh;have aN:z.toNat<xs.length:=(aor.1 hc).1;have cE:xs≠ []:=λe=>by subst e;simp at aN
     have ek:k'=k:=by rw[<-gL c (aoE hc),hk]
     subst ek;rw[hA cE];have Pz:z<(xs.length:Int):=by omega
     refine⟨_, .bj [c] 0 0,?_, .bj [c] 0 0 b (o+z.toNat*k') (us z.toNat) c rfl (λj hj=> ?_) (λj d hd=>l8 _ _ _ _ hc hd),hC⟩
     ·simp [Instr.indexAt,asIntOf,run_underlying fD,h0,Pz,l4 fW,lI]
     ·have:=hS z.toNat j aN (by rw[hk]at hj;exact hj);exact⟨this.1,this.2.1⟩
    ·exact h.elim
   ·exact h.elim
 ·split at h
  ·rename_i m e k b off z hT hz
   obtain⟨h0,aN,hC⟩:=h;obtain⟨fD,fW⟩:=P9 hT;obtain⟨kz,rfl⟩:=hv.int hz;cases hu with
   |ptr _ _ hb=>
    refine⟨_,_,?_, .ptr b (off+z.toNat*k) hb,hC⟩;simp [Instr.indexAt,Instr.sureAddr,asIntOf,run_underlying fD,h0,aN,l4 fW,lI]
  ·rename_i m e k xs i' off z hT hz
   obtain⟨jH,h0,aN,h9⟩:=bO.1 h;rw[beq_iff_eq]at jH;subst jH;obtain⟨fD,fW⟩:=P9 hT;obtain⟨kz,rfl⟩:=hv.int hz;split at h9
   ·rename_i c hc
    split at h9
    ·rename_i d hd
     cases hu with
     |bj _ _ _ b o us c' fR hS l8=>
      rw[hc]at fR;cases fR
      have ahC:=(aor.1 hd).1;refine⟨_, .bj [[d]] 0 0,?_, .bj [[d]] 0 0 b (o+(off+z.toNat)) (λ_=>us (off+z.toNat)) [d] rfl (λj hj=> ?_) (λj d' iM=> ?_),h9⟩
      ·simp [Instr.indexAt,Instr.sureAddr,asIntOf,run_underlying fD,h0,aN,l4 fW,lI,Nat.add_assoc]
      ·simp at hj;subst hj;exact hS _ ahC
      ·match j with
       |0=>simp at iM;subst iM;exact l8 _ _ hd
       |j+1=>simp at iM
    ·exact h9.elim
   ·exact h9.elim
  ·exact h.elim
theorem se{T:Nat}(h:iu P T=true):P.underlying T=some .string:=by
 unfold iu at h;split at h
 ·assumption
 ·cases h
theorem ang{T:Nat}{x:AV}{u:apj}{ty:Nat}{C:Nat->Prop}(hu:aF G w u x)(h:rS P T x C):∃m:Nat,(Builtin.len_ #[T] ty #[u]).run P w= .ok (.int .i64 m) w/\C m:=by
 have UL:∀(A:aph Addr)(l c:Nat),(eY P T).isSome=true->(Builtin.len_ #[T] ty #[.slice A l c]).run P w= .ok (.int .i64 l) w:=by
  intro A l c hT;obtain⟨⟨e,k⟩,hT⟩:=Option.isSome_iff_exists.1 hT;simp [Builtin.len_,run_underlying (j8 hT).1,goInt]
 unfold rS at h;split at h
 ·rename_i b
  have:=hu.val;subst this;obtain⟨hT,hC⟩:=bO.1 h;exact⟨b.size,by simp [Builtin.len_,run_underlying (se hT),goInt],hC⟩
 ·cases hu with
  |row=>exact⟨_,UL _ _ _ (bO.1 h).1,(bO.1 h).2⟩
 ·split at h
  ·rename_i xs lT
   obtain⟨A,b,o,c,k,us,rfl,_⟩:=(hu.list lT).qh;exact⟨_,UL _ _ _ (bO.1 h).1,(bO.1 h).2⟩
  ·exact h.elim
def BU(a:Act)(x:aph Operand)(d m:Nat):Prop:=match x with|none=>m=d|some y=>∃k z,a.eval y= .int k z/\0<=z/\m=z.toNat
theorem tZ{x:aph Operand}{d:Nat}{C:Nat->Prop}(hs:cV G w a s)(h:jW (ev s) x d C):∃m,C m/\BU a x d m:=by
 cases x with
 |none=>exact⟨_,h,rfl⟩
 |some y=>
  unfold jW at h;simp only at h;split at h
  ·rename_i z hz
   obtain⟨k,hk⟩:=(hs.ev y).int hz;exact⟨_,h.2,k,z,hk,h.1,rfl⟩
  ·exact h.elim
theorem Ar{k:IntKind}{z:Int}{y:Nat}{code:BoundsCode}(h0:0<=z)(h:z.toNat<=y)(w:apk):(Instr.sliceBound (.int k z) y code).run P w= .ok z.toNat w:=by
 have:z<=(y:Int):=by omega
 simp [Instr.sliceBound,asIntOf,h0,this]
theorem Eg{lo hi:aph Operand}{len cap l h:Nat}{AJ:Bool}(kC:BU a lo 0 l)(rl:BU a hi len h)(hl:l<=h)(hh:h<=cap)(w:apk):
 (Instr.sliceBounds AJ len cap (lo.map a.eval) (hi.map a.eval) none).run P w= .ok (l,h,cap) w:=by
 unfold BU at kC rl;cases lo with
 |none=>
  subst kC;cases hi with
  |none=>subst rl;simp [Instr.sliceBounds]
  |some y=>
   obtain⟨k,z,e,h0,rfl⟩:=rl;simp [Instr.sliceBounds,e,Ar h0 hh]
 |some x=>
  obtain⟨k',z',e',Z6,rfl⟩:=kC;cases hi with
  |none=>subst rl;simp [Instr.sliceBounds,e',Ar Z6 hl]
  |some y=>
   obtain⟨k,z,e,h0,rfl⟩:=rl;simp [Instr.sliceBounds,e,e',Ar h0 hh,Ar Z6 hl]
theorem dh.part{S:Nat->Nat->Prop}{v:apj}{xs:apf (apf D)}{k:Nat}(hp:dh S w v (.sl xs))(hk:∀c∈xs,c.length=k){l h:Nat}(hl:l<=h)(hh:h<=xs.length):
 ∃A c,v= .slice A xs.length c/\xs.length<=c/\dh S w (.slice (if c=l then A else A.map (·.add (l*k))) (h-l) (c-l)) (.sl ((xs.take h).drop l)):=by
 obtain⟨A,b,o,c,k',us,rfl,hA,ln,wq,gL,hS,l8⟩:=hp.qh;refine⟨A,c,rfl,ln,?_⟩;have hlen:((xs.take h).drop l).length=h-l:=by simp;omega
 rw[<-hlen];by_cases hx:xs=[]
 ·subst hx;have e:((([]:apf (apf D)).take h).drop l)=[]:=by simp
  rw[e];exact .sl _ 0 0 (c-l) 0 [] (λ_ _=>undef) (λh=>absurd rfl h) (Nat.zero_le _) (by omega) (λ_ h=>by cases h) (λi j hi=>by simp at hi) (λi j x d hx=>by simp at hx)
 ·have ek:k'=k:=by
   obtain⟨x,kP⟩:=List.exists_mem_of_ne_nil xs hx;rw[<-gL x kP,hk x kP]
  subst ek;have e9:∀i,i<h-l->((xs.take h).drop l)[i]?=xs[l+i]?:=λi hi=>by
   rw[List.getElem?_drop,List.getElem?_take_of_lt (by omega)]
  refine .sl _ b (o+l*k') (c-l) k' _ (λi j=>us (l+i) j) (λcE=> ?_) (by rw[hlen];omega) (by omega) (λx hx=>hk x (List.mem_of_mem_take (List.mem_of_mem_drop hx))) (λi j hi hj=> ?_) (λi j x d hx hd=> ?_)
  ·have GR:0<((xs.take h).drop l).length:=List.length_pos_iff.2 cE;rw[hlen]at GR;rw[if_neg (by omega),hA hx];simp [lI]
  ·rw[hlen]at hi;have:=hS (l+i) j (by omega) hj;rw[Nat.add_mul,<-Nat.add_assoc]at this;exact this
  ·have hi:=(aor.1 hx).1;rw[hlen]at hi;rw[e9 i hi]at hx;exact l8 _ _ _ _ hx hd
theorem ae5{T:Nat}{x:AV}{u:apj}{lo hi mx:aph Operand}{C:AV->Prop}(hs:cV G w a s)(hu:aF G w u x)(h:vn P T (ev s) x lo hi mx C):
 ∃p y,(Instr.sliceAt T u (lo.map a.eval) (hi.map a.eval) (mx.map a.eval)).run P w= .ok p w/\aF G w p y/\C y:=by
 unfold vn at h;split at h
 ·split at h
  ·rename_i b
   obtain⟨hT,h⟩:=bO.1 h;have hT:=se hT;have:=hu.val;subst this;obtain⟨m,h,hm⟩:=tZ hs h;obtain⟨vC,h⟩:=h;obtain⟨l,h,hl⟩:=tZ hs h;obtain⟨sO,h⟩:=h;refine⟨_,_,?_, .d (.v _),h⟩;have hb:=Eg (P:=P) (AJ:=false) hl hm sO vC w;simp [Instr.sliceAt,Instr.slice,run_underlying hT,hb]
  ·rename_i m off
   split at h
   ·rename_i c e k hT
    rw[bO,da]at h;obtain⟨wq,h⟩:=h;have wq:c<=maxLen:=by unfold maxLen;omega
    obtain⟨fD,fW⟩:=P9 hT;obtain⟨hh,h,hm⟩:=tZ hs h;obtain⟨vC,h⟩:=bO.1 h;rw[da]at vC;obtain⟨l,h,hl⟩:=tZ hs h;obtain⟨sO,h⟩:=bO.1 h;simp only[aot,da,Bool.not_eq_true',<-Bool.not_eq_true,Nat.not_le]at sO;obtain⟨sO,ln⟩:=sO;have hb:=Eg (P:=P) (AJ:=false) hl hm sO vC w;cases hu with
    |ptr _ _ wF=>
     refine⟨_,_,?_, .row m (off+l*k) (hh-l) (c-l) k wF (by omega) (by omega),h⟩;simp [Instr.sliceAt,Instr.sureAddr,run_underlying fD,hb,l4 fW,lI,Nat.ne_of_gt ln]
   ·exact h.elim
  ·split at h
   ·rename_i xs e k lT hT
    obtain⟨hk,h⟩:=h;obtain⟨fD,fW⟩:=j8 hT;obtain⟨hh,h,hm⟩:=tZ hs h;obtain⟨vC,h⟩:=h;obtain⟨l,h,hl⟩:=tZ hs h;obtain⟨sO,h⟩:=h;obtain⟨A,c,rfl,ln,hp⟩:=(hu.list lT).part hk sO vC;have hb:=Eg (P:=P) (AJ:=true) hl hm sO (aoJ vC ln) w;refine⟨_,_,?_, .d hp,h⟩;simp [Instr.sliceAt,Instr.slice,run_underlying fD,hb,l4 fW]
   ·exact h.elim
 ·rename_i y
  split at h
  case h_2=>exact h.elim
  rename_i yh
  split at h
  ·rename_i xs e k lT hT
   obtain⟨hk,h⟩:=h;obtain⟨fD,fW⟩:=j8 hT;obtain⟨c',h3,hc⟩:=tZ hs h;obtain⟨gr,h3⟩:=h3;obtain⟨hh,h4,hm⟩:=tZ hs h3;obtain⟨rfl,h5⟩:=h4;clear h h3;obtain⟨k1,z1,e1,p1,q1⟩:=hc;obtain⟨k2,z2,e2,p2,q2⟩:=hm;obtain⟨A,c,rfl,ln,hp⟩:=(hu.list lT).part hk (Nat.zero_le hh) gr;have hp':dh G.S w (.slice A hh hh) (.sl (xs.take hh)):=by
    have J:(if c=0 then A else A.map (·.add (0*k)))=A:=by
     split
     ·rfl
     ·cases A<;>simp [Addr.add]
    rw[J,ao0]at hp;obtain⟨A',b,o,c2,k',us,e,r1,r2,r3,r4,r5,r6⟩:=hp.qh;have hl:(xs.take hh).length=hh:=by simp;omega
    injection e with eA e3 e4;subst eA;have:=dh.sl (S:=G.S) (w:=w) A b o hh k' (xs.take hh) us r1 (by omega) (by omega) r4 r5 r6
    rwa [hl]at this
   refine⟨.slice A hh hh, .full (xs.take hh),?_, .full _ hp' ⟨A,by simp;omega⟩,h5⟩;have b1:(Instr.sliceBound (.int k1 z1) c .slice3Acap).run P w= .ok hh w:=by rw[Ar p1 (by omega),q1]
   have b2:(Instr.sliceBound (.int k2 z2) hh .slice3B).run P w= .ok hh w:=by rw[Ar p2 (by omega),<-q2]
   simp only[Option.map_some,Option.map_none,e1,e2];have hA:A.map (·.add 0)=A:=by cases A<;>simp [Addr.add]
   simp [Instr.sliceAt,Instr.slice,Instr.sliceBounds,run_underlying fD,b1,b2,l4 fW,hA]
  ·exact h.elim
theorem JP:∀{cs:apf AV}{ds:apf D},mW cs=some ds->ds.length=cs.length/\∀(i:Nat)(c:AV)(d:D),cs[i]?=some c->ds[i]?=some d->c.wU=some d
 |[],ds,h=>by simp [mW]at h;subst h;simp
 |c::cs,ds,h=>by
  unfold mW at h;split at h
  ·rename_i d l hd hl
   cases h
   obtain⟨J,h2⟩:=JP hl;refine⟨by simp [J],λi c' d' hc iM=> ?_⟩
   match i with
   |0=>simp at hc iM;subst hc;subst iM;exact hd
   |i+1=>exact h2 i c' d' (by simpa using hc) (by simpa using iM)
  ·cases h
theorem dh.ua{S:Nat->Nat->Prop}{w:apk}{u:apj}{x:D}(h:dh S w u x):dh S w u x.ua:=by
 unfold D.ua;split
 ·cases h with
  |v=>exact .sl none 0 0 0 0 [] (λ_ _=>undef) (λh=>absurd rfl h) (aoC _) (Nat.zero_le _) (λ_ h=>absurd h ao7) (λi j hi=>absurd hi (aoT _)) (λi j x d hx=>by simp at hx)
 ·exact h
theorem aF.Io{u:apj}{x:AV}{d:D}(h:aF G w u x)(hx:x.wU=some d):dh G.S w u d:=by
 unfold AV.wU at hx;split at hx
 ·cases hx;cases h with|d h=>exact h.ua
 ·cases hx;cases h with|own _ _ _ h=>exact h
 ·cases hx;cases h with|full _ h=>exact h
 ·cases hx
theorem rK(k:Nat):∀(m:Nat)(l:apf D),(n8 k m l).length=m
 |0,_=>rfl
 |m+1,l=>by simp [n8,rK k m]
theorem MA(k:Nat):∀(m:Nat)(l:apf D)(i:Nat),i<m->(n8 k m l)[i]?=some ((l.drop (i*k)).take k)
 |0,_,_,h=>by omega
 |m+1,l,0,_=>by simp [n8]
 |m+1,l,i+1,h=>by
  have:=MA k m (l.drop k) i (by omega);rw[n8,ao2,this,List.drop_drop,Nat.add_mul,Nat.one_mul,Nat.add_comm k]
theorem U6{k m:Nat}{us:apf apj}{ds:apf D}(hl:ds.length=m*k)(hu:us.length=m*k)(J:∀u∈us,u.oneCell'=true)
 (hr:∀(i:Nat)(u:apj)(d:D),us[i]?=some u->ds[i]?=some d->dh G.S w u d):Rd G.S w k (n8 k m ds) us:=by
 have hb:∀i,i<m->(i+1)*k<=m*k:=λi hi=>Nat.mul_le_mul_right k hi;refine⟨by rw[rK,hu],λx hx=> ?_,J,λi j x d hx hd=> ?_⟩
 ·obtain⟨i,hi⟩:=List.mem_iff_getElem?.1 hx;have GX:i<m:=by have:=(aor.1 hi).1;rwa [rK]at this
  rw[MA k m ds i GX]at hi;cases hi
  have:=hb i GX;rw[Nat.add_mul]at this;simp;omega
 ·have GX:i<m:=by have:=(aor.1 hx).1;rwa [rK]at this
  rw[MA k m ds i GX]at hx;cases hx
  rw[List.getElem?_take]at hd;split at hd
  ·rw[List.getElem?_drop]at hd;have:=(aor.1 hd).1;have aN:i*k+j<us.length:=by omega
   exact⟨us[i*k+j],aov aN,hr _ _ _ (aov aN) hd⟩
  ·cases hd
theorem air{k U e':Nat}{y:AV}{v:apj}{C:apf (apf D)->Prop}(hi:bN G w s.h)(hv:aF G w v y)(hk:0<k)(hU:P.underlying U=some (.slice e'))(h:uP s.h k y C):
 ∃ys us,Rd G.S w k ys us/\Src P k U v ys.length us w/\C ys:=by
 unfold uP at h;split at h
 ·rename_i m off len cap k'
  split at h
  ·rename_i cs hm
   split at h
   ·rename_i ds qX
    obtain⟨fB,hC⟩:=bO.1 h;simp only[aot,beq_iff_eq,da]at fB;obtain⟨⟨rfl,hlen⟩,jq⟩:=fB;obtain⟨J,h2⟩:=JP qX;obtain⟨_,_,vs,T,hh,hl,hr⟩:=hi.c7 m _ hm;cases hv with
    |row _ _ _ _ _ wF ln pG=>
     have zf:ds.length=len*k':=by rw[J];simp;omega
     have oB:((vs.toList.drop off).take (len*k')).length=len*k':=by simp;omega
     have zT:∀(i:Nat)(u:apj)(c:AV),((vs.toList.drop off).take (len*k'))[i]?=some u->((cs.drop off).take (len*k'))[i]?=some c->aF G w u c:=λi u c hu hc=>by
      rw[List.getElem?_take]at hu hc;split at hu
      ·rename_i l7
       rw[if_pos l7]at hc;rw[List.getElem?_drop]at hu hc;exact hr _ u c (by rw[<-aoO];exact hu) hc
      ·cases hu
     have gr:((cs.drop off).take (len*k')).length=len*k':=by simp;omega
     have XD:∀u∈(vs.toList.drop off).take (len*k'),u.oneCell'=true:=λu hu=>by
      obtain⟨i,hi⟩:=List.mem_iff_getElem?.1 hu;have jR:i<len*k':=by rw[<-oB];exact(aor.1 hi).1
      have CE:=aov (l:=(cs.drop off).take (len*k')) (i:=i) (by rw[gr];exact jR);exact(zT i u _ hi CE).kh (aoR.1 jq _ (aoE CE))
     have xr:=U6 (G:=G) (w:=w) (k:=k') (m:=len) zf oB XD (λi u d hu hd=>by
      have jR:i<len*k':=by rw[<-oB];exact(aor.1 hu).1
      have CE:=aov (l:=(cs.drop off).take (len*k')) (i:=i) (by rw[gr];exact jR);exact(zT i u _ hu CE).Io (h2 i _ d CE hd))
     refine⟨_,_,xr,?_,hC⟩;rw[rK];refine Src.ofSlice w hU _ len cap _ oB (λj u hu=> ?_) XD;rw[List.getElem?_take]at hu;split at hu
     ·rw[List.getElem?_drop,aoO]at hu;rw[lI,cell_of_row w _ _ vs T (0,0) hh];exact hu
     ·cases hu
   ·exact h.elim
  ·exact h.elim
 ·split at h
  ·rename_i ys jO
   obtain⟨us,J,h2⟩:=(hv.list jO).src (P:=P) hk h.1 hU;exact⟨ys,us,J,h2,h.2⟩
  ·exact h.elim
theorem CF:dh G.S w (.slice none 0 0) (.sl []):=
 .sl none 0 0 0 0 [] (λ_ _=>undef) (λh=>absurd rfl h) (aoC _) (by simp) (λ_ h=>by cases h) (λi j hi=>by simp at hi) (λi j x d hx=>by simp at hx)
theorem aiP(h:apf aq)(x y:aq):(h++[x]).set h.length y=h++[y]:=by simp
theorem alZ{T U ty e':Nat}{x y:AV}{u v:apj}{C:AV->apf aq->Prop}(hi:bN G w s.h)(hu:aF G w u x)(hv:aF G w v y)(hU:P.underlying U=some (.slice e'))(h:vx P T s.h x y C):
 ∃p w' G' q h',(Builtin.append_ #[T,U] ty #[u,v]).run P w= .ok p w'/\bM G.N G w G' w'/\G.N<=G'.N/\bN G' w' h'/\aF G' w' p q/\C q h':=by
 unfold vx at h;split at h
 ·rename_i e k hT
  obtain⟨fD,fW⟩:=j8 hT;split at h
  ·rename_i z cW hz po
   obtain⟨fB,h⟩:=bO.1 h;simp only[aot,beq_iff_eq,da,aoY]at fB;obtain⟨hk,kt⟩:=fB;obtain⟨i,j5,kI,J0⟩:=QU fW po;have Xi:i.zero=some z:=by
    obtain⟨i',J,h2⟩:=Lv hz;rw[j5]at J;cases J;exact h2
   obtain⟨ys,us,hr,hs,h2⟩:=air hi hv hk hU h;clear h;have fresh:∀(xs:apf (apf D)),dh G.S w u (.sl xs)->(∃A,u= .slice A xs.length xs.length)->(∀c∈xs,c.length=k)->xs.length+ys.length<=maxLen->(xs.length+ys.length)*cW<=140737488355328->
    C (.own s.h.length (xs++ys)) (s.h++[.front e k (xs.length+ys.length)])->
    ∃p w' G' q h',(Builtin.append_ #[T,U] ty #[u,v]).run P w= .ok p w'/\bM G.N G w G' w'/\G.N<=G'.N/\bN G' w' h'/\aF G' w' p q/\C q h':=by
    intro xs hp hf nG hm hb hC;obtain⟨a1,a2,a3,a4⟩:=PO hi hp hf e k;obtain⟨p,w',G',r1,r2,r3,r4,r5⟩:=Yc (P:=P) (ty:=ty) a3 fD j5 Xi kI J0 kt hk (n:=s.h.length) (xs:=xs) (ys:=ys) (by simp) a4 nG (hr.keep a1.S a1.cell) hs hm hb;rw[aiP]at r4;exact⟨p,w',G',_,_,r1,a1.trans (r2.less a2),aoJ a2 r3,r4,r5,hC⟩
   split at h2
   ·rename_i m xs
    split at h2
    ·rename_i e2 k2 len hm
     obtain⟨fB,rfl,nG,pG,hb,hC⟩:=bO.1 h2;simp only[aot,beq_iff_eq]at fB;obtain⟨rfl,rfl⟩:=fB;obtain⟨p,w',G',r1,r2,r3,r4,r5⟩:=Yc (P:=P) (ty:=ty) hi fD j5 Xi kI J0 kt hk hm hu nG hr hs pG hb;exact⟨p,w',G',_,_,r1,r2,r3,r4,r5,hC⟩
    ·exact h2.elim
   ·have:=hu.val;subst this;obtain⟨pG,hb,hC⟩:=h2;exact fresh [] CF ⟨none,rfl⟩ (λ_ h=>by cases h) (by simpa using pG) (by simpa using hb) (by simpa using hC)
   ·rename_i xs
    obtain⟨nG,pG,hb,hC⟩:=h2;cases hu with
    |full _ hp hf=>exact fresh xs hp hf nG pG hb hC
   ·exact h2.elim
  ·exact h.elim
 ·exact h.elim
end
theorem abW(off:Nat):∀(l:apf apj)(k:Nat)(cs:Array apj),((l.zipIdx k).foldl (λcs(p:apj×Nat)=>cs.setIfInBounds (off+p.2) p.1) cs).size=cs.size/\
 ∀i,off+k+l.length<=cs.size->((l.zipIdx k).foldl (λcs(p:apj×Nat)=>cs.setIfInBounds (off+p.2) p.1) cs)[i]?=if off+k<=i/\i<off+k+l.length then l[i-(off+k)]? else cs[i]?
 |[],k,cs=>⟨rfl,λi _=>by
    have h:¬(off+k<=i/\i<off+k+([]:apf apj).length):=by simp
    rw[if_neg h];rfl⟩
 |u::l,k,cs=>by
  obtain⟨J,h2⟩:=abW off l (k+1) (cs.setIfInBounds (off+k) u);simp only[List.zipIdx_cons,List.foldl_cons];refine⟨by rw[J];simp,λi hi=> ?_⟩;simp only[aou]at hi ⊢;rw[h2 i (by simp;omega)];by_cases ha:off+(k+1)<=i/\i<off+(k+1)+l.length
  ·rw[if_pos ha,if_pos ⟨by omega,by omega⟩];rw[show i-(off+k)=i-(off+(k+1))+1 by omega,ao2]
  ·rw[if_neg ha];by_cases hb:i=off+k
   ·subst hb;rw[if_pos ⟨aoC _,by omega⟩,Nat.sub_self,List.getElem?_cons_zero,Array.getElem?_setIfInBounds_self_of_lt (by omega)]
   ·rw[if_neg (by omega),Array.getElem?_setIfInBounds_ne (Ne.symm hb)]
section
variable {P:api} {G:Gh} {w:apk}
structure Row(G:Gh)(w:World)(vs:Array Value)(cs:List AV):Prop where
 len:vs.size=cs.length
 rel:∀(i:Nat)(u:Value)(c:AV),vs[i]?=some u->cs[i]?=some c->aF G w u c
 one:∀(i:Nat)(u:Value),vs[i]?=some u->u.oneCell'=true
theorem acs{vs us:Array apj}{cs ys:apf AV}(h:Row G w vs cs)(h':Row G w us ys){off:Nat}(hb:off+ys.length<=cs.length):
 Row G w (us.zipIdx.foldl (λcs(p:apj×Nat)=>cs.setIfInBounds (off+p.2) p.1) vs) (iW cs off ys):=by
 have e:us.zipIdx.foldl (λcs(p:apj×Nat)=>cs.setIfInBounds (off+p.2) p.1) vs=(us.toList.zipIdx 0).foldl (λcs(p:apj×Nat)=>cs.setIfInBounds (off+p.2) p.1) vs:=by
  rw[<-Array.foldl_toList,Array.toList_zipIdx]
 obtain⟨J,h2⟩:=abW off us.toList 0 vs;rw[<-e]at J h2;have hl:us.toList.length=ys.length:=by rw[aoY,h'.len]
 have hle:off+0+us.toList.length<=vs.size:=by rw[hl,h.len];omega
 have hs:∀i,(iW cs off ys)[i]?=if off+0<=i/\i<off+0+us.toList.length then ys[i-off]? else cs[i]?:=λi=>by
  unfold iW;rw[aoI];by_cases ha:i<off
  ·rw[aoB (by simp;omega),List.getElem?_take_of_lt ha,if_neg (by omega)]
  ·rw[aoH (by simp;omega)];simp only[List.length_take];rw[Nat.min_eq_left (by omega)];by_cases hb:i-off<ys.length
   ·rw[aoB hb,if_pos (by omega)]
   ·rw[aoH (by omega),List.getElem?_drop,if_neg (by omega),show off+ys.length+(i-off-ys.length)=i by omega]
 refine⟨by rw[J,D9 _ _ _ hb,h.len],λi u c hu hc=> ?_,λi u hu=> ?_⟩
 ·rw[h2 i hle]at hu;rw[hs]at hc;split at hu
  ·rename_i hp
   rw[if_pos hp]at hc;exact h'.rel _ _ _ (by rw[<-aoO];exact hu) hc
  ·rename_i hp
   rw[if_neg hp]at hc;exact h.rel _ _ _ hu hc
 ·rw[h2 i hle]at hu;split at hu
  ·exact h'.one _ _ (by rw[<-aoO];exact hu)
  ·exact h.one _ _ hu
theorem aF.Yy{u:apj}{x:AV}(h:aF G w u x)(hb:x.jS=true):Row G w u.cells x.cells:=by
 obtain⟨J,h2⟩:=h.cells hb;refine⟨J,λi v c hv hc=>(h2 i v c hv hc).1,λi v hv=> ?_⟩;have aN:i<x.cells.length:=by rw[<-J];exact(aoG.1 hv).1
 exact(h2 i v _ hv (aov aN)).2
theorem PC(place:Nat->aph (Nat×Nat))(places:apf (Nat×Nat))(hp:∀i pl,places[i]?=some pl->place i=some pl):∀(ps:apf (Nat×AV))(qs:apf (Nat×apj))(cs cB:apf AV)(vs:Array apj),Row G w vs cs->
 qs.length=ps.length->(∀(i:Nat)(p:Nat×AV)(q:Nat×apj),ps[i]?=some p->qs[i]?=some q->q.1=p.1/\aF G w q.2 p.2)->(ps.all λp=>p.2.jS)=true->pH places cs ps=some cB->
 ∃fS,Instr.fill place vs qs=some fS/\Row G w fS cB
 |[],[],cs,cB,vs,h,_,_,_,hf=>by
  simp only[pH,Option.some.injEq]at hf;subst hf;exact⟨vs,rfl,h⟩
 |[],_::_,_,_,_,_,hl,_,_,_=>by simp at hl
 |_::_,[],_,_,_,_,hl,_,_,_=>by simp at hl
 |(j,x)::ps,(j',u)::qs,cs,cB,vs,h,hl,hr,hb,hf=>by
  obtain⟨e1,e2⟩:=hr 0 (j,x) (j',u) rfl rfl;simp only at e1 e2;subst e1;simp only[apb,aot]at hb;unfold pH at hf;split at hf
  ·rename_i off k CA
   rw[cond_eq_ite]at hf;split at hf
   ·rename_i hc
    simp only[aot,beq_iff_eq,da]at hc;have o6:=e2.Yy hb.1;obtain⟨fS,J,h2⟩:=PC place places hp ps qs _ cB _ (acs h o6 (by rw[hc.1];exact hc.2)) (by simpa using hl) (λi p q hp hq=>hr (i+1) p q (by simpa using hp) (by simpa using hq)) hb.2 hf;refine⟨fS,?_,h2⟩;unfold Instr.fill;rw[hp _ _ CA];have h3:¬(u.cells.size≠k||decide (off+u.cells.size>vs.size))=true:=by
     rw[o6.len,hc.1,h.len];simp;exact hc.2
    simp only[h3];exact J
   ·cases hf
  ·cases hf
theorem ab5{z:Array apj}(h:z.toList.all Value.oneCell'=true):z.all (·.oneCell')=true:=by
 rw[aoR]at h;exact Array.all_eq_true_iff_forall_mem.2 λu hu=>h u (Array.mem_toList_iff.2 hu)
theorem aep(z:apj)(h:z.cells.all (·.oneCell')=true):Row G w z.cells (z.cells.toList.map λu=> .d (.v u)):=by
 refine⟨by simp,λi u c hu hc=> ?_,λi u hu=>Array.all_eq_true_iff_forall_mem.1 h u (Array.mem_of_getElem? hu)⟩;rw[aoy,aoO,hu]at hc;cases hc
 exact .d (.v u)
theorem Va:∀(fs:apf Field)(ps:apf (Nat×Nat))(w:apk),Ff P fs=some ps->(fs.mapM (m:=Sem) λf=>do pure (f.offset,<-sizeOf f.type)).run P w= .ok ps w
 |[],ps,w,h=>by simp [Ff]at h;subst h;simp
 |f::fs,ps,w,h=>by
  unfold Ff at h;simp only[List.mapM_cons,Option.bind_eq_bind,Option.bind_eq_some_iff,Option.map_eq_some_iff,Option.pure_def,Option.some.injEq]at h;obtain⟨p,⟨k,hk,rfl⟩,qs,hq,rfl⟩:=h;have ih:=Va fs qs w hq;simp only[List.mapM_cons,Sem.run_bind,l4 hk,Sem.run_pure,Result.andThen_ok,ih]
theorem aiu{T:Nat}{ps:apf (Nat×AV)}{qs:Array (Nat×apj)}{C:AV->Prop}(hl:qs.toList.length=ps.length)
 (hr:∀(i:Nat)(p:Nat×AV)(q:Nat×apj),ps[i]?=some p->qs.toList[i]?=some q->q.1=p.1/\aF G w q.2 p.2) (h:yd P T ps C):∃u y,(Instr.build T qs).run P w= .ok u w/\aF G w u y/\C y:=by
 unfold yd at h;split at h
 ·rename_i places z Lo hz
  obtain⟨fs,hT,CA⟩:∃fs,P.underlying T=some (.struct fs)/\Ff P fs.toList=some places:=by
   unfold RE at Lo;split at Lo
   ·exact⟨_,by assumption,Lo⟩
   ·cases Lo
  ·split at h
   ·rename_i cs hf
    obtain⟨fB,hC⟩:=bO.1 h;simp only[aot]at fB;obtain⟨hb,jq⟩:=fB;have jq:=ab5 jq;have my:(fs.mapM (m:=Sem) λf=>do pure (f.offset,<-sizeOf f.type)).run P w= .ok places.toArray w:=by
     rw[Array.mapM_eq_mapM_toList];have:=Va fs.toList places w CA;have e:(Functor.map List.toArray (fs.toList.mapM (m:=Sem) λf=>do pure (f.offset,<-sizeOf f.type)):Sem _)=(fs.toList.mapM (m:=Sem) λf=>do pure (f.offset,<-sizeOf f.type))>>=λl=>pure l.toArray:=rfl;rw[e,Sem.run_bind,this];rfl
    obtain⟨fS,J,h2⟩:=PC (λi=>places.toArray[i]?) places (λi pl h=>by simpa using h) ps qs.toList _ cs z.cells (aep (G:=G) (w:=w) z jq) hl hr hb hf;refine⟨.agg fS, .agg cs,?_, .agg fS cs h2.len h2.rel,hC⟩;unfold Instr.build;simp only[Sem.run_bind,Dq hz,Result.andThen_ok,run_underlying hT,my,J,Sem.run_pure]
   ·exact h.elim
 ·exact h.elim
theorem Vs{T:Nat}(h:zP P T=true):P.underlying T=some .bool:=by
 unfold zP at h;split at h
 ·assumption
 ·cases h
theorem J5{T:Nat}{k:IntKind}(h:qS P T=some k):P.underlying T=some (.int k):=by
 unfold qS at h;split at h
 ·cases h;assumption
 ·cases h
theorem Vl{t off:Nat}{vs:Array apj}{u:apj}(ha:mJ P t=some false)(hu:vs[off]?=some u):(part t vs off).run P w= .ok u w:=by
 unfold part;rw[Sem.run_bind,EL ha w];simp [hu]
theorem aei{t:Nat}{u v:apj}{x y:AV}{b:Bool}(d:Nat)(hu:aF G w u x)(hv:aF G w v y)(h:Cd P t x y=some b):(Op.equalIn (d+1) t u v).run P w= .ok b w:=by
 unfold Cd at h;split at h
 ·have e1:=hu.val;have e2:=hv.val;subst e1;subst e2
  rename_i k a k' b'
  cases hc:xc k k'&&(qS P t).isSome with
  |false=>rw[hc]at h;cases h
  |true=>
   rw[hc]at h;cases h;rw[aot,Qo]at hc;obtain⟨rfl,hc⟩:=hc;obtain⟨k2,hk⟩:=Option.isSome_iff_exists.1 hc;exact run_equalIn_int w d t k k2 a b' (J5 hk)
 ·have e1:=hu.val;have e2:=hv.val;subst e1;subst e2;cases hc:iu P t with
  |false=>rw[hc]at h;cases h
  |true=>rw[hc]at h;cases h;rw[<-Sw,<-Sw];exact run_equalIn_string w d t _ _ (se hc)
 ·have e1:=hu.val;have e2:=hv.val;subst e1;subst e2;cases hc:zP P t with
  |false=>rw[hc]at h;cases h
  |true=>rw[hc]at h;cases h;exact run_equalIn_bool w d t _ _ (Vs hc)
 ·cases h
theorem adb{t off k:Nat}{vs:Array apj}(ha:mJ P t=some true)(hk:gh P t=some k):(part t vs off).run P w= .ok (.agg (vs.extract off (off+k))) w:=by
 unfold part;rw[Sem.run_bind,EL ha w];simp [l4 hk]
theorem ZM{us:Array apj}{xs:apf AV}{off k:Nat}(hx:us.size=xs.length)(hb:off+k<=xs.length)(hu:∀(i:Nat)(u:apj)(c:AV),us[i]?=some u->xs[i]?=some c->aF G w u c):
 (us.extract off (off+k)).size=((xs.drop off).take k).length/\∀(i:Nat)(u:apj)(c:AV),(us.extract off (off+k))[i]?=some u->((xs.drop off).take k)[i]?=some c->aF G w u c:=by
 refine⟨by simp;omega,λi u c J h2=> ?_⟩;rw[List.getElem?_take]at h2;split at h2
 ·next hi=>
  rw[List.getElem?_drop]at h2;rw[Array.getElem?_extract]at J;split at J
  ·exact hu _ _ _ J h2
  ·cases J
 ·cases h2
theorem G9{sub:TypeId->apf AV->apf AV->aph Bool}(d:Nat)
 (uf:∀(T:Nat)(us vs:Array apj)(xs ys:apf AV)(b:Bool),us.size=xs.length->vs.size=ys.length->(∀(i:Nat)(u:apj)(c:AV),us[i]?=some u->xs[i]?=some c->aF G w u c)->(∀(i:Nat)(u:apj)(c:AV),vs[i]?=some u->ys[i]?=some c->aF G w u c)->sub T xs ys=some b->(Op.equalIn (d+1) T (.agg us) (.agg vs)).run P w= .ok b w)
 {us vs:Array apj} {xs ys:apf AV} (hx:us.size=xs.length) (hy:vs.size=ys.length)
 (hu:∀(i:Nat)(u:apj)(c:AV),us[i]?=some u->xs[i]?=some c->aF G w u c) (hv:∀(i:Nat)(u:apj)(c:AV),vs[i]?=some u->ys[i]?=some c->aF G w u c):
 ∀(fs:apf Field)(b:Bool),AR P sub fs xs ys=some b->(Op.eqFields (d+1) us vs fs).run P w= .ok b w
 |[],b,h=>by cases h;simp [Op.eqFields]
 |f::fs,b,h=>by
  unfold AR at h;cases hn:f.name== "_" with
  |true=>rw[hn]at h;cases h
  |false=>
   rw[hn]at h;simp only[cond_false]at h;have cE:f.name≠ "_" :=by simpa using hn
   split at h
   ·next e1=>
    split at h
    ·next x y e2 e3=>
     split at h
     ·next a c e4 e5=>
      cases h
      have l1:f.offset<us.size:=by rw[hx];exact(aor.1 e2).1
      have l2:f.offset<vs.size:=by rw[hy];exact(aor.1 e3).1
      have g1:=aoN l1;have g2:=aoN l2;simp only[Op.eqFields,if_pos cE,Sem.run_bind,Vl (w:=w) e1 g1,Vl (w:=w) e1 g2,Result.andThen_ok,aei d (hu _ _ _ g1 e2) (hv _ _ _ g2 e3) e4];cases a with
      |true=>simp only[Bool.not_true,Bool.false_eq_true,if_false,Bool.true_and];exact G9 d uf hx hy hu hv fs c e5
      |false=>simp
     ·cases h
    ·cases h
   ·next e1=>
    split at h
    ·next k e2=>
     cases m8:cm (f.offset+k) xs.length&&cm (f.offset+k) ys.length with
     |false=>rw[m8]at h;cases h
     |true=>
      rw[m8]at h;rw[aot,da,da]at m8;simp only[cond_true]at h;split at h
      ·next a c e4 e5=>
       cases h
       obtain⟨p1,p2⟩:=ZM hx m8.1 hu;obtain⟨q1,q2⟩:=ZM hy m8.2 hv;simp only[Op.eqFields,if_pos cE,Sem.run_bind,adb (w:=w) e1 e2,Result.andThen_ok,uf _ _ _ _ _ a p1 q1 p2 q2 e4];cases a with
       |true=>simp only[Bool.not_true,Bool.false_eq_true,if_false,Bool.true_and];exact G9 d uf hx hy hu hv fs c e5
       |false=>simp
      ·cases h
    ·cases h
   ·cases h
theorem VL:∀(n d:Nat)(T:Nat)(us vs:Array apj)(xs ys:apf AV)(b:Bool),us.size=xs.length->vs.size=ys.length->(∀(i:Nat)(u:apj)(c:AV),us[i]?=some u->xs[i]?=some c->aF G w u c)->(∀(i:Nat)(u:apj)(c:AV),vs[i]?=some u->ys[i]?=some c->aF G w u c)->Hi P n T xs ys=some b->(Op.equalIn (d+n+1) T (.agg us) (.agg vs)).run P w= .ok b w
 |0,_,_,_,_,_,_,_,_,_,_,_,h=>by cases h
 |n+1,d,T,us,vs,xs,ys,b,hx,hy,hu,hv,h=>by
  unfold Hi at h;split at h
  ·next fs hT=>
   cases hc:P.stoodInHeld T with
   |true=>rw[hc]at h;cases h
   |false=>
    rw[hc]at h;have hf:P.fieldsOf T=fs:=by unfold Program.fieldsOf;rw[hT]
    rw[show d+(n+1)+1=(d+n+1)+1 by omega,run_equalIn_struct w (d+n+1) T us vs (by rw[hf];exact hT) hc,hf];exact G9 (d+n) (λT' Rw fS OP MZ b'=>VL n d T' Rw fS OP MZ b') hx hy hu hv _ b h
  ·cases h
theorem aks{T:Nat}{us vs:Array apj}{xs ys:apf AV}{b:Bool}(hx:us.size=xs.length)(hy:vs.size=ys.length)
 (hu:∀(i:Nat)(u:apj)(c:AV),us[i]?=some u->xs[i]?=some c->aF G w u c) (hv:∀(i:Nat)(u:apj)(c:AV),vs[i]?=some u->ys[i]?=some c->aF G w u c) (h:GD P T xs ys=some b):
 P.eqGuardType P.depth T=false/\(Op.equalIn 10000 T (.agg us) (.agg vs)).run P w= .ok b w:=by
 unfold GD at h;split at h
 ·next fs hT=>
  cases hc:P.stoodInHeld T||P.eqGuardType P.depth T with
  |true=>rw[hc]at h;cases h
  |false=>
   rw[hc]at h;rw[ape]at hc;refine⟨hc.2,?_⟩;have hf:P.fieldsOf T=fs:=by unfold Program.fieldsOf;rw[hT]
   rw[run_equalIn_struct w 9999 T us vs (by rw[hf];exact hT) hc.1,hf];exact G9 9998 (λT' Rw fS OP MZ b'=>VL 4 9994 T' Rw fS OP MZ b') hx hy hu hv _ b h
 ·cases h
theorem ajV{op:BinOp}{x y:AV}{u v:apj}{T:Nat}{X Y:Operand}{C:AV->Prop}(hu:aF G w u x)(hv:aF G w v y)(h:w6 P T op x y C):
 ∃r z,(do eqGuard op T X Y u v;binOp op T u v:Sem apj).run P w= .ok r w/\aF G w r z/\C z:=by
 unfold w6 at h;split at h
 ·rename_i k a k' b
  have e1:=hu.val;have e2:=hv.val;subst e1;subst e2;have hg:(eqGuard op T X Y (.int k a) (.int k' b)).run P w= .ok () w:=by unfold eqGuard;cases op<;>simp
  rw[Sem.run_bind,hg];simp only[Result.andThen_ok];split at h
  ·rename_i z hq
   obtain⟨ux,hp,hC⟩:=bO.1 h;rw[Qo]at ux;subst ux;refine⟨z,_,?_, .d (.v z),hC⟩;cases op<;>simp [P6]at hq<;>subst hq<;>simp [binOp,Op.intDiv,hp]
  ·split at h
   ·rename_i z hq
    refine⟨z,_,?_, .d (.v z),h.2⟩;have hb:¬b<0:=by omega
    cases op<;>simp [Pe]at hq<;>subst hq<;>simp [binOp,Op.shift,hb]
   ·split at h
    ·rename_i z hq
     obtain⟨ux,hC⟩:=bO.1 h;rw[Qo]at ux;subst ux;refine⟨z,_,?_, .d (.v z),hC⟩;cases op<;>simp [NX]at hq<;>subst hq<;>simp [binOp,Op.intArith,Op.intCmp,Op.intBits]
    ·exact h.elim
 ·rename_i a b
  have e1:=hu.val;have e2:=hv.val;subst e1;subst e2;have hg:(eqGuard op T X Y (.string a) (.string b)).run P w= .ok () w:=by unfold eqGuard;cases op<;>simp
  rw[Sem.run_bind,hg];simp only[Result.andThen_ok];split at h
  ·rename_i z hq
   refine⟨z,_,?_, .d (.v z),h⟩;cases op<;>simp [Qb]at hq<;>subst hq<;>simp [binOp,Op.stringOp,Sw]
  ·split at h
   ·refine⟨_,_,?_, .d (.v _),h.2⟩;have hm:¬(((a.size+b.size:Nat):Int)>IntKind.i64.max):=by
     have:=h.1;unfold maxLen at this;have e:IntKind.i64.max=9223372036854775807:=by decide
     rw[e];omega
    simp only[binOp,Op.stringOp];rw[if_neg hm];rfl
   ·exact h.elim
 ·rename_i a b
  have e1:=hu.val;have e2:=hv.val;subst e1;subst e2;have hg:(eqGuard op T X Y (.bool a) (.bool b)).run P w= .ok () w:=by unfold eqGuard;cases op<;>simp
  rw[Sem.run_bind,hg];simp only[Result.andThen_ok];split at h
  ·rename_i z hq
   obtain⟨hT,hC⟩:=bO.1 h;have hT:=Vs hT;refine⟨z,_,?_, .d (.v z),hC⟩;have hb:=run_equalIn_bool (P:=P) w 9999 T a b hT;cases op<;>simp [P5]at hq<;>subst hq<;>simp [binOp,Op.equal,Op.maxDepth,hb]
  ·exact h.elim
 ·rename_i xs ys
  cases hu with
  |agg us _ KQ Ct=>
   cases hv with
   |agg vs _ Bq Gs=>
    split at h
    ·next b hb=>
     obtain⟨hg,he⟩:=aks KQ Bq Ct Gs hb;rw[Sem.run_bind,run_eqGuard_agg w op T X Y us vs hg];simp only[Result.andThen_ok];split at h
     ·next z hz=>
      refine⟨z,_,?_, .d (.v z),h⟩;cases op<;>simp [wC]at hz<;>subst hz
      ·rw[run_eql_struct,he];rfl
      ·rw[run_neq_struct,he];rfl
     ·exact h.elim
    ·exact h.elim
 ·exact h.elim
theorem ann{op:UnOp}{x:AV}{u:apj}{C:AV->Prop}(hu:aF G w u x)(h:wX op x C):∃r z,(Op.unary op u).run P w= .ok r w/\aF G w r z/\C z:=by
 unfold wX at h;split at h
 ·rename_i v
  have e:=hu.val;subst e;split at h
  ·rename_i z hq
   refine⟨z,_,?_, .d (.v z),h⟩;unfold Il at hq;split at hq
   ·cases hq;simp [Op.unary]
   ·cases hq;simp [Op.unary,Op.intArith]
   ·cases hq;simp [Op.unary,Op.intBits]
   ·cases hq
  ·exact h.elim
 ·exact h.elim
theorem aeJ{T:Nat}(h:Dz P T=true):P.underlying T=some (.int .u8):=by
 unfold Dz at h;split at h
 ·assumption
 ·cases h
theorem ahr{a b:Nat}{x:AV}{u:apj}{C:AV->Prop}(hu:aF G w u x)(h:wW P a b x C):∃r z,(convert a b u).run P w= .ok r w/\aF G w r z/\C z:=by
 unfold wW at h;split at h
 ·rename_i k2 m
  have e:=hu.val;subst e;split at h
  ·rename_i k1 k J h2
   refine⟨_,_,?_, .d (.v _),h⟩;simp [convert,run_underlying (J5 J),run_underlying (J5 h2),Conv.intToInt]
  ·exact h.elim
 ·rename_i s
  have e:=hu.val;subst e;obtain⟨fB,hC⟩:=bO.1 h;rw[aot]at fB;refine⟨_,_,?_, .d (.v _),hC⟩;simp [convert,run_underlying (se fB.1),run_underlying (se fB.2)]
 ·split at h
  ·rename_i xs e k lT hT
   obtain⟨fB,ns,rfl,hC⟩:=bO.1 h;rw[aot]at fB;refine⟨_,_,?_, .d (.v _),hC⟩;obtain⟨A,bb,o,cc,k',us,rfl,hA,ln,wq,gL,hS,l8⟩:=(hu.list lT).qh;rw[run_convert_bytes_string w a b e A _ cc (j8 hT).1 (aeJ fB.1) (se fB.2)];simp only[aow]at hA ln hS ⊢;cases ns with
   |nil=>
    cases A with
    |none=>rfl
    |some ad=>
     have hl:=run_loadCells_list (P:=P) w ad (([]:apf Int).map (Value.int .u8)) (λj v hj=>by simp at hj);simp only[List.map_nil,aoD]at hl;have:=run_bytesToString (P:=P) w ad 0 cc [] (by simpa using hl);exact this
   |cons n0 ns=>
    have I6:=hA (by simp);subst I6;have jH:k'=1:=(gL [.v (.int .u8 n0)] (by simp)).symm;subst jH;have hl:=run_loadCells_list (P:=P) w ⟨bb,o,none⟩ ((n0::ns).map (Value.int .u8)) (λj v hj=>by
     have aN:=(aor.1 hj).1;rw[aow]at aN;have J:=(hS j 0 aN (by omega)).2.1;rw[aoy,aov aN]at hj;cases hj
     have h2:=l8 j 0 [.v (.int .u8 ((n0::ns)[j]))] (.v (.int .u8 ((n0::ns)[j]))) (by rw[aoy,aov aN];rfl) rfl;have h3:us j 0= .int .u8 ((n0::ns)[j]):=by
      generalize us j 0=q at h2;cases h2;rfl
     rw[lI];rw[h3]at J
     simpa using J)
    rw[aow]at hl;rw[run_bytesToString w _ _ cc _ hl];have key:∀(l:apf Int)(r:apg),l.foldl (λr n=>r.push (UInt8.ofNat n.toNat)) r=⟨r.data++(l.map λn=>UInt8.ofNat n.toNat).toArray⟩:=by
      intro l
      induction l with
      |nil=>intro r;simp
      |cons x l ih=>intro r;rw[List.foldl_cons,ih];simp [ByteArray.push]
    rw[key];have Fc:ByteArray.empty.data= #[]:=rfl;rw[Fc];simp
  ·exact h.elim
theorem Rm{T f off k:Nat}{g:Bool}(h:rM P T f=some (off,k,g)):∃fs fd,P.underlying T=some (.struct fs)/\fs[f]?=some fd/\gh P fd.type=some k/\0<k/\mJ P fd.type=some g/\fd.offset=off:=by
 unfold rM at h;split at h
 ·rename_i fs hT
  split at h
  ·rename_i fd hf
   split at h
   ·rename_i k' g' J h2
    cases h
    exact⟨fs,fd,hT,hf,J,Nat.succ_pos _,h2,rfl⟩
   ·cases h
  ·cases h
 ·cases h
theorem PD{T f off k o b:Nat}{g:Bool}(h:rM P T f=some (off,k,g)):(Instr.fieldAt T (.pointer (some ⟨b,o,none⟩)) f).run P w= .ok (.pointer (some ⟨b,o+off,none⟩)) w:=by
 obtain⟨fs,fd,J,h2,h3,h4,h5,rfl⟩:=Rm h;simp [Instr.fieldAt,run_underlying J,h2,Instr.sureAddr,fieldPlace,l4 h3,Nat.ne_of_gt h4,lI]
theorem akC{T f:Nat}{x:AV}{u:apj}{C:AV->Prop}(hu:aF G w u x)(h:xv P T x f C):∃r z,(Instr.field T u f).run P w= .ok r w/\aF G w r z/\C z:=by
 unfold xv at h;split at h
 ·rename_i off k cs hT
  obtain⟨hl,hC⟩:=bO.1 h;rw[da]at hl;obtain⟨fs,fd,J,h2,h3,h4,h5,rfl⟩:=Rm hT;cases hu with
  |agg vs _ hlen hr=>
   refine⟨.agg (vs.extract fd.offset (fd.offset+k)),_,?_, .agg _ _ ?_ λi u c hu hc=> ?_,hC⟩
   ·simp [Instr.field,run_underlying J,h2,asAgg,part,EL h5,l4 h3]
   ·simp;omega
   ·rw[Array.getElem?_extract]at hu;rw[List.getElem?_take]at hc;split at hc
    ·rw[List.getElem?_drop]at hc;split at hu
     ·exact hr _ u c hu hc
     ·cases hu
    ·cases hc
 ·rename_i off k cs hT
  obtain⟨fs,fd,J,h2,h3,h4,h5,rfl⟩:=Rm hT;split at h
  ·rename_i c hc
   cases hu with
   |agg vs _ hlen hr=>
    have aN:fd.offset<vs.size:=by rw[hlen];exact(aor.1 hc).1
    refine⟨vs[fd.offset],c,?_,hr _ _ c (aoN aN) hc,h⟩;simp [Instr.field,run_underlying J,h2,asAgg,part,EL h5,aoN aN]
  ·exact h.elim
 ·exact h.elim
end
def Gh.qf(G:Gh)(b m:Nat):Gh:={G with S:=λc o=>G.S c o\/(c=b/\o<m)}
theorem XB{G:Gh}{w:apk}{h:apf aq}(hi:bN G w h)(ob:Obj)(m:Nat):bM G.N G w (G.qf w.heap.size m) (w.alloc ob)/\bN (G.qf w.heap.size m) (w.alloc ob) h:=by
 have hE:bM G.N G w (G.qf w.heap.size m) (w.alloc ob):=
  ⟨by simp,λ_ _ h=> .inl h,λb _ h=>World.cell?_alloc_lt _ _ _ (hi.S _ _ h),λ_ _=>rfl,λ_ _=> .inl ⟨rfl,rfl⟩,zsame rfl,λb hb=>Below.heap_alloc w ob b (hi.z b hb),rfl,rfl,rfl,λb o hs=>hs.imp id fun⟨e,_⟩ hz=>ao5 _ (hi.z _ (e▸hz))⟩
 refine⟨hE,hi.len,λb hb=>aoP (hi.z b hb) hE.size,λb o hs=> ?_,λn B hB=> ?_,λm n b J h2=>hi.inj m n b J h2,hi.gl.keep hE⟩
 ·rcases hs with hs|⟨rfl,_⟩
  ·exact aoP (hi.S b o hs) hE.size
  ·simp
 ·refine dZ.keep (hi.lt hB) hE (aoC _) ⟨rfl,rfl,rfl⟩ (λb hb=> ?_) (hi.c7 n B hB);have aN:=hi.h1 (n:=n) (b:=b) ((dA hB).trans hb);refine⟨Below.heap_alloc w _ _ aN,λo jx hs=> ?_⟩;rcases hs with hs|⟨e,_⟩
  ·exact jx hs
  ·omega
theorem Tf(k:Nat):∀(n o i:Nat)(pl:Nat×Nat),(vp k o n)[i]?=some pl->pl=(o+i*k,k)
 |0,_,_,_,h=>by simp [vp]at h
 |n+1,o,0,pl,h=>by simp [vp]at h;rw[<-h];simp
 |n+1,o,i+1,pl,h=>by
  have:=Tf k n (o+k) i pl (by simpa [vp]using h);rw[this,Nat.add_mul];simp;omega
theorem aaM(l:apf AV):∀n,(rU n l).length=n*l.length
 |0=>by simp [rU]
 |n+1=>by rw[rU,aos,aaM l n,Nat.add_mul];omega
theorem aby(l:apf AV):∀(n i:Nat),i<n*l.length->(rU n l)[i]?=l[i%l.length]?
 |0,i,h=>by omega
 |n+1,i,h=>by
  rw[rU];by_cases hi:i<l.length
  ·rw[aoB hi,Nat.mod_eq_of_lt hi]
  ·rw[aoH (by omega),aby l n _ (by rw[Nat.add_mul]at h;omega),<-Nat.mod_eq_sub_mod (by omega)]
theorem akw(z:apj){k:Nat}(hz:z.cells.size=k)(n:Nat):rU n (z.cells.toList.map λu=> .d (.v u))=(List.range (n*k)).map λi=> .d (.v (z.cells[i%z.cells.size]!)):=by
 have hl:(z.cells.toList.map λu=>AV.d (.v u)).length=k:=by simp [hz]
 refine List.ext_getElem? λi=> ?_;by_cases hi:i<n*k
 ·rw[aby _ _ _ (by rw[hl];exact hi),aoy,aoy,List.getElem?_range hi,hl,hz,aoO];have hk:0<k:=Nat.pos_of_ne_zero λe=>by subst e;simp at hi
  have aN:i%k<z.cells.size:=by rw[hz];exact Nat.mod_lt _ hk
  rw[aoN aN];simp only[Option.map_some];rw[getElem!_pos z.cells (i%k) aN]
 ·rw[aoX (by rw[aaM,hl];omega),aoX (by simp;omega)]
theorem Wp:∀{ps:apf (Nat×AV)}{places:apf (Nat×Nat)}{cs cB:apf AV},pH places cs ps=some cB->cB.length=cs.length
 |[],_,_,_,h=>by simp only[pH,Option.some.injEq]at h;rw[h]
 |(i,x)::ps,places,cs,cB,h=>by
  unfold pH at h;split at h
  ·rw[cond_eq_ite]at h;split at h
   ·rename_i hc
    simp only[aot,beq_iff_eq,da]at hc;rw[Wp h,D9 _ _ _ (by rw[hc.1];exact hc.2)]
   ·cases h
  ·cases h
section
variable {P:api} {r:aph Nat} {n N0:Nat} {G:Gh} {w:apk} {a:Act} {s:St} {o:Oper} {K:St->Prop} {Q:Exit->Act->apk->Prop}
theorem aeb{T len:Nat}{h:apf aq}{ps:apf (Nat×AV)}{qs:Array (Nat×apj)}{C:AV->Prop}(hi:bN G w h)(hl:qs.toList.length=ps.length)
 (hr:∀(i:Nat)(p:Nat×AV)(q:Nat×apj),ps[i]?=some p->qs.toList[i]?=some q->q.1=p.1/\aF G w q.2 p.2) (hC:wa P T len ps C):
 ∃u w' G' y,(Instr.buildSlice T len qs).run P w= .ok u w'/\bM G.N G w G' w'/\G.N<=G'.N/\bN G' w' h/\aF G' w' u y/\C y:=by
 unfold wa at hC;split at hC
 ·rename_i e k hT
  obtain⟨fD,fW⟩:=j8 hT;split at hC
  ·rename_i z hz
   split at hC
   ·rename_i cs hf
    split at hC
    ·rename_i ds qX
     obtain⟨fB,hC⟩:=bO.1 hC;simp only[aot,beq_iff_eq,da,aoY]at fB;obtain⟨⟨⟨⟨hk,Z8⟩,kt⟩,jq⟩,hb⟩:=fB;have jq:=ab5 jq;rw[akw z kt]at hf;have CA:=Tf k;obtain⟨z0,wQ⟩:∃z0:Array apj,z0=if len*k=0 then #[]else z.cells:=⟨_,rfl⟩
     obtain⟨zr,Ei⟩:∃zr:Array apj,zr=(Array.range (len*k)).map (z0[·%z0.size]!):=⟨_,rfl⟩;have o6:Row G w zr ((List.range (len*k)).map λi=> .d (.v (z.cells[i%z.cells.size]!))):=by
      have C7:∀i,i<len*k->z0[i%z0.size]! =z.cells[i%z.cells.size]! :=λi hi=>by rw[wQ,if_neg (by omega)]
      refine⟨by rw[Ei];simp,λi u c hu hc=> ?_,λi u hu=> ?_⟩
      ·rw[Ei,Array.getElem?_map]at hu;rw[aoy]at hc;by_cases hi:i<len*k
       ·rw[List.getElem?_range hi]at hc;rw[Array.getElem?_range,if_pos hi]at hu;simp only[Option.map_some,Option.some.injEq]at hu hc;subst hu;subst hc;rw[C7 i hi];exact .d (.v _)
       ·rw[aoX (by simp;omega)]at hc;cases hc
      ·rw[Ei,Array.getElem?_map]at hu;by_cases hi:i<len*k
       ·rw[Array.getElem?_range,if_pos hi]at hu;simp only[Option.map_some,Option.some.injEq]at hu;subst hu;rw[C7 i hi];have aN:i%z.cells.size<z.cells.size:=Nat.mod_lt _ (by omega);rw[getElem!_pos z.cells _ aN];exact Array.all_eq_true_iff_forall_mem.1 jq _ (Array.getElem_mem _)
       ·rw[Array.getElem?_eq_none (by simp;omega)]at hu;cases hu
     obtain⟨fS,J,h2⟩:=PC (λi=>some (i*k,k)) (vp k 0 len) (λi pl h=>by
      have:=CA len 0 i pl h;rw[this];simp) ps qs.toList _ cs zr o6 hl hr hb hf
     obtain⟨d1,d2⟩:=JP qX;have gr:cs.length=len*k:=by
      have:=Wp hf;rw[this];simp
     have xU:fS.size=len*k:=by rw[h2.len,gr]
     obtain⟨i1,i2⟩:=XB hi (.cells fS e) (len*k);have xr:Rd G.S w k (n8 k len ds) fS.toList:=U6 (by rw[d1,gr]) (by rw[aoY,xU]) (λu hu=>by
      obtain⟨j,hj⟩:=List.mem_iff_getElem?.1 hu;exact h2.one j u (by rw[<-aoO];exact hj)) (λi u d hu hd=>by
      have aN:i<cs.length:=by rw[<-d1];exact(aor.1 hd).1
      exact(h2.rel i u _ (by rw[<-aoO];exact hu) (aov aN)).Io (d2 i _ d (aov aN) hd))
     have hp:dh (G.qf w.heap.size (len*k)).S (w.alloc (.cells fS e)) (.slice (some ⟨w.heap.size,0,none⟩) len len) (.sl (n8 k len ds)):=by
      have:=(xr.keep i1.S i1.cell).CT w.heap.size len (by rw[rK];exact aoC _) (by have:=Nat.le_mul_of_pos_right len hk;simp only[maxLen];omega) (λo ho=> .inr ⟨rfl,by rw[rK]at ho;exact ho⟩) (λo u hu=>by
       rw[World.cell?_alloc_new];rw[<-aoO];exact hu)
      rwa [rK]at this
     refine⟨_,_,_,_,?_,i1,aoC _,i2, .full _ hp ⟨some ⟨w.heap.size,0,none⟩,by rw[rK]⟩,hC⟩;have jx:¬(len*k>2^24):=by omega
     unfold Instr.buildSlice;simp only[Sem.run_bind,run_underlying fD,Result.andThen_ok,l4 fW,jx,if_false];by_cases h0:len*k=0
     ·rw[if_pos h0]at wQ;subst wQ;subst Ei;simp [h0]at J;simp [h0,J,newRow]
     ·rw[if_neg h0]at wQ;subst wQ;subst Ei;simp [h0,Dq hz,J,newRow]
    ·exact hC.elim
   ·exact hC.elim
  ·exact hC.elim
 ·exact hC.elim
end
section
variable {P:api} {G:Gh} {w:apk} {h:apf aq}
theorem AH(k s:apg)(d:D)(l:apf (apg×D)):kV ((k,d)::l) s=if k=s then some d else kV l s:=by
 have e1:kV ((k,d)::l) s=bif bL k==bL s then some d else kV l s:=rfl;rw[e1];by_cases e:k=s
 ·subst e;rw[if_pos rfl];simp
 ·rw[if_neg e];have:(bL k==bL s)=false:=by rw[beq_eq_false_iff_ne];exact λhe=>e (L9 he)
  rw[this];rfl
theorem Ey{T k e:TypeId}(h:vo P T=some (k,e)):P.underlying T=some (.map k e):=by
 unfold vo at h;split at h
 ·next k' e' hT=>cases h;exact hT
 ·cases h
theorem ajD(hi:bN G w h):bM G.N G w (G.cX w.heap.size) (w.alloc (.map #[] 0))/\bN (G.cX w.heap.size) (w.alloc (.map #[] 0)) (h++[.map []])/\aF (G.cX w.heap.size) (w.alloc (.map #[] 0)) (.map (some w.heap.size)) (.mp h.length):=by
 have hE:=sr G w hi.z hi.S (.map #[] 0);have hN:G.N<=(G.cX w.heap.size).N:=Nat.le_succ _;have gj:(G.cX w.heap.size).aR h.length=w.heap.size:=by simp [Gh.cX,hi.len]
 have k9:∀n(B:aq),n<G.N->B.dP (G.cX w.heap.size) n=B.dP G n:=λn B hn=>by
  cases B<;>simp [aq.dP,Gh.cX,Nat.ne_of_lt hn]
 have fm:∀n,n<G.N->bK (h++[.map []]) (G.cX w.heap.size) n=bK h G n:=λn hn=>by
  have aN:n<h.length:=by rw[hi.len];exact hn
  unfold bK;rw[aoB aN,aov aN];exact k9 n _ hn
 have sM:bK (h++[.map []]) (G.cX w.heap.size) h.length=some w.heap.size:=by
  rw[dA (B:= .map []) (by simp)];exact congrArg some gj
 refine⟨hE,⟨by simp [Gh.cX,hi.len],λb hb=>aoP (hi.z b hb) hE.size,λb o hs=>aoP (hi.S b o hs) hE.size,λn B hB=> ?_,λm n b hm hn=> ?_,hi.gl.keep hE⟩,?_⟩
 ·by_cases hn:n<h.length
  ·rw[aoB hn]at hB;have eW:n<G.N:=hi.len▸hn;exact dZ.keep eW hE hN ⟨rfl,rfl,rfl⟩ (λb hb=>⟨Below.heap_alloc w _ _ (hi.h1 (n:=n) ((dA hB).trans hb)),λo h=>h⟩) (hi.c7 n B hB)
  ·have ku:n=h.length:=by
    have:=(aor.1 hB).1;simp at this;omega
   subst ku;simp at hB;subst hB;exact⟨by rw[gj];exact λhz=>ao5 _ (hi.z _ hz),λo hs=>by rw[gj]at hs;exact ao5 _ (hi.S _ _ hs), #[],0,by rw[gj];exact World.alloc_heap_new w _,
    ⟨by simp,MapKept.stamped_empty 0,λe he=>(by simp at he),λs d hs=>(by cases hs),by simp,λi e he=>(by simp at he),rfl⟩⟩
 ·have key:∀n b,bK (h++[.map []]) (G.cX w.heap.size) n=some b->(n<G.N/\bK h G n=some b)\/(n=h.length/\b=w.heap.size):=λn b hn=>by
   by_cases aN:n<G.N
   ·exact .inl ⟨aN,by rw[<-fm n aN];exact hn⟩
   ·by_cases e:n=h.length
    ·subst e;rw[sM]at hn;cases hn;exact .inr ⟨rfl,rfl⟩
    ·rw[uT (aoX (by simp;have:=hi.len;omega))]at hn;cases hn
  rcases key m b hm with⟨_,gk⟩|⟨rfl,rfl⟩<;>rcases key n _ hn with⟨_,eW⟩|⟨rfl,hb⟩
  ·exact hi.inj m n b gk eW
  ·have:=hi.h1 gk;omega
  ·have:=hi.h1 eW;omega
  ·rfl
 ·have:=aF.mp (G:=G.cX w.heap.size) (w:=w.alloc (.map #[] 0)) h.length (by simp [Gh.cX,hi.len])
  rwa [gj]at this
theorem alz{v:apj}{d:D}(h:dh G.S w v d):aF G w v (I1 d):=by
 cases d with
 |v x=>exact .d h
 |sl xs=>exact .d h
 |ag ds=>
  cases h with
  |ag vs _ hl h=>
   refine .agg vs _ (by rw[aow];exact hl) λi u c hu hc=> ?_;rw[aoy]at hc;obtain⟨d,hd,rfl⟩:=Option.map_eq_some_iff.1 hc;exact .d (h i u d hu hd)
theorem aiO(z:apj):aF G w z (AF z):=by
 unfold AF;split
 ·next vs=>
  refine .agg vs _ (by rw[aow];exact aoY.symm) λi u c hu hc=> ?_;rw[aoy,aoO,hu]at hc;cases hc
  exact .d (dh.v u).ua
 ·exact .d (.v _)
theorem aF.toM{u:apj}{x:AV}{d:D}(h:aF G w u x)(hx:x.SG=some d):dh G.S w u d:=by
 unfold AV.SG at hx;split at hx
 ·next cs=>
  obtain⟨ds,qX,rfl⟩:=Option.map_eq_some_iff.1 hx;obtain⟨J,h2⟩:=JP qX;cases h with
  |agg vs _ hl hc=>
   refine .ag vs ds (hl.trans J.symm) λi v e hv he=> ?_;have hi:i<cs.length:=by rw[<-J];exact(aor.1 he).1
   exact(hc i v _ hv (aov hi)).Io (h2 i _ e (aov hi) he)
 ·exact h.Io hx
theorem rW{s:apg}:MapKept.IsKey .string (.string s):=trivial
theorem acZ{T k e:TypeId}{z:apj}{n:Nat}{kv:apf (apg×D)}{s:apg}{ok:Bool}(hi:bN G w h)(hT:vo P T=some (k,e))(hz:iR P e=some z)(hk:iu P k=true)(hn:h[n]?=some (.map kv)):
 ∃v,(Instr.lookup T (.map (some (G.aR n))) (.string s) ok).run P w= .ok v w/\aF G w v (qR ok z (kV kv s)):=by
 obtain⟨_,_,es,clock,hh,hm⟩:=hi.c7 n _ hn;have pe:∀x∈es.toList,MapKept.IsKey .string x.key:=λx hx=>by
  obtain⟨s',d,J,_⟩:=hm.BQ x hx;rw[J];exact rW
 have pQ:=se hk;have one:∀(v:apj)(d:AV)(b:Bool),aF G w v d->aF G w (if ok then .tuple #[v, .bool b]else v) (bif ok then .bg [d, .d (.v (.bool b))]else d):=λv d b hp=>by
  cases ok with
  |false=>exact hp
  |true=>
   refine .bg #[v, .bool b] _ rfl λi u c hu hc=> ?_
   match i with
   |0=>simp at hu hc;subst hu;subst hc;exact hp
   |1=>simp at hu hc;subst hu;subst hc;exact .d (.v _)
   |i+2=>simp at hu
 rcases MapKept.findNow_spec (rW (s:=s)) es.toList 0 pe with⟨J,h2⟩|⟨j,e0,J,h2,h3⟩
 ·have aiF:kV kv s=none:=by
   cases hq:kV kv s with
   |none=>rfl
   |some d=>
    obtain⟨x,hx,nG⟩:=hm.all s d hq;exact absurd nG (h2 x hx)
  refine⟨if ok then .tuple #[z, .bool false]else z,?_,?_⟩
  ·simp [Instr.lookup,run_underlying (Ey hT),MapKept.run_getObj_map hh,MapKept.run_checkKey pQ rW,MapKept.run_findKey pQ J,Dq hz,Result.andThen]
  ·rw[aiF];have:=one z _ false (aiO z);unfold qR;exact this
 ·have jD:e0∈es.toList:=aoE h2;obtain⟨s',d,k1,k2,k3⟩:=hm.BQ e0 jD;rw[h3]at k1;cases k1
  refine⟨if ok then .tuple #[e0.val, .bool true]else e0.val,?_,?_⟩
  ·simp [Instr.lookup,run_underlying (Ey hT),MapKept.run_getObj_map hh,MapKept.run_checkKey pQ rW,MapKept.run_findKey pQ J,Result.andThen]
  ·rw[k2];have:=one e0.val _ true (alz k3);unfold qR;exact this
theorem ak2{T k e:TypeId}{n:Nat}{kv:apf (apg×D)}{s:apg}{v:apj}{d:D}(hi:bN G w h)(hT:vo P T=some (k,e))(hk:iu P k=true)(hn:h[n]?=some (.map kv))(hv:dh G.S w v d)(hlen:kv.length<maxLen):
 ∃w',(Instr.mapUpdate T (.map (some (G.aR n))) (.string s) v).run P w= .ok () w'/\bM G.N G w G w'/\bN G w' (h.set n (.map ((s,d)::kv))):=by
 obtain⟨hZ,hS,es,clock,hh,hm⟩:=hi.c7 n _ hn;have pe:∀x∈es.toList,MapKept.IsKey .string x.key:=λx hx=>by
  obtain⟨s',d,J,_⟩:=hm.BQ x hx;rw[J];exact rW
 have pQ:=se hk;have fin:∀(wP:Array MapEntry)(CD:Nat)(w':apk),w'=ChangeMaps.setBlock w (G.aR n) (.map wP CD)->tK G.S w wP CD ((s,d)::kv)->bM G.N G w G w'/\bN G w' (h.set n (.map ((s,d)::kv))):=by
  intro wP CD w' eZ gk;have jg:∀b,b≠G.aR n->w'.heap[b]?=w.heap[b]?:=λb hb=>by rw[eZ];exact ChangeMaps.heap_setBlock_other hh _ hb
  have Pt:w'.heap[G.aR n]?=some (.map wP CD):=by rw[eZ];exact ChangeMaps.heap_setBlock_same hh _
  have iq:w'.heap.size=w.heap.size:=by rw[eZ];simp [ChangeMaps.setBlock]
  have ie:∀b o,G.S b o->w'.cell? ⟨b,o,none⟩=w.cell? ⟨b,o,none⟩:=λb o hs=>World.cell?_of_block (jg b (λe=>hS o (e▸hs)));have hE:bM G.N G w G w':=⟨by rw[iq];exact aoC _,λ_ _ h=>h,ie,λ_ _=>rfl,λ_ _=> .inl ⟨rfl,rfl⟩,zsame rfl,λb hb=>jg b (λe=>hZ (e▸hb)),by rw[eZ];rfl,by rw[eZ];rfl,by rw[eZ];rfl,λ_ _ h=> .inl h⟩;refine⟨hE,?_⟩;have lv:bK h G n=some (G.aR n):=dA hn;have mB:(h.set n (.map ((s,d)::kv)))[n]?=some (.map ((s,d)::kv)):=by rw[aoU (aor.1 hn).1]
  have e9:∀m,m≠n->(h.set n (.map ((s,d)::kv)))[m]?=h[m]?:=λm hm=>by rw[aoZ (Ne.symm hm)]
  have eG:∀m,bK (h.set n (.map ((s,d)::kv))) G m=bK h G m:=λm=>by
   by_cases e:m=n
   ·subst e;rw[dA mB,dA hn];rfl
   ·unfold bK;rw[e9 m e]
  refine⟨by rw[List.length_set];exact hi.len,λb hb=>aoP (hi.z b hb) hE.size,λb o hs=>aoP (hi.S b o hs) hE.size,λm B hB=> ?_,λm m' b J h2=>hi.inj m m' b (by rw[<-eG];exact J) (by rw[<-eG];exact h2),hi.gl.keep hE⟩;by_cases e:m=n
  ·subst e;rw[mB]at hB;cases hB
   exact⟨hZ,hS,wP,CD,Pt,gk.keep (λ_ _ h=>h) ie⟩
  ·rw[e9 m e]at hB;have cE:∀b,bK h G m=some b->b≠G.aR n:=λb hb eb=>e (hi.inj m n b hb (by rw[eb];exact lv));exact dZ.keep (hi.lt hB) hE (aoC _) ⟨rfl,rfl,rfl⟩ (λb hb=>⟨jg b (cE _ ((dA hB).trans hb)),λo h=>h⟩) (hi.c7 m B hB)
 rcases MapKept.findNow_spec (rW (s:=s)) es.toList 0 pe with⟨J,h2⟩|⟨j,e0,J,h2,h3⟩
 ·have gk:tK G.S w (es.push ⟨.string s,v,clock⟩) (clock+1) ((s,d)::kv):=by
   refine⟨by have:=hm.len;simp;omega,MapKept.stamped_push hm.stamped h2,λx hx=> ?_,λs' d' cC=> ?_,by have:=hm.len;simp;omega,λi e he=> ?_,by rw[hm.Ea];simp⟩
   ·simp only[Array.toList_push,ao3,List.mem_singleton]at hx;rcases hx with hx|rfl
    ·obtain⟨s',d',k1,k2,k3⟩:=hm.BQ x hx;refine⟨s',d',k1,?_,k3⟩;rw[AH,if_neg (λe=>h2 x hx (by rw[k1,e]))];exact k2
    ·exact⟨s,d,rfl,by rw[AH,if_pos rfl],hv⟩
   ·rw[AH]at cC;simp only[Array.toList_push,ao3,List.mem_singleton];split at cC
    ·next e=>subst e;exact⟨_, .inr rfl,rfl⟩
    ·obtain⟨x,hx,hk⟩:=hm.all s' d' cC;exact⟨x, .inl hx,hk⟩
   ·rw[Array.getElem?_push]at he;split at he
    ·next ei=>cases he;rw[ei];exact hm.Ea
    ·exact hm.born i e he
  obtain⟨f1,f2⟩:=fin _ _ _ rfl gk;refine⟨_,?_,f1,f2⟩;simp [Instr.mapUpdate,run_underlying (Ey hT),MapKept.run_getObj_map hh,MapKept.run_checkKey pQ rW,MapKept.run_findKey pQ J,MapKept.run_setObj_map _ hh,Result.andThen,ChangeMaps.setBlock]
 ·have hj:es[j]?=some e0:=by simpa using h2
  have yK:j<es.toList.length:=(aor.1 h2).1;have akI:∀e',es[j]?=some e'->({e' with key:= .string s,val:=v}:MapEntry).key=e'.key:=λe' qq=>by rw[hj]at qq;cases qq;exact h3.symm
  have J1:(es.modify j (λe'=>{e' with key:= .string s,val:=v})).toList=es.toList.set j {e0 with key:= .string s,val:=v}:=by
   rw[Array.toList_modify];exact ChangeMaps.modify_eq_set _ _ _ _ h2
  have j0:(es.toList.map (·.key)).Nodup:=hm.stamped.2.2;have gk:tK G.S w (es.modify j (λe'=>{e' with key:= .string s,val:=v})) clock ((s,d)::kv):=by
   refine⟨by simpa using hm.size,MapKept.stamped_modify hm.stamped _ _ (λ_ _=>rfl) (λe' _ qq=>akI e' qq),λx hx=> ?_,λs' d' cC=> ?_,by have:=hm.len;simp;omega,λi e he=> ?_,by rw[hm.Ea];simp⟩
   ·rw[J1]at hx;obtain⟨i,dO,ex⟩:=List.getElem_of_mem hx;rw[List.getElem_set]at ex;split at ex
    ·rw[<-ex];exact⟨s,d,rfl,by rw[AH,if_pos rfl],hv⟩
    ·next cE=>
     have kI:i<es.toList.length:=by simpa using dO
     have kP:x∈es.toList:=by rw[<-ex];exact List.getElem_mem kI
     obtain⟨s',d',k1,k2,k3⟩:=hm.BQ x kP;refine⟨s',d',k1,?_,k3⟩;rw[AH,if_neg ?_]
     ·exact k2
     ·intro wP;have a1:(es.toList.map (·.key))[i]?=some (.string s):=by rw[aoy,aov kI,ex];simp [k1,wP]
      have a2:(es.toList.map (·.key))[j]?=some (.string s):=by rw[aoy,h2];simp [h3]
      have hii:i<(es.toList.map (·.key)).length:=by simpa using kI
      exact cE ((List.getElem?_inj hii j0).1 (a1.trans a2.symm)).symm
   ·rw[J1];rw[AH]at cC;split at cC
    ·next e=>subst e;exact⟨_,List.mem_iff_getElem?.2 ⟨j,aoU yK⟩,rfl⟩
    ·next cE=>
     obtain⟨x,hx,hk⟩:=hm.all s' d' cC;obtain⟨i,dO,ex⟩:=List.getElem_of_mem hx;refine⟨x,List.mem_iff_getElem.2 ⟨i,by simpa using dO,?_⟩,hk⟩;rw[List.getElem_set];split
     ·next e=>
      subst e;exfalso;have:es.toList[j]?=some x:=by rw[aov dO,ex]
      rw[this]at h2;cases h2
      rw[h3]at hk;injection hk with hk;exact cE hk
     ·exact ex
   ·rw[Array.getElem?_modify]at he;split at he
    ·next ei=>
     subst ei;rw[hj]at he;cases he
     exact hm.born _ e0 hj
    ·exact hm.born i e he
  obtain⟨f1,f2⟩:=fin _ _ _ rfl gk;refine⟨_,?_,f1,f2⟩;simp [Instr.mapUpdate,run_underlying (Ey hT),MapKept.run_getObj_map hh,MapKept.run_checkKey pQ rW,MapKept.run_findKey pQ J,hj,h3,MapKept.run_keyThatStays rW,MapKept.run_setObj_map _ hh,Result.andThen,ChangeMaps.setBlock]
end
set_option linter.unusedVariables false
set_option linter.unusedSimpArgs false
section
variable {P:api} {G:Gh} {w:apk} {h:apf aq}
theorem Lp{w':apk}(hi:bN G w h){n:Nat}{B B':aq}(hn:h[n]?=some B)(vv:∀G':Gh,B.dP G' n=G'.ow n)(PI:∀G':Gh,B'.dP G' n=G'.ow n)(S:Nat->Nat->Prop)(v:apj)(len:Nat)(ow:aph Nat)
 (hE:bM G.N G w (G.grow n S v len ow) w') (hg:∀g,ow=some g->(g=w.heap.size\/G.ow n=some g)/\g<w'.heap.size)
 (hS:∀b o,S b o->G.S b o\/ow=some b) (jg:∀b,b<w.heap.size->ow≠some b->w'.heap[b]?=w.heap[b]?)
 (hB:dZ (G.grow n S v len ow) w' n B'):bN (G.grow n S v len ow) w' (h.set n B'):=by
 have e9:∀m,m≠n->(h.set n B')[m]?=h[m]?:=λm hm=>by rw[aoZ (Ne.symm hm)]
 have mB:(h.set n B')[n]?=some B':=by rw[aoU (aor.1 hn).1]
 have k9:∀m(C:aq),m≠n->C.dP (G.grow n S v len ow) m=C.dP G m:=λm C hm=>by
  cases C<;>simp [aq.dP,Gh.grow,hm]
 have eG:∀m,m≠n->bK (h.set n B') (G.grow n S v len ow) m=bK h G m:=λm hm=>by
  unfold bK;rw[e9 m hm];cases h[m]? with
  |none=>rfl
  |some C=>exact k9 m C hm
 have FU:bK (h.set n B') (G.grow n S v len ow) n=ow:=by rw[dA mB,PI];simp [Gh.grow]
 have yg:∀m b,m≠n->ow=some b->bK h G m≠some b:=λm b hm ho hb=>by
  rcases (hg b ho).1 with hg|hg
  ·have:=hi.h1 hb;omega
  ·exact hm (hi.inj m n b hb ((dA hn).trans ((vv G).trans hg)))
 refine⟨by rw[List.length_set];exact hi.len,λb hb=>aoP (hi.z b hb) hE.size,λb o hs=> ?_,λm C hm=> ?_,λm m' b J h2=> ?_,hi.gl.keep hE⟩
 ·rcases hS b o hs with hs|hs
  ·exact aoP (hi.S b o hs) hE.size
  ·exact(hg b hs).2
 ·by_cases em:m=n
  ·subst em;rw[mB]at hm;cases hm;exact hB
  ·rw[e9 m em]at hm;refine dZ.keep (hi.lt hm) hE (aoC _) ⟨by simp [Gh.grow,em],by simp [Gh.grow,em],by simp [Gh.grow,em]⟩ (λb hb=> ?_) (hi.c7 m C hm);have hr:bK h G m=some b:=(dA hm).trans hb;have cE:ow≠some b:=λe'=>yg m b em e' hr;refine⟨jg _ (hi.h1 hr) cE,λo jx hs=> ?_⟩;rcases hS _ o hs with hs|hs
   ·exact jx hs
   ·exact cE hs
 ·by_cases e1:m=n<;>by_cases e2:m'=n
  ·rw[e1,e2]
  ·subst e1;rw[eG m' e2]at h2;rw[FU]at J;exact absurd h2 (yg m' b e2 J)
  ·subst e2;rw[eG m e1]at J;rw[FU]at h2;exact absurd J (yg m b e1 h2)
  ·rw[eG m e1]at J;rw[eG m' e2]at h2;exact hi.inj m m' b J h2
def Gh.e8(G:Gh)(v:apj)(len:Nat)(ow:aph Nat):Gh:=
 {G with N:=G.N+1,sg:=λn=>if n=G.N then v else G.sg n,fl:=λn=>if n=G.N then len else G.fl n,ow:=λn=>if n=G.N then ow else G.ow n}
theorem OU{w':apk}(hi:bN G w h)(B:aq)(vv:∀(G':Gh) n,B.dP G' n=G'.ow n)(v:apj)(len:Nat)(ow:aph Nat)(hw:(∀b,b<w.heap.size->w'.heap[b]?=w.heap[b]?)/\w.heap.size<=w'.heap.size/\w'.os=w.os/\w'.tape=w.tape/\w'.output=w.output)
 (how:∀g,ow=some g->w.heap.size<=g)
 (hB:dZ (G.e8 v len ow) w' G.N B):bM G.N G w (G.e8 v len ow) w'/\bN (G.e8 v len ow) w' (h++[B]):=by
 have cE:∀n,n<G.N->n≠G.N:=λn hn=>Nat.ne_of_lt hn;have hE:bM G.N G w (G.e8 v len ow) w':=⟨hw.2.1,λ_ _ h=>h,λb o hs=>World.cell?_of_block (hw.1 b (hi.S b o hs)),λ_ _=>rfl,λn hn=> .inl ⟨by simp [Gh.e8,cE n hn],by simp [Gh.e8,cE n hn]⟩,zsame rfl,λb hb=>hw.1 b (hi.z b hb),hw.2.2.1,hw.2.2.2.1,hw.2.2.2.2,λ_ _ h=> .inl h⟩;have hN:G.N<=(G.e8 v len ow).N:=Nat.le_succ _;have k9:∀n(C:aq),n<G.N->C.dP (G.e8 v len ow) n=C.dP G n:=λn C hn=>by
  cases C<;>simp [aq.dP,Gh.e8,Nat.ne_of_lt hn]
 have key:∀n b,bK (h++[B]) (G.e8 v len ow) n=some b->(n<G.N/\bK h G n=some b)\/(n=G.N/\ow=some b):=λn b hb=>by
  by_cases hn:n<h.length
  ·unfold bK at hb;rw[aoB hn,aov hn]at hb;exact .inl ⟨hi.len▸hn,by unfold bK;rw[aov hn,<-hb];exact(k9 n _ (hi.len▸hn)).symm⟩
  ·by_cases en:n=h.length
   ·subst en;rw[dA (B:=B) (by simp),vv]at hb;exact .inr ⟨hi.len,by simpa [Gh.e8,hi.len]using hb⟩
   ·rw[uT (aoX (by simp;omega))]at hb;cases hb
 refine⟨hE,by simp [Gh.e8,hi.len],λb hb=>aoP (hi.z b hb) hw.2.1,λb o hs=>aoP (hi.S b o hs) hw.2.1,λn C hC=> ?_,λm n b J h2=> ?_,hi.gl.keep hE⟩
 ·by_cases hn:n<h.length
  ·rw[aoB hn]at hC;have eW:n<G.N:=hi.len▸hn;exact dZ.keep eW hE hN ⟨by simp [Gh.e8,cE n eW],by simp [Gh.e8,cE n eW],by simp [Gh.e8,cE n eW]⟩ (λb hb=>⟨hw.1 b (hi.h1 ((dA hC).trans hb)),λo h=>h⟩) (hi.c7 n C hC)
  ·have ku:n=h.length:=by
    have:=(aor.1 hC).1;simp at this;omega
   subst ku;simp at hC;subst hC;rw[hi.len];exact hB
 ·rcases key m b J with⟨_,a1⟩|⟨rfl,a1⟩<;>rcases key n b h2 with⟨_,b1⟩|⟨rfl,b1⟩
  ·exact hi.inj m n b a1 b1
  ·have:=hi.h1 a1;have:=how b b1;omega
  ·have:=hi.h1 b1;have:=how b a1;omega
  ·rfl
theorem aF.vc{n o len L k:Nat}{e:TypeId}{cs:apf (apf AV)}{u:apj}(hi:bN G w h)(hn:h[n]?=some (.vec e k cs))(hL:cs.length=L)(hv:aF G w u (.vec n o len L k)):TA (G.sg n) u o len L k:=by
 have hb:=(hi.c7 n _ hn).1;cases hv with|vec _ _ _ _ _ J h2 h3 h4=>exact h4 (by rw[<-hL,hb])
theorem aF.Yk{n i j L k:Nat}{e:TypeId}{k':Nat}{cs:apf (apf AV)}{u:apj}(hi:bN G w h)(hn:h[n]?=some (.vec e k' cs))(hL:cs.length=L)(hv:aF G w u (.dn n i j L k)):T9 (G.sg n) u i j L k:=by
 have hb:=(hi.c7 n _ hn).1;cases hv with|dn _ _ _ _ _ J h2 h3 h4=>exact h4 (by rw[<-hL,hb])
theorem Gp{n:Nat}{e k:Nat}{cs:apf (apf AV)}(hi:bN G w h)(hn:h[n]?=some (.vec e k cs))(cE:cs≠ []):∃(g cap:Nat)(cur:Array apj),G.ow n=some g/\G.sg n= .slice (some ⟨g,0,none⟩) cs.length cap/\¬G.Z g/\w.heap[g]?=some (.cells cur e (0,0))/\cs.length<=cap/\cap<=maxLen/\cur.size=cap*k/\(∀o,¬G.S g o)/\
        ∀(i j:Nat)(c:apf AV)(x:AV)(u:apj),cs[i]?=some c->c[j]?=some x->cur[i*k+j]?=some u->aF G w u x:=by
 obtain⟨_,_,_,h4|h4⟩:=hi.c7 n _ hn
 ·exact absurd h4.2.1 cE
 ·exact h4
theorem FJ{n:Nat}{e k:Nat}{cs:apf (apf AV)}(hi:bN G w h)(hn:h[n]?=some (.vec e k cs)):∀c∈cs,c.length=k:=(hi.c7 n _ hn).2.2.1
theorem m4{i k L j:Nat}(hi:i<L)(hj:j<k):i*k+j<L*k:=by
 have:(i+1)*k<=L*k:=Nat.mul_le_mul_right k hi;rw[Nat.add_mul]at this;omega
theorem JC{i k j:Nat}(hj:j<k):(i*k+j)/ k=i/\(i*k+j)%k=j:=by
 have hk:0<k:=by omega
 exact⟨by rw[Nat.add_comm,Nat.add_mul_div_right _ _ hk,Nat.div_eq_of_lt hj,aoL],by rw[Nat.add_comm,Nat.add_mul_mod_self_right,Nat.mod_eq_of_lt hj]⟩
theorem ahV{i i' j j' k:Nat}(hj:j<k)(jh:j'<k)(e:i*k+j=i'*k+j'):i=i'/\j=j':=by
 have J:=JC (i:=i) hj;have h2:=JC (i:=i') jh;exact⟨by rw[<-J.1,<-h2.1,e],by rw[<-J.2,<-h2.2,e]⟩
theorem ak8{t n i j L k:Nat}{e:TypeId}{cs:apf (apf AV)}{c:apf AV}{x:AV}{v:apj}(hi:bN G w h)(hn:h[n]?=some (.vec e k cs))(hL:cs.length=L)(hc:cs[i]?=some c)(hx:Q4 P t c j=some x)(hv:aF G w v (.dn n i j L k)):
 ∃u,(Instr.loadAt t v).run P w= .ok u w/\aF G w u x:=by
 have jR:i<cs.length:=(aor.1 hc).1;have hck:c.length=k:=FJ hi hn c (aoE hc);obtain⟨g,cap,cur,r1,r2,r3,r4,r5,r6,r7,r8,r9⟩:=Gp hi hn (λe=>by subst e;simp at jR);obtain⟨_,g',Fm,p1,p2⟩:=hv.Yk hi hn hL;rw[r2]at p1;cases p1
 have J:∀q,q<c.length->w.cell? ⟨g,i*k+q,none⟩=some (cur.getD (i*k+q) undef):=λq hq=>by
  rw[cell_of_row w g _ cur e (0,0) r4];have:i*k+q<cur.size:=by
    rw[r7];exact aoP (m4 jR (by omega)) (Nat.mul_le_mul_right k r5)
  simp [Array.getD,this]
 have h2:∀(q:Nat)(y:AV),c[q]?=some y->aF G w (cur.getD (i*k+q) undef) y:=λq y hq=>by
  have Gd:=(aor.1 hq).1;have aN:i*k+q<cur.size:=by
   rw[r7];exact aoP (m4 jR (by omega)) (Nat.mul_le_mul_right k r5)
  have e1:cur[i*k+q]?=some (cur.getD (i*k+q) undef):=by simp [Array.getD,aN]
  exact r9 i q c y _ hc hq e1
 have key:=abH (P:=P) (G:=G) (w:=w) (t:=t) (C:=(·=x)) g (i*k) c j (λq=>cur.getD (i*k+q) undef) J h2 (by
  unfold Q4 at hx;revert hx;cases mJ P t with
  |none=>intro hx;cases hx
  |some ag=>
   cases gh P t with
   |none=>cases ag<;>(intro hx;cases hx)
   |some kk=>
    cases ag with
    |true=>
     simp only;intro hx;cases hb:cm (j+kk) c.length with
     |false=>rw[hb]at hx;cases hx
     |true=>rw[hb]at hx;cases hx;exact rfl
    |false=>
     simp only;intro hx;rw[hx])
 obtain⟨u,y,k1,k2,rfl⟩:=key;refine⟨u,?_,k2⟩;rw[p2];simp [Instr.loadAt,Instr.sureAddr,k1]
theorem aiW{t b off k:Nat}{T:TypeId}{v:apj}{vs:Array apj}(hh:w.heap[b]?=some (.cells vs T (0,0)))(ht:gh P t=some k)(hk:v.cells.size=k)(jq:∀u∈v.cells.toList,u.oneCell'=true)(hb:off+k<=vs.size):
 (storeVar t ⟨b,off,none⟩ v).run P w= .ok () (w.setRow b (vs.toList.take off++v.cells.toList++vs.toList.drop (off+v.cells.toList.length)).toArray):=by
 obtain⟨i,j5,kI⟩:=Z9 ht;have lK:=run_storeCells_at P b off T v.cells.toList 0 vs w hh (by rw[aoY,hk];simpa using hb) jq;simp only[Nat.add_zero]at lK;unfold storeVar;simp only[sizeOf,typeInfo,Sem.run_bind,hk];simp [j5,kI,lK]
theorem Zz(vs:Array apj)(us:apf apj)(off q:Nat)(hb:off+us.length<=vs.size):(vs.toList.take off++us++vs.toList.drop (off+us.length)).toArray[q]?=if off<=q/\q<off+us.length then us[q-off]? else vs[q]?:=by
 rw[List.getElem?_toArray,aoI];have xU:vs.toList.length=vs.size:=aoY;by_cases J:q<off
 ·rw[aoB (by simp;omega),List.getElem?_take_of_lt J,if_neg (by omega),aoO]
 ·rw[aoH (by simp;omega)];simp only[List.length_take,xU];rw[Nat.min_eq_left (by omega)];by_cases h2:q<off+us.length
  ·rw[aoB (by omega),if_pos (by omega)]
  ·rw[aoH (by omega),List.getElem?_drop,if_neg (by omega),show off+us.length+(q-off-us.length)=q by omega,aoO]
theorem S9(vs:Array apj)(us:apf apj)(off:Nat)(hb:off+us.length<=vs.size):(vs.toList.take off++us++vs.toList.drop (off+us.length)).toArray.size=vs.size:=by
 simp only[List.size_toArray,aos,List.length_take,List.length_drop,aoY];omega
theorem ajn(cs ys:apf AV)(off q:Nat)(hb:off+ys.length<=cs.length):(iW cs off ys)[q]?=if off<=q/\q<off+ys.length then ys[q-off]? else cs[q]?:=by
 unfold iW;rw[aoI];by_cases J:q<off
 ·rw[aoB (by simp;omega),List.getElem?_take_of_lt J,if_neg (by omega)]
 ·rw[aoH (by simp;omega)];simp only[List.length_take];rw[Nat.min_eq_left (by omega)];by_cases h2:q<off+ys.length
  ·rw[aoB (by omega),if_pos (by omega)]
  ·rw[aoH (by omega),List.getElem?_drop,if_neg (by omega),show off+ys.length+(q-off-ys.length)=q by omega]
theorem V2{n e k g cap:Nat}{cs cB:apf (apf AV)}{cur:Array apj}{us:apf apj}{off:Nat}(hi:bN G w h)(hn:h[n]?=some (.vec e k cs))(gK:0<k)(r1:G.ow n=some g)(r2:G.sg n= .slice (some ⟨g,0,none⟩) cs.length cap)(r3:¬G.Z g)(r4:w.heap[g]?=some (.cells cur e (0,0)))(r5:cs.length<=cap)(r6:cap<=maxLen)(r7:cur.size=cap*k)(r8:∀o,¬G.S g o)
 (hb:off+us.length<=cur.size) (hl:cB.length=cs.length) (jm:∀c∈cB,c.length=k)
 (zT:∀(i j:Nat)(c:apf AV)(x:AV)(u:apj),cB[i]?=some c->c[j]?=some x->(if off<=i*k+j/\i*k+j<off+us.length then us[i*k+j-off]? else cur[i*k+j]?)=some u->aF G w u x):
 ∃G',bM G.N G w G' (w.setRow g (cur.toList.take off++us++cur.toList.drop (off+us.length)).toArray)/\G'.N=G.N/\bN G' (w.setRow g (cur.toList.take off++us++cur.toList.drop (off+us.length)).toArray) (h.set n (.vec e k cB))/\(∀m,G'.sg m=G.sg m)/\(∀m,G'.fl m=G.fl m):=by
 obtain⟨w',eZ⟩:∃w',w'=w.setRow g (cur.toList.take off++us++cur.toList.drop (off+us.length)).toArray:=⟨_,rfl⟩;rw[<-eZ];have jg:∀b,b≠g->w'.heap[b]?=w.heap[b]?:=λb hb=>by rw[eZ];exact setRow_other w g b _ hb
 have o6:w'.heap[g]?=some (.cells (cur.toList.take off++us++cur.toList.drop (off+us.length)).toArray e (0,0)):=by rw[eZ];exact setRow_heap w g cur _ e _ r4
 have iq:w'.heap.size=w.heap.size:=by rw[eZ];exact Mt w g _
 obtain⟨G',gM⟩:∃G',G'=G.grow n G.S (G.sg n) (G.fl n) (some g):=⟨_,rfl⟩;have zH:∀m,G'.sg m=G.sg m:=λm=>by rw[gM];simp only[Gh.grow];split<;>simp_all
 have my:∀m,G'.fl m=G.fl m:=λm=>by rw[gM];simp only[Gh.grow];split<;>simp_all
 have hE:bM G.N G w G' w':=⟨by rw[iq];exact aoC _,λb o h=>by rw[gM];exact h,λb o hs=>World.cell?_of_block (jg b (λe=>r8 o (e▸hs))),λ_ _=>by rw[gM];rfl,λm _=> .inl ⟨my m,zH m⟩,zsame (by rw[gM];rfl) (by rw[gM];rfl),λb hb=>jg b (λe=>r3 (e▸hb)),by rw[eZ];rfl,by rw[eZ];rfl,by rw[eZ];rfl,λb o hs=> .inl (by rw[gM]at hs;exact hs)⟩;have lA:=hi.c7 n _ hn;refine⟨G',hE,by rw[gM];rfl,?_,zH,my⟩;subst gM;refine Lp hi hn (λ_=>rfl) (λ_=>rfl) _ _ _ _ hE (λg' sx=> ?_) (λb o hs=> .inl hs) (λb _ fu=>jg b (λe=>fu (by rw[e]))) ?_
 ·cases sx;exact⟨.inr r1,by rw[iq];exact(aoG.1 r4).1⟩
 ·refine⟨by rw[my,hl];exact lA.1,by rw[hl];exact lA.2.1,jm, .inr ⟨g,cap,_,by simp [Gh.grow],by rw[zH,hl];exact r2,r3,o6,by rw[hl];exact r5,r6,by rw[S9 _ _ _ hb];exact r7,r8,λi j c x u hc hx hu=> ?_⟩⟩;rw[Zz _ _ _ _ hb]at hu;exact(zT i j c x u hc hx hu).keep hE (aoC _)
theorem alX{t n i j L k:Nat}{e:TypeId}{cs:apf (apf AV)}{c:apf AV}{x:AV}{v u:apj}(hi:bN G w h)(hn:h[n]?=some (.vec e k cs))(hL:cs.length=L)(hc:cs[i]?=some c)(hv:aF G w v (.dn n i j L k))(hx:aF G w u x)(Px:x.jS=true)(ht:gh P t=some x.cells.length)(hj:j+x.cells.length<=k)(gK:0<k):
 ∃w' G',(Instr.storeAt t v u).run P w= .ok () w'/\bM G.N G w G' w'/\G.N<=G'.N/\bN G' w' (h.set n (.vec e k (cs.set i (iW c j x.cells)))):=by
 have jR:i<cs.length:=(aor.1 hc).1;have jm:=FJ hi hn;have hck:c.length=k:=jm c (aoE hc);obtain⟨g,cap,cur,r1,r2,r3,r4,r5,r6,r7,r8,r9⟩:=Gp hi hn (λe=>by subst e;simp at jR);obtain⟨_,g',Fm,p1,p2⟩:=hv.Yk hi hn hL;rw[r2]at p1;cases p1
 obtain⟨c1,c2⟩:=hx.cells Px;have oB:u.cells.toList.length=x.cells.length:=by rw[aoY,c1]
 have jq:∀y∈u.cells.toList,y.oneCell'=true:=λy hy=>by
  obtain⟨q,hq⟩:=List.mem_iff_getElem?.1 hy;have Gd:u.cells[q]?=some y:=by rw[<-aoO];exact hq
  have hql:q<x.cells.length:=by rw[<-c1];exact(aoG.1 Gd).1
  exact(c2 q y _ Gd (aov hql)).2
 have mf:i*k+j+x.cells.length<=cur.size:=by
  have J:(i+1)*k<=cap*k:=Nat.mul_le_mul_right k (aoP jR r5);rw[Nat.add_mul]at J;rw[r7];omega
 have dB:=aiW (P:=P) (off:=i*k+j) r4 ht c1 jq mf;obtain⟨G',e1,e2,e3,_⟩:=V2 (us:=u.cells.toList) (off:=i*k+j) (cB:=cs.set i (iW c j x.cells)) hi hn gK r1 r2 r3 r4 r5 r6 r7 r8 (by rw[oB];exact mf) (by rw[List.length_set]) (λd hd=>by
     obtain⟨q,hq⟩:=List.mem_iff_getElem?.1 hd;by_cases e:i=q
     ·subst e;rw[aoU jR]at hq;cases hq
      rw[D9 _ _ _ (by omega)];exact hck
     ·rw[aoZ e]at hq;exact jm d (aoE hq)) (λa b d y z hd hy hz=>by
     have jn:b<k:=by
      by_cases e:i=a
      ·subst e;rw[aoU jR]at hd;cases hd
       have:=(aor.1 hy).1;rw[D9 _ _ _ (by omega)]at this;omega
      ·rw[aoZ e]at hd;rw[<-jm d (aoE hd)];exact(aor.1 hy).1
     rw[oB]at hz;by_cases e:i=a
     ·subst e;rw[aoU jR]at hd;cases hd
      rw[ajn _ _ _ _ (by omega)]at hy;by_cases hb:j<=b/\b<j+x.cells.length
      ·rw[if_pos hb]at hy;rw[if_pos (by omega),show i*k+b-(i*k+j)=b-j by omega,aoO]at hz;exact(c2 _ _ _ hz hy).1
      ·rw[if_neg hb]at hy;rw[if_neg (by omega)]at hz;exact r9 i b c y z hc hy hz
     ·rw[aoZ e]at hd;rw[if_neg ?_]at hz
      ·exact r9 a b d y z hd hy hz
      ·intro hh;have:a*k+b=i*k+(a*k+b-i*k):=by omega
       exact e ((ahV (i:=a) (i':=i) (j:=b) (j':=a*k+b-i*k) jn (by omega) this).1.symm))
 refine⟨_,G',?_,e1,by rw[e2];exact aoC _,e3⟩;rw[p2];simp [Instr.storeAt,Instr.sureAddr,dB]
end
section
variable {P:api} {G:Gh} {w:apk} {h:apf aq}
structure A1(G:Gh)(w:World)(k:Nat)(ys:List (List AV))(us:List Value):Prop where
 len:us.length=ys.length*k
 wid:∀c∈ys,c.length=k
 one:∀u∈us,u.oneCell'=true
 rel:∀(i j:Nat)(c:List AV)(x:AV)(u:Value),ys[i]?=some c->c[j]?=some x->us[i*k+j]?=some u->aF G w u x
theorem SE{k tx e':Nat}{y:AV}{v:apj}{ys:apf (apf AV)}(hi:bN G w h)(hv:aF G w v y)(hs:AZ h k y ys)(gK:0<k)(hT:P.underlying tx=some (.slice e')):
 ∃us,A1 G w k ys us/\Src P k tx v ys.length us w:=by
 rcases hs with⟨xs,J,h2,rfl⟩|⟨n,o,len,L,e,cs,rfl,h2,h3,h4,h5⟩
 ·obtain⟨us,hr,xx⟩:=(hv.list J).src gK h2 hT;have hl:(cd xs).length=xs.length:=by unfold cd;rw[aow]
  refine⟨us,⟨by rw[hl];exact hr.len,λc hc=> ?_,hr.one,λi j c x u hc hx hu=> ?_⟩,by rw[hl];exact xx⟩
  ·unfold cd at hc;obtain⟨d,hd,rfl⟩:=List.mem_map.1 hc;rw[aow];exact h2 d hd
  ·unfold cd at hc;rw[aoy]at hc;cases kP:xs[i]? with
   |none=>rw[kP]at hc;cases hc
   |some d=>
    rw[kP]at hc;cases hc
    rw[aoy]at hx;cases hy:d[j]? with
    |none=>rw[hy]at hx;cases hx
    |some z=>
     rw[hy]at hx;cases hx
     obtain⟨u',a1,a2⟩:=hr.rel i j d z kP hy;rw[a1]at hu;cases hu
     exact .d a2
 ·have lL:=hv.vc hi h2 h3;obtain⟨A,c,rfl,c1,c2,c3,c4⟩:=lL.sl;have py:ys.length=len:=by rw[h4,List.length_take,List.length_drop,h3];have:=lL.ol;omega
  by_cases h0:len=0
  ·subst h0;have:ys=[]:=List.eq_nil_of_length_eq_zero py;subst this;refine⟨[],⟨by simp,(λ_ h=>by cases h),(λ_ h=>by cases h),λi j c x u hc=>by simp at hc⟩,?_⟩;cases A with
   |none=>exact Src.ofNil w hT c
   |some a=>exact Src.ofSlice w hT a 0 c [] (by simp) (λj u hu=>by simp at hu) (λu hu=>by cases hu)
  ·have ho:o<L:=by have:=lL.ol;omega
   obtain⟨g,cap,p1,rfl,p3⟩:=c4 ho;have cE:cs≠ []:=λe=>by subst e;simp at h3;omega
   obtain⟨g',Fm,cur,r1,r2,r3,r4,r5,r6,r7,r8,r9⟩:=Gp hi h2 cE;rw[r2]at p1;cases p1
   have jm:=FJ hi h2;have ie:∀q,q<len*k->o*k+q<cur.size:=λq hq=>by
    have J:(o+len)*k<=cap*k:=Nat.mul_le_mul_right k (by have:=lL.ol;omega);rw[Nat.add_mul]at J;rw[r7];omega
   have jO:∀i,i<len->ys[i]?=cs[o+i]?:=λi dO=>by rw[h4,List.getElem?_take_of_lt dO,List.getElem?_drop]
   have jq:∀q,q<len*k->(cur.getD (o*k+q) undef).oneCell'=true:=λq hq=>by
    have MQ:q / k<len:=Nat.div_lt_of_lt_mul (by rw[Nat.mul_comm];exact hq);have hkj:q%k<k:=Nat.mod_lt _ gK;obtain⟨d,gO⟩:∃d,cs[o+q / k]?=some d:=⟨_,aov (by have:=lL.ol;omega)⟩;have DE:=jm _ (aoE gO);obtain⟨x,hx⟩:∃x,d[q%k]?=some x:=⟨_,aov (by rw[DE];exact hkj)⟩;have e1:(o+q / k)*k+q%k=o*k+q:=by
     rw[Nat.add_mul];have:=Nat.div_add_mod q k;rw[Nat.mul_comm]at this;omega
    have hu':cur[(o+q / k)*k+q%k]?=some (cur.getD (o*k+q) undef):=by
     rw[e1];simp [Array.getD,ie q hq]
    refine(r9 _ _ _ _ _ gO hx hu').kh ?_;have jD:d∈ys:=aoE ((jO _ MQ).trans gO);have:=h5 _ jD;rw[aoR]at this;exact this _ (aoE hx)
   refine⟨(List.range (len*k)).map λq=>cur.getD (o*k+q) undef,⟨by rw[py];simp,λc hc=>jm c ?_,λu hu=> ?_,λi j c x u hc hx hu=> ?_⟩,?_⟩
   ·rw[h4]at hc;exact List.mem_of_mem_drop (List.mem_of_mem_take hc)
   ·obtain⟨q,hq,rfl⟩:=List.mem_map.1 hu;exact jq q (List.mem_range.1 hq)
   ·have jR:i<len:=by rw[<-py];exact(aor.1 hc).1
    rw[jO i jR]at hc;have A8:j<k:=by rw[<-jm c (aoE hc)];exact(aor.1 hx).1
    have aN:i*k+j<len*k:=m4 jR A8;rw[aoy,List.getElem?_range aN]at hu;simp only[Option.map_some,Option.some.injEq]at hu;refine r9 (o+i) j c x u hc hx ?_;rw[<-hu,show(o+i)*k+j=o*k+(i*k+j) by rw[Nat.add_mul];omega];simp [Array.getD,ie _ aN]
   ·rw[py];refine Src.ofSlice w hT _ len c _ (by simp) (λj u hu=> ?_) (λu hu=> ?_)
    ·rw[lI,cell_of_row w g _ cur e (0,0) r4];rw[aoy]at hu;by_cases hj:j<len*k
     ·rw[List.getElem?_range hj]at hu;simp only[Option.map_some,Option.some.injEq]at hu;rw[<-hu];simp [Array.getD,ie _ hj]
     ·rw[aoX (by simp;omega)]at hu;cases hu
    ·obtain⟨q,hq,rfl⟩:=List.mem_map.1 hu;exact jq q (List.mem_range.1 hq)
theorem A1.keep{G':Gh}{w':apk}{k:Nat}{ys:apf (apf AV)}{us:apf apj}(h:A1 G w k ys us)(hE:bM G.N G w G' w')(hN:G.N<=G'.N):A1 G' w' k ys us:=
 ⟨h.len,h.wid,h.one,λi j c x u J h2 h3=>(h.rel i j c x u J h2 h3).keep hE hN⟩
theorem adT{α:Type}{k:Nat}(l:apf α)(us:apf α)(m i j:Nat)(hl:l.length=m*k)(hj:j<k):(l++us)[i*k+j]?=if i<m then l[i*k+j]? else us[(i-m)*k+j]?:=by
 by_cases h:i<m
 ·rw[if_pos h,aoB (by rw[hl];exact m4 h hj)]
 ·have J:m*k<=i*k:=Nat.mul_le_mul_right k (by omega);rw[if_neg h,aoH (by rw[hl];omega),hl,Nat.sub_mul,show i*k+j-m*k=i*k-m*k+j by omega]
theorem Pn{e k cap:Nat}{cs:apf (apf AV)}{cur:Array apj}(hi:bN G w h)(J:cs.length<=cap)(h2:cap<=maxLen)(h3:cur.size=cap*k)(jm:∀c∈cs,c.length=k)(w0:apk)(rf:w0.heap=w.heap/\w0.os=w.os/\w0.tape=w.tape/\w0.output=w.output)
 (zT:∀(i j:Nat)(c:apf AV)(x:AV)(u:apj),cs[i]?=some c->c[j]?=some x->cur[i*k+j]?=some u->aF G w u x):
 ∃G',bM G.N G w G' (w0.alloc (.cells cur e))/\G.N<=G'.N/\bN G' (w0.alloc (.cells cur e)) (h++[.vec e k cs])/\∀len,len<=cs.length->aF G' (w0.alloc (.cells cur e)) (.slice (some ⟨w.heap.size,0,none⟩) len cap) (.vec h.length 0 len cs.length k):=by
 have iq:w0.heap.size=w.heap.size:=by rw[rf.1]
 have fm:(w0.alloc (.cells cur e)).heap[w.heap.size]?=some (.cells cur e (0,0)):=by rw[<-iq];exact World.alloc_heap_new w0 _
 have hold:∀b,b<w.heap.size->(w0.alloc (.cells cur e)).heap[b]?=w.heap[b]?:=λb hb=>by rw[Below.heap_alloc w0 _ b (by rw[iq];exact hb),rf.1]
 have hw:(∀b,b<w.heap.size->(w0.alloc (.cells cur e)).heap[b]?=w.heap[b]?)/\w.heap.size<=(w0.alloc (.cells cur e)).heap.size/\(w0.alloc (.cells cur e)).os=w.os/\(w0.alloc (.cells cur e)).tape=w.tape/\(w0.alloc (.cells cur e)).output=w.output:=
  ⟨hold,by simp [iq],rf.2.1,rf.2.2.1,rf.2.2.2⟩
 obtain⟨sv,mh⟩:∃sv,sv=Value.slice (some ⟨w.heap.size,0,none⟩) cs.length cap:=⟨_,rfl⟩;obtain⟨CW,_⟩:bM G.N G w (G.e8 sv cs.length (some w.heap.size)) (w0.alloc (.cells cur e))/\True:=by
  refine⟨⟨hw.2.1,λ_ _ h=>h,λb o hs=>World.cell?_of_block (hw.1 b (hi.S b o hs)),λ_ _=>rfl,λn hn=> .inl ⟨by simp [Gh.e8,Nat.ne_of_lt hn],by simp [Gh.e8,Nat.ne_of_lt hn]⟩,zsame rfl,λb hb=>hw.1 b (hi.z b hb),hw.2.2.1,hw.2.2.2.1,hw.2.2.2.2,λ_ _ h=> .inl h⟩,trivial⟩
 obtain⟨hE,hI⟩:=OU (w':=w0.alloc (.cells cur e)) hi (.vec e k cs) (λ_ _=>rfl) sv cs.length (some w.heap.size) hw (λg hg=>by cases hg;exact aoC _) (by
  refine⟨by simp [Gh.e8],aoJ J h2,jm, .inr ⟨w.heap.size,cap,cur,by simp [Gh.e8],by simp [Gh.e8,mh],λhz=>ao5 _ (hi.z _ hz),fm,J,h2,h3,λo hs=>ao5 _ (hi.S _ _ hs),λi j c x u hc hx hu=>(zT i j c x u hc hx hu).keep CW (Nat.le_succ _)⟩⟩)
 refine⟨_,hE,Nat.le_succ _,hI,λlen hlen=> ?_⟩;rw[hi.len];refine .vec G.N 0 len cs.length k (by simp [Gh.e8]) ⟨_,_,_,rfl⟩ (by simp [Gh.e8]) λ_=>⟨by omega,⟨_,_,rfl,aoJ hlen J,h2,J,λ_=>⟨w.heap.size,cap,by simp [Gh.e8,mh],by simp,by simp⟩⟩,λ_ e=>by subst e;simp [Gh.e8,mh]⟩
theorem alp{T e k len m cW:Nat}{i:TypeInfo}{z:apj}{kl kc:IntKind}{l c:Int}(hi:bN G w h)(hT:P.underlying T=some (.slice e))(lr:P.info? e=some i)(hz:i.zero=some z)(l7:i.size=k)(xf:i.bytes=cW)(kt:z.cells.toList.length=k)(gK:0<k)
 (h0:0<=l) (ln:l<=c) (hl:l.toNat=len) (hc:c.toNat=m) (hm:m<=maxLen) (hb:cW*m<=281474976710656):
 ∃u w' G',(Instr.makeSlice T (.int kl l) (.int kc c)).run P w= .ok u w'/\bM G.N G w G' w'/\G.N<=G'.N/\bN G' w' (h++[.vec e k (List.replicate m (z.cells.toList.map λu=> .d (.v u)))])/\aF G' w' u (.vec h.length 0 len m k):=by
 subst l7;subst xf;have fu:(i.bytes:Int)*c<=281474976710656:=by
  have:((i.bytes*m:Nat):Int)<=281474976710656:=by omega
  rw[Int.natCast_mul,<-hc,Int.toNat_of_nonneg (by omega)]at this;exact this
 have h63:c<=9223372036854775807:=by have h:=hm;simp [maxLen]at h;omega
 have dB:=run_make (P:=P) w T e i z hT lr hz kl kc l c h0 ln fu h63;rw[hl,hc]at dB;have gr:(List.replicate m (z.cells.toList.map λu=>AV.d (.v u))).length=m:=ao1;obtain⟨G',g1,g2,g3,g4⟩:=Pn (e:=e) (k:=i.size) (cap:=m) (cs:=List.replicate m (z.cells.toList.map λu=>AV.d (.v u))) (cur:=madeCells z.cells (m*i.size)) hi (by rw[gr];exact aoC _) hm (size_madeCells _ _) (λc hc=>by
  rw[List.eq_of_mem_replicate hc,aow];exact kt) w ⟨rfl,rfl,rfl,rfl⟩ (λa b c x u hc hx hu=>by
  have:=List.eq_of_mem_replicate (aoE hc);subst this;rw[aoy]at hx;cases hq:z.cells.toList[b]? with
  |none=>rw[hq]at hx;cases hx
  |some y=>
   rw[hq]at hx;cases hx
   have jn:b<i.size:=by rw[<-kt];exact(aor.1 hq).1
   have PE:a<m:=by have:=(aor.1 hc).1;rwa [gr]at this
   unfold madeCells at hu;have aN:a*i.size+b<m*i.size:=m4 PE jn;rw[Array.getElem?_map,Array.getElem?_range,if_pos aN]at hu;simp only[Option.map_some,Option.some.injEq]at hu;have jA:z.cells.size=i.size:=by rw[<-aoY];exact kt
   rw[jA,(JC (i:=a) jn).2]at hu;have qJ:z.cells[b]?=some y:=by rw[<-aoO];exact hq
   rw[getElem!_pos z.cells b (by rw[jA];exact jn)]at hu;rw[aoN (by rw[jA];exact jn)]at qJ;cases qJ
   subst hu;exact .d (.v _))
 rw[gr]at g4;refine⟨_,_,G',dB,g1,g2,g3,g4 len ?_⟩;rw[<-hl,<-hc];omega
theorem an8{T tx ty e k cW n o len L:Nat}{i:TypeInfo}{z:apj}{u v:apj}{cs ys:apf (apf AV)}{us:apf apj}(hi:bN G w h)(hT:P.underlying T=some (.slice e))(lr:P.info? e=some i)(hz:i.zero=some z)(l7:i.size=k)(xf:i.bytes=cW)(kt:z.cells.size=k)(gK:0<k)
 (hn:h[n]?=some (.vec e k cs)) (hL:cs.length=L) (hu:aF G w u (.vec n o len L k)) (hr:A1 G w k ys us) (hs:Src P k tx v ys.length us w)
 {L':Nat} {cB:apf (apf AV)} (qI:(o+len+ys.length<=L/\L'=L/\cB=cs.take (o+len)++ys++cs.drop (o+len+ys.length))\/(o=0/\len=L/\L'=L+ys.length/\cB=cs++ys/\L'<=maxLen/\L'*cW<=140737488355328)):
 ∃r w' G',(Builtin.append_ #[T,tx] ty #[u,v]).run P w= .ok r w'/\bM G.N G w G' w'/\G.N<=G'.N/\bN G' w' (h.set n (.vec e k cB))/\aF G' w' r (.vec n o (len+ys.length) L' k):=by
 subst l7;subst xf;have oW:=hi.lt hn;have jm:=FJ hi hn;have lL:=hu.vc hi hn hL;have lA:=hi.c7 n _ hn;have aoi:=lL;obtain⟨AE,⟨A,c,rfl,c1,c2,c3,c4⟩,call⟩:=lL;by_cases hy:ys.length=0
 ·have jO:ys=[]:=List.eq_nil_of_length_eq_zero hy;subst jO;have l8:us=[]:=List.eq_nil_of_length_eq_zero (by rw[hr.len];simp);subst l8;have dB:=run_append_nothing (P:=P) w T tx ty e i hT lr A len c c1 v hs;have e1:cB=cs:=by
   rcases qI with⟨_,_,e⟩|⟨_,_,_,e,_⟩
   ·rw[e];simp
   ·rw[e];simp
  have e2:L'=L:=by
   rcases qI with⟨_,e,_⟩|⟨_,_,e,_⟩
   ·exact e
   ·rw[e];simp
  subst e1;subst e2;refine⟨_,w,G,dB,bM.refl _ _ _,aoC _,?_,by simpa using hu⟩;have:h.set n (.vec e i.size cB)=h:=by
   refine List.ext_getElem? λm=> ?_;by_cases em:m=n
   ·subst em;rw[aoU (aor.1 hn).1,hn]
   ·rw[aoZ (Ne.symm em)]
  rw[this];exact hi
 ·have Xl:0<ys.length:=Nat.pos_of_ne_zero hy;have room:len+ys.length<=c->∀g cap cur,G.ow n=some g->G.sg n= .slice (some ⟨g,0,none⟩) cs.length cap->¬G.Z g->w.heap[g]?=some (.cells cur e (0,0))->cs.length<=cap->cap<=maxLen->cur.size=cap*i.size->(∀o,¬G.S g o)->
      (∀(a b:Nat)(d:apf AV)(x:AV)(q:apj),cs[a]?=some d->d[b]?=some x->cur[a*i.size+b]?=some q->aF G w q x)->A=some ⟨g,o*i.size,none⟩->o+c=cap->
      ∃r w' G',(Builtin.append_ #[T,tx] ty #[.slice A len c,v]).run P w= .ok r w'/\bM G.N G w G' w'/\G.N<=G'.N/\bN G' w' (h.set n (.vec e i.size cB))/\aF G' w' r (.vec n o (len+ys.length) L' i.size):=by
   intro rB g cap cur r1 r2 r3 r4 r5 r6 r7 r8 r9 rA rc;have mf:(o+len)*i.size+us.length<=cur.size:=by
    rw[hr.len,r7,<-Nat.add_mul];exact Nat.mul_le_mul_right _ (by omega)
   have AW:∀j,j<us.length->(w.cell? ⟨g,o*i.size+len*i.size+j,none⟩).isSome=true:=λj hj=>by
    rw[cell_of_row w g _ cur e (0,0) r4,aoN (by rw[Nat.add_mul]at mf;omega)];rfl
   have dB:=run_append_room_src (P:=P) w T tx ty e i hT lr g (o*i.size) len c v ys.length us hs rB AW (λj hj=>by unfold World.frozen?;rw[r4];simp);have lK:=run_storeCells_at P g (o*i.size+len*i.size) e us 0 cur w r4 (by rw[Nat.add_mul]at mf;simpa using mf) hr.one;have wO:=run_storeCells_cells (P:=P) g (o*i.size+len*i.size) us 0 w (by simpa using AW) (λj hj=>by unfold World.frozen?;rw[r4];simp) hr.one;simp only[Nat.add_zero]at lK wO;rw[lK]at wO;injection wO with _ e2;rw[<-e2,<-Nat.add_mul]at dB;rw[rA];have fm:∀(a b:Nat)(d:apf AV)(x:AV)(q:apj),cB[a]?=some d->d[b]?=some x->(if(o+len)*i.size<=a*i.size+b/\a*i.size+b<(o+len)*i.size+us.length then us[a*i.size+b-(o+len)*i.size]? else cur[a*i.size+b]?)=some q->aF G w q x:=by
    intro a b d x q hd hx hq;have QW:d.length=i.size:=by
     have hm:=aoE hd;rcases qI with⟨_,_,e⟩|⟨_,_,_,e,_⟩
     ·rw[e]at hm;rcases ao3.1 hm with hm|hm
      ·rcases ao3.1 hm with hm|hm
       ·exact jm d (List.mem_of_mem_take hm)
       ·exact hr.wid d hm
      ·exact jm d (List.mem_of_mem_drop hm)
     ·rw[e]at hm;rcases ao3.1 hm with hm|hm
      ·exact jm d hm
      ·exact hr.wid d hm
    have jn:b<i.size:=by rw[<-QW];exact(aor.1 hx).1
    have HK:(a<o+len/\cs[a]?=some d)\/(o+len<=a/\a<o+len+ys.length/\ys[a-(o+len)]?=some d)\/(o+len+ys.length<=a/\cs[a]?=some d):=by
     rcases qI with⟨hf,_,e⟩|⟨e0,e1,_,e,_⟩
     ·rw[e]at hd;have MM:(cs.take (o+len)).length=o+len:=by rw[List.length_take];omega
      by_cases J:a<o+len
      ·rw[aoI,aoB (by rw[MM];exact J),List.getElem?_take_of_lt J]at hd;exact .inl ⟨J,hd⟩
      ·rw[aoI,aoH (by rw[MM];omega),MM]at hd;by_cases h2:a-(o+len)<ys.length
       ·rw[aoB h2]at hd;exact .inr (.inl ⟨by omega,by omega,hd⟩)
       ·rw[aoH (by omega),List.getElem?_drop,show o+len+ys.length+(a-(o+len)-ys.length)=a by omega]at hd;exact .inr (.inr ⟨by omega,hd⟩)
     ·rw[e]at hd;by_cases J:a<cs.length
      ·rw[aoB J]at hd;exact .inl ⟨by omega,hd⟩
      ·rw[aoH (by omega)]at hd;have:=(aor.1 hd).1;exact .inr (.inl ⟨by omega,by omega,by rw[show a-(o+len)=a-cs.length by omega];exact hd⟩)
    rcases HK with⟨J,h2⟩|⟨J,h2,h3⟩|⟨J,h2⟩
    ·rw[if_neg (by have:=m4 J jn;omega)]at hq;exact r9 a b d x q h2 hx hq
    ·have hle:(o+len)*i.size<=a*i.size:=Nat.mul_le_mul_right _ J;have aN:a*i.size+b<(o+len+ys.length)*i.size:=m4 h2 jn;rw[Nat.add_mul (o+len)]at aN;rw[if_pos ⟨by omega,by rw[hr.len];exact aN⟩]at hq;refine hr.rel (a-(o+len)) b d x q h3 hx ?_;rw[Nat.sub_mul,show a*i.size-(o+len)*i.size+b=a*i.size+b-(o+len)*i.size by omega];exact hq
    ·have hle:(o+len+ys.length)*i.size<=a*i.size:=Nat.mul_le_mul_right _ J;rw[Nat.add_mul (o+len)]at hle;rw[if_neg (by rw[hr.len];omega)]at hq;exact r9 a b d x q h2 hx hq
   have U0:∀d∈cB,d.length=i.size:=λd hm=>by
    rcases qI with⟨_,_,e⟩|⟨_,_,_,e,_⟩
    ·rw[e]at hm;rcases ao3.1 hm with hm|hm
     ·rcases ao3.1 hm with hm|hm
      ·exact jm d (List.mem_of_mem_take hm)
      ·exact hr.wid d hm
     ·exact jm d (List.mem_of_mem_drop hm)
    ·rw[e]at hm;rcases ao3.1 hm with hm|hm
     ·exact jm d hm
     ·exact hr.wid d hm
   rcases qI with⟨hf,eL,ec⟩|⟨e0,e1,eL,ec,kH,mT⟩
   ·have gr:cB.length=cs.length:=by rw[ec];simp;omega
    obtain⟨G',k1,k2,k3,k4,k5⟩:=V2 (us:=us) (off:=(o+len)*i.size) (cB:=cB) hi hn gK r1 r2 r3 r4 r5 r6 r7 r8 mf gr U0 fm;refine⟨_,_,G',dB,k1,by rw[k2];exact aoC _,k3,?_⟩;refine .vec n o (len+ys.length) L' i.size (by rw[k2];exact oW) ⟨_,_,_,rfl⟩ (by rw[k5,eL,lA.1,hL];exact aoC _) λ_=> ?_;rw[k4];refine⟨by omega,⟨_,_,rfl,rB,c2,by omega,λho=> ?_⟩,λho hl=> ?_⟩
    ·rw[eL]at ho ⊢;obtain⟨g2,aaq,q1,q2,q3⟩:=c4 ho;exact⟨g2,aaq,q1,by rw[<-q2,rA],q3⟩
    ·subst ho;rw[r2,hL,<-eL,<-hl];simp at rc;subst rc;simp
   ·subst e0;subst e1;simp only[aoL,Nat.zero_mul]at*;subst rc;obtain⟨w',eZ⟩:∃w',w'=w.setRow g (cur.toList.take (len*i.size)++us++cur.toList.drop (len*i.size+us.length)).toArray:=⟨_,rfl⟩;rw[<-eZ]at dB;have jg:∀b,b≠g->w'.heap[b]?=w.heap[b]?:=λb hb=>by rw[eZ];exact setRow_other w g b _ hb
    have o6:w'.heap[g]?=some (.cells (cur.toList.take (len*i.size)++us++cur.toList.drop (len*i.size+us.length)).toArray e (0,0)):=by rw[eZ];exact setRow_heap w g cur _ e _ r4
    have iq:w'.heap.size=w.heap.size:=by rw[eZ];exact Mt w g _
    obtain⟨sv,mh⟩:∃sv,sv=Value.slice (some ⟨g,0,none⟩) L' c:=⟨_,rfl⟩;have gr:cB.length=L':=by rw[ec,aos,hL,eL]
    have my:G.fl n=len:=by rw[lA.1,hL]
    have hE:bM G.N G w (G.grow n G.S sv L' (some g)) w':=⟨by rw[iq];exact aoC _,λ_ _ h=>h,λb q hs=>World.cell?_of_block (jg b (λe=>r8 q (e▸hs))),λ_ _=>rfl,λm _=>by
        by_cases em:m=n
        ·right;subst em;simp only[Gh.grow,if_true,my];omega
        ·left;exact⟨by simp [Gh.grow,em],by simp [Gh.grow,em]⟩,zsame rfl,λb hb=>jg b (λe=>r3 (e▸hb)),by rw[eZ];rfl,by rw[eZ];rfl,by rw[eZ];rfl,λb q hs=> .inl hs⟩
    refine⟨_,w',_,dB,hE,aoC _,Lp hi hn (λ_=>rfl) (λ_=>rfl) _ _ _ _ hE (λg' sx=>by cases sx;exact⟨.inr r1,by rw[iq];exact(aoG.1 r4).1⟩) (λb q hs=> .inl hs) (λb _ fu=>jg b (λe=>fu (by rw[e]))) ?_,?_⟩
    ·refine⟨by simp [Gh.grow,gr],by rw[gr];exact kH,U0, .inr ⟨g,c,_,by simp [Gh.grow],by simp [Gh.grow,mh,gr],r3,o6,by rw[gr];omega,r6,by rw[S9 _ _ _ mf];exact r7,r8,λa b d x q hd hx hq=> ?_⟩⟩;rw[Zz _ _ _ _ mf]at hq;exact(fm a b d x q hd hx hq).keep hE (aoC _)
    ·refine .vec n 0 (len+ys.length) L' i.size oW ⟨_,_,_,rfl⟩ (by simp [Gh.grow]) λ_=>⟨by omega,⟨_,_,rfl,rB,c2,by omega,λ_=>⟨g,c,by simp [Gh.grow,mh],by simp,by simp⟩⟩,λ_ e=> ?_⟩;simp [Gh.grow,mh,eL]
  rcases lA.2.2.2 with⟨b1,b2,A',b3⟩|⟨g,cap,cur,r1,r2,r3,r4,r5,r6,r7,r8,r9⟩
  ·
   subst b2;simp at hL;subst hL;have ho:o=0:=by omega
   have Jz:len=0:=by omega
   subst ho;subst Jz;have:=call rfl rfl;rw[b3]at this;injection this with q1 _ q2;subst q2;rcases qI with⟨hf,_,_⟩|⟨_,_,eL,ec,kH,mT⟩
   ·omega
   ·simp only[aoL,List.nil_append]at eL ec;subst ec;rw[eL]at kH mT;have Qv:cB.length<=9223372036854775807:=by simp only[maxLen]at kH;omega
    have hold:(Builtin.firstCells i.size 0 (.slice A 0 0)).run P w.drew= .ok ([]:apf apj).toArray w.drew:=by
     cases A with
     |none=>exact run_firstCells_none _ _ _ _ _
     |some a=>exact run_firstCells_some _ _ _ _ _ _ [] (by simp) (λj u hu=>by simp at hu)
    have dB:=run_append_grow_src (P:=P) w T tx ty e i z hT lr hz A 0 0 [] hold v cB.length us hs (by omega) (by omega) (growslice_fits (by omega) (by simpa using mT));simp only[aoL,List.nil_append]at dB;obtain⟨cap,jV⟩:∃cap,cap=grownCap w cB.length 0 e:=⟨_,rfl⟩;have jT:cB.length<=cap:=by rw[jV];exact grownCap_ge _ _ _ _
    have hle:cap<=maxLen:=by rw[jV];exact grownCap_le_maxLen _ _ _ _ kH
    rw[<-jV]at dB;obtain⟨cur,kD⟩:∃cur,cur=us.toArray++Builtin.zeroCells z.cells (cap-cB.length):=⟨_,rfl⟩;rw[<-kD]at dB;have gO:cur.size=cap*i.size:=by
      have:=size_zeroCells z.cells (cap-cB.length);rw[kD,Array.size_append,this,List.size_toArray,hr.len,kt,<-Nat.add_mul]
      congr 1
      omega
    have fm:(w.drew.alloc (.cells cur e)).heap[w.heap.size]?=some (.cells cur e (0,0)):=World.alloc_heap_new w.drew _;have yw:∀b,b<w.heap.size->(w.drew.alloc (.cells cur e)).heap[b]?=w.heap[b]?:=λb hb=>Below.heap_alloc w.drew _ b hb;obtain⟨sv,mh⟩:∃sv,sv=Value.slice (some ⟨w.heap.size,0,none⟩) L' cap:=⟨_,rfl⟩;have my:G.fl n=0:=by rw[lA.1];rfl
    have hE:bM G.N G w (G.grow n G.S sv L' (some w.heap.size)) (w.drew.alloc (.cells cur e)):=⟨by simp,λ_ _ h=>h,λb q hs=>World.cell?_of_block (yw b (hi.S b q hs)),λ_ _=>rfl,λm _=>by
        by_cases em:m=n
        ·right;subst em;simp only[Gh.grow,if_true,my];omega
        ·left;exact⟨by simp [Gh.grow,em],by simp [Gh.grow,em]⟩,zsame rfl,λb hb=>yw b (hi.z b hb),rfl,rfl,rfl,λb q hs=> .inl hs⟩
    refine⟨_,_,_,dB,hE,aoC _,Lp hi hn (λ_=>rfl) (λ_=>rfl) _ _ _ _ hE (λg' sx=>by cases sx;exact⟨.inl rfl,by simp⟩) (λb q hs=> .inl hs) (λb hb _=>yw b hb) ?_,?_⟩
    ·refine⟨by simp [Gh.grow,eL],kH,hr.wid, .inr ⟨w.heap.size,cap,cur,by simp [Gh.grow],by simp [Gh.grow,mh,eL],λhz=>ao5 _ (hi.z _ hz),fm,jT,hle,gO,λq hs=>ao5 _ (hi.S _ _ hs),λa b d x q hd hx hq=> ?_⟩⟩;have jn:b<i.size:=by rw[<-hr.wid d (aoE hd)];exact(aor.1 hx).1
     have aN:a*i.size+b<us.length:=by rw[hr.len];exact m4 (aor.1 hd).1 jn
     rw[kD,Array.getElem?_append_left (by simpa using aN),List.getElem?_toArray]at hq;exact(hr.rel a b d x q hd hx hq).keep hE (aoC _)
    ·rw[aoL];refine .vec n 0 cB.length L' i.size oW ⟨_,_,_,rfl⟩ (by simp [Gh.grow]) λ_=>⟨by omega,⟨_,_,rfl,jT,hle,by omega,λ_=>⟨w.heap.size,cap,by simp [Gh.grow,mh],by simp,by simp⟩⟩,λ_ e=> ?_⟩;simp [Gh.grow,mh,eL]
  ·
   rcases qI with⟨hf,eL,ec⟩|⟨e0,e1,eL,ec,kH,mT⟩
   ·obtain⟨g2,aaq,q1,q2,q3⟩:=c4 (by omega);rw[r2]at q1;injection q1 with q4 _ q5;cases q4
    subst q5;exact room (by omega) g cap cur r1 r2 r3 r4 r5 r6 r7 r8 r9 q2 q3
   ·have:=call e0 e1;rw[r2]at this;injection this with q2 _ q3;by_cases rB:len+ys.length<=c
    ·exact room rB g cap cur r1 r2 r3 r4 r5 r6 r7 r8 r9 (by rw[q2,e0];simp) (by omega)
    ·subst e0;subst q2;subst q3;rw[eL]at kH mT;have Qv:L+ys.length<=9223372036854775807:=by simp only[maxLen]at kH;omega
     have Lm:(cur.toList.take (len*i.size)).length=len*i.size:=by
      rw[List.length_take,aoY,r7];exact Nat.min_eq_left (Nat.mul_le_mul_right _ c1)
     have hold:(Builtin.firstCells i.size len (.slice (some ⟨g,0,none⟩) len c)).run P w.drew= .ok (cur.toList.take (len*i.size)).toArray w.drew:=
      run_firstCells_some _ _ _ _ _ _ _ Lm (λj q hq=>by
       rw[lI,aoL];show w.cell? ⟨g,j,none⟩=some q;rw[cell_of_row w g _ cur e (0,0) r4,<-aoO];have yK:=(aor.1 hq).1;rw[Lm]at yK;rw[List.getElem?_take_of_lt yK]at hq;exact hq)
     have dB:=run_append_grow_src (P:=P) w T tx ty e i z hT lr hz (some ⟨g,0,none⟩) len c _ hold v ys.length us hs (by omega) (by omega) (growslice_fits (by omega) (by rw[e1];exact mT));obtain⟨cap,jV⟩:∃cap,cap=grownCap w (len+ys.length) c e:=⟨_,rfl⟩;have jT:len+ys.length<=cap:=by rw[jV];exact grownCap_ge _ _ _ _
     have hle:cap<=maxLen:=by rw[jV];exact grownCap_le_maxLen _ _ _ _ (by rw[e1];exact kH)
     rw[<-jV]at dB;obtain⟨uC,kD⟩:∃uC,uC=(cur.toList.take (len*i.size)++us).toArray++Builtin.zeroCells z.cells (cap-(len+ys.length)):=⟨_,rfl⟩;rw[<-kD]at dB;have Bq:(cur.toList.take (len*i.size)++us).length=(len+ys.length)*i.size:=by rw[aos,Lm,hr.len,<-Nat.add_mul]
     have gO:uC.size=cap*i.size:=by
      have:=size_zeroCells z.cells (cap-(len+ys.length));rw[kD,Array.size_append,this,List.size_toArray,Bq,kt,<-Nat.add_mul]
      congr 1
      omega
     have fm:(w.drew.alloc (.cells uC e)).heap[w.heap.size]?=some (.cells uC e (0,0)):=World.alloc_heap_new w.drew _;have yw:∀b,b<w.heap.size->(w.drew.alloc (.cells uC e)).heap[b]?=w.heap[b]?:=λb hb=>Below.heap_alloc w.drew _ b hb;obtain⟨sv,mh⟩:∃sv,sv=Value.slice (some ⟨w.heap.size,0,none⟩) L' cap:=⟨_,rfl⟩;have my:G.fl n=L:=by rw[lA.1,hL]
     have gr:cB.length=L':=by rw[ec,aos,hL,eL]
     have hE:bM G.N G w (G.grow n G.S sv L' (some w.heap.size)) (w.drew.alloc (.cells uC e)):=⟨by simp,λ_ _ h=>h,λb q hs=>World.cell?_of_block (yw b (hi.S b q hs)),λ_ _=>rfl,λm _=>by
         by_cases em:m=n
         ·right;subst em;simp only[Gh.grow,if_true,my];omega
         ·left;exact⟨by simp [Gh.grow,em],by simp [Gh.grow,em]⟩,zsame rfl,λb hb=>yw b (hi.z b hb),rfl,rfl,rfl,λb q hs=> .inl hs⟩
     refine⟨_,_,_,dB,hE,aoC _,Lp hi hn (λ_=>rfl) (λ_=>rfl) _ _ _ _ hE (λg' sx=>by cases sx;exact⟨.inl rfl,by simp⟩) (λb q hs=> .inl hs) (λb hb _=>yw b hb) ?_,?_⟩
     ·refine⟨by simp [Gh.grow,gr],by rw[gr,eL];exact kH,λd hd=> ?_, .inr ⟨w.heap.size,cap,uC,by simp [Gh.grow],by simp [Gh.grow,mh,gr],λhz=>ao5 _ (hi.z _ hz),fm,by rw[gr];omega,hle,gO,λq hs=>ao5 _ (hi.S _ _ hs),λa b d x q hd hx hq=> ?_⟩⟩
      ·rw[ec]at hd;rcases ao3.1 hd with hd|hd
       ·exact jm d hd
       ·exact hr.wid d hd
      ·refine aF.keep hE (aoC _) ?_;have QW:d.length=i.size:=by
        have hm:=aoE hd;rw[ec]at hm;rcases ao3.1 hm with hm|hm
        ·exact jm d hm
        ·exact hr.wid d hm
       have jn:b<i.size:=by rw[<-QW];exact(aor.1 hx).1
       have hal:a<len+ys.length:=by
        have:=(aor.1 hd).1;rw[gr,eL]at this;omega
       have aN:a*i.size+b<(cur.toList.take (len*i.size)++us).length:=by rw[Bq];exact m4 hal jn
       rw[kD,Array.getElem?_append_left (by simpa using aN),List.getElem?_toArray,adT _ us len a b Lm jn]at hq;rw[ec]at hd;by_cases J:a<len
       ·rw[if_pos J,List.getElem?_take_of_lt (m4 J jn),aoO]at hq;rw[aoB (by omega)]at hd;exact r9 a b d x q hd hx hq
       ·rw[if_neg J]at hq;rw[aoH (by omega)]at hd;exact hr.rel (a-len) b d x q (by rw[<-hd];congr 1;omega) hx hq
     ·refine .vec n 0 (len+ys.length) L' i.size oW ⟨_,_,_,rfl⟩ (by simp [Gh.grow]) λ_=>⟨by omega,⟨_,_,rfl,jT,hle,by omega,λ_=>⟨w.heap.size,cap,by simp [Gh.grow,mh],by simp,by simp⟩⟩,λ_ e=> ?_⟩;simp [Gh.grow,mh,eL,e1]
theorem Wa{T tx ty e k cW:Nat}{i:TypeInfo}{z:apj}{A:aph Addr}{v:apj}{ys:apf (apf AV)}{us:apf apj}(hi:bN G w h)(hT:P.underlying T=some (.slice e))(lr:P.info? e=some i)(hz:i.zero=some z)(l7:i.size=k)(xf:i.bytes=cW)(kt:z.cells.size=k)(gK:0<k)
 (hr:A1 G w k ys us) (hs:Src P k tx v ys.length us w) (kH:ys.length<=maxLen) (mT:ys.length*cW<=140737488355328):
 ∃r w' G',(Builtin.append_ #[T,tx] ty #[.slice A 0 0,v]).run P w= .ok r w'/\bM G.N G w G' w'/\G.N<=G'.N/\bN G' w' (h++[.vec e k ys])/\aF G' w' r (.vec h.length 0 ys.length ys.length k):=by
 subst l7;subst xf;by_cases hy:ys.length=0
 ·have jO:ys=[]:=List.eq_nil_of_length_eq_zero hy;subst jO;have l8:us=[]:=List.eq_nil_of_length_eq_zero (by rw[hr.len];simp);subst l8;have dB:=run_append_nothing (P:=P) w T tx ty e i hT lr A 0 0 (aoC _) v hs;obtain⟨hE,hI⟩:=OU (w':=w) hi (.vec e i.size []) (λ_ _=>rfl) (.slice A 0 0) 0 none ⟨λ_ _=>rfl,aoC _,rfl,rfl,rfl⟩ (λg hg=>by cases hg) ⟨by simp [Gh.e8],by simp,(λ_ h=>by cases h), .inl ⟨by simp [Gh.e8],rfl,A,by simp [Gh.e8]⟩⟩;refine⟨_,w,_,dB,hE,Nat.le_succ _,hI,?_⟩;rw[hi.len];exact .vec G.N 0 0 0 i.size (by simp [Gh.e8]) ⟨_,_,_,rfl⟩ (by simp) λ_=>⟨by omega,⟨A,0,rfl,aoC _,Nat.zero_le _,by omega,λh=>by omega⟩,λ_ _=>by simp [Gh.e8]⟩
 ·have Qv:ys.length<=9223372036854775807:=by simp only[maxLen]at kH;omega
  have hold:(Builtin.firstCells i.size 0 (.slice A 0 0)).run P w.drew= .ok ([]:apf apj).toArray w.drew:=by
   cases A with
   |none=>exact run_firstCells_none _ _ _ _ _
   |some a=>exact run_firstCells_some _ _ _ _ _ _ [] (by simp) (λj u hu=>by simp at hu)
  have dB:=run_append_grow_src (P:=P) w T tx ty e i z hT lr hz A 0 0 [] hold v ys.length us hs (by omega) (by omega) (growslice_fits (by omega) (by simpa using mT));simp only[aoL,List.nil_append]at dB;obtain⟨cap,jV⟩:∃cap,cap=grownCap w ys.length 0 e:=⟨_,rfl⟩;have jT:ys.length<=cap:=by rw[jV];exact grownCap_ge _ _ _ _
  have hle:cap<=maxLen:=by rw[jV];exact grownCap_le_maxLen _ _ _ _ kH
  rw[<-jV]at dB;obtain⟨cur,kD⟩:∃cur,cur=us.toArray++Builtin.zeroCells z.cells (cap-ys.length):=⟨_,rfl⟩;rw[<-kD]at dB;have gO:cur.size=cap*i.size:=by
    have:=size_zeroCells z.cells (cap-ys.length);rw[kD,Array.size_append,this,List.size_toArray,hr.len,kt,<-Nat.add_mul]
    congr 1
    omega
  obtain⟨G',g1,g2,g3,g4⟩:=Pn (e:=e) (k:=i.size) (cap:=cap) (cs:=ys) (cur:=cur) hi jT hle gO hr.wid w.drew ⟨rfl,rfl,rfl,rfl⟩ (λa b d x q hd hx hq=>by
   have jn:b<i.size:=by rw[<-hr.wid d (aoE hd)];exact(aor.1 hx).1
   have aN:a*i.size+b<us.length:=by rw[hr.len];exact m4 (aor.1 hd).1 jn
   rw[kD,Array.getElem?_append_left (by simpa using aN),List.getElem?_toArray]at hq;exact hr.rel a b d x q hd hx hq)
  exact⟨_,_,G',dB,g1,g2,g3,g4 _ (aoC _)⟩
end
theorem PM:∀(cs:apf AV)(l:apf fk),AV.wI cs=some l->cs.length=l.length/\∀(i:Nat)(x:AV)(c:fk),cs[i]?=some x->l[i]?=some c->x.cap=some c
 |[],l,h=>by
  unfold AV.wI at h;cases h;exact⟨rfl,λi x c hx=>by simp at hx⟩
 |x::cs,l,h=>by
  unfold AV.wI at h;split at h
  ·next c l' e1 e2=>
   cases h
   obtain⟨J,h2⟩:=PM cs l' e2;refine⟨by simp [J],λi y d hy hd=> ?_⟩
   match i with
   |0=>simp only[List.getElem?_cons_zero,Option.some.injEq]at hy hd;subst hy;subst hd;exact e1
   |i+1=>exact h2 i y d (by simpa using hy) (by simpa using hd)
  ·cases h
theorem aF.cap{G:Gh}{w:apk}{u:apj}{x:AV}(h:aF G w u x):∀c,x.cap=some c->nZ G.S w u c:=by
 induction h with
 |d h=>intro c hc;simp only[AV.cap]at hc;cases hc;exact .d h
 |own n xs h hp hle hf=>intro c hc;simp only[AV.cap]at hc;cases hc;exact .d hp
 |full xs hp hf=>intro c hc;simp only[AV.cap]at hc;cases hc;exact .d hp
 |bj xs i off b o u x hx hS hu=>
  intro c hc;simp only[AV.cap,hx]at hc;cases hc
  exact .bj x off b o u hS hu
 |fn f vs cs hl h ih=>
  intro c hc;simp only[AV.cap]at hc;split at hc
  ·next l e=>
   cases hc
   obtain⟨J,h2⟩:=PM cs l e;refine .fn f vs l (hl.trans J) λi v d hv hd=> ?_;have aN:i<cs.length:=by rw[J];exact(aor.1 hd).1
   exact ih i v _ hv (aov aN) d (h2 i _ d (aov aN) hd)
  ·cases hc
 |hid h J=>intro c hc;simp only[AV.cap]at hc;cases hc;exact h
 |agg=>intro c hc;simp [AV.cap]at hc
 |bg=>intro c hc;simp [AV.cap]at hc
 |ptr=>intro c hc;simp [AV.cap]at hc
 |row=>intro c hc;simp [AV.cap]at hc
 |mp=>intro c hc;simp [AV.cap]at hc
 |cn=>intro c hc;simp [AV.cap]at hc
 |vec=>intro c hc;simp [AV.cap]at hc
 |dn=>intro c hc;simp [AV.cap]at hc
 |dead=>intro c hc;simp [AV.cap]at hc
section
variable {P:api} {r:aph Nat} {n N0:Nat} {G:Gh} {w:apk} {a:Act} {s:St} {o:Oper} {K:St->Prop} {Q:Exit->Act->apk->Prop}
theorem yy(hs:cV G w a s)(l:Array Operand):(l.map a.eval).size=(l.toList.map (ev s)).length/\∀(i:Nat)(u:apj)(c:AV),(l.map a.eval)[i]?=some u->(l.toList.map (ev s))[i]?=some c->aF G w u c:=by
 refine⟨by simp,λi u c hu hc=> ?_⟩;rw[Array.getElem?_map]at hu;rw[aoy,aoO]at hc;cases hx:l[i]? with
 |none=>rw[hx]at hu;cases hu
 |some x=>rw[hx]at hu hc;cases hu;cases hc;exact hs.ev x
theorem Ul(hs:cV G w a s)(l:Array (Nat×Operand)):(l.map λ(i,x)=>(i,a.eval x)).toList.length=(l.toList.map λp=>(p.1,ev s p.2)).length/\
 ∀(i:Nat)(p:Nat×AV)(q:Nat×apj),(l.toList.map λp=>(p.1,ev s p.2))[i]?=some p->(l.map λ(i,x)=>(i,a.eval x)).toList[i]?=some q->q.1=p.1/\aF G w q.2 p.2:=by
 refine⟨by simp,λi p q hp hq=> ?_⟩;rw[aoO,Array.getElem?_map]at hq;rw[aoy,aoO]at hp;cases hx:l[i]? with
 |none=>rw[hx]at hp;cases hp
 |some x=>rw[hx]at hp hq;cases hp;cases hq;exact⟨rfl,hs.ev x.2⟩
theorem DX{x y:Operand}{T U:TypeId}(c:Call)(hc:c.callee= .builtin .append)(J:c.args.toList=[x,y])(h2:c.argTypes.toList=[T,U])(ho:o.op= .call c):
 (execOp a.eval o).run P w=((Builtin.append_ #[T,U] o.type #[a.eval x,a.eval y]).run P w).andThen λv w'=> .ok (.value v) w':=by
 have e1:c.args= #[x,y]:=by rw[<-Array.toList_inj];exact J
 have e2:c.argTypes= #[T,U]:=by rw[<-Array.toList_inj];exact h2
 unfold execOp;simp only[ho,resolve,hc,e1,e2,invoke,builtin,Sem.run_bind,Sem.run_pure,Result.andThen_ok,List.map_toArray,aoQ,List.map_nil]
theorem Us{x:Operand}{T:TypeId}(c:Call)(hc:c.callee= .builtin .len)(J:c.args.toList=[x])(h2:c.argTypes.toList=[T])(ho:o.op= .call c):
 (execOp a.eval o).run P w=((Builtin.len_ #[T] o.type #[a.eval x]).run P w).andThen λv w'=> .ok (.value v) w':=by
 have e1:c.args= #[x]:=by rw[<-Array.toList_inj];exact J
 have e2:c.argTypes= #[T]:=by rw[<-Array.toList_inj];exact h2
 unfold execOp;simp only[ho,resolve,hc,e1,e2,invoke,builtin,Sem.run_bind,Sem.run_pure,Result.andThen_ok,List.map_toArray,aoQ,List.map_nil]
theorem ams(c:Call)(hc:c.callee= .builtin .max)(ho:o.op= .call c):
 (execOp a.eval o).run P w=((Builtin.max_ c.argTypes o.type (c.args.map a.eval)).run P w).andThen λv w'=> .ok (.value v) w':=by
 unfold execOp;simp only[ho,resolve,hc,invoke,builtin,Sem.run_bind,Sem.run_pure,Result.andThen_ok]
theorem aky(c:Call)(hc:c.callee= .builtin .min)(ho:o.op= .call c):
 (execOp a.eval o).run P w=((Builtin.min_ c.argTypes o.type (c.args.map a.eval)).run P w).andThen λv w'=> .ok (.value v) w':=by
 unfold execOp;simp only[ho,resolve,hc,invoke,builtin,Sem.run_bind,Sem.run_pure,Result.andThen_ok]
theorem YK{mx:Bool}{k k':IntKind}{z:Int}:∀(l:apf AV)(vs:apf apj)(x:Int),vs.length=l.length->(∀(i:Nat)(u:apj)(c:AV),vs[i]?=some u->l[i]?=some c->aF G w u c)->Ii mx k x l=some (k',z)->
 (vs.foldlM (if mx then Builtin.max2 else Builtin.min2) (.int k x)).run P w= .ok (.int k' z) w
 |[],[],x,_,_,h=>by cases h;simp
 |[],_::_,_,hl,_,_=>by simp at hl
 |_::_,[],_,hl,_,_=>by simp at hl
 |y::l,u::vs,x,hl,hr,h=>by
  unfold Ii at h;split at h
  ·next e=>cases e
  ·next k2 b l' e=>
   cases e
   have e1:=(hr 0 u _ rfl rfl).val;subst e1;have ih:=YK l vs _ (by simpa using hl) (λi u c hu hc=>hr (i+1) u c (by simpa using hu) (by simpa using hc)) h;rw[List.foldlM_cons,Sem.run_bind];cases mx with
   |true=>simp only[if_true,cond_true]at ih ⊢;simp only[Builtin.max2,Sem.run_pure,Result.andThen_ok];exact ih
   |false=>simp only[Bool.false_eq_true,if_false,cond_false]at ih ⊢;simp only[Builtin.min2,Sem.run_pure,Result.andThen_ok];exact ih
  ·cases h
theorem abo{mx:Bool}{k:IntKind}{z:Int}{l:apf AV}{vs:Array apj}(hl:vs.size=l.length)(hr:∀(i:Nat)(u:apj)(c:AV),vs[i]?=some u->l[i]?=some c->aF G w u c)(h:BV mx l=some (k,z)):
 ∃u us,vs.toList=u::us/\(us.foldlM (if mx then Builtin.max2 else Builtin.min2) u).run P w= .ok (.int k z) w:=by
 unfold BV at h;split at h
 ·next k2 x l'=>
  cases hv:vs.toList with
  |nil=>rw[<-aoY,hv]at hl;simp at hl
  |cons u us=>
   refine⟨u,us,rfl,?_⟩;have pZ:∀(i:Nat)(v:apj)(c:AV),(u::us)[i]?=some v->(AV.d (.v (.int k2 x))::l')[i]?=some c->aF G w v c:=λi v c J h2=>hr i v c (by rw[<-aoO,hv];exact J) h2;have e1:=(pZ 0 u _ rfl rfl).val;subst e1;refine YK l' us x ?_ (λi v c J h2=>pZ (i+1) v c (by simpa using J) (by simpa using h2)) h;rw[<-aoY,hv]at hl;simpa using hl
 ·cases h
theorem RU{f:FuncId}(h:Ku P f=true)(args:Array apj)(w:apk):(callFunc f args).run P w= .ok (.enter f args) w:=by
 unfold Ku at h;cases hq:P.funcs[f]? with
 |none=>rw[hq]at h;simp at h
 |some fn=>
  rw[hq]at h;simp only[aot,Bool.not_eq_true']at h;obtain⟨J,h2⟩:=h;have h3:fn.body≠none:=by intro e;rw[e]at J;cases J
  have h4:fn.name≠ "runtime.NumGoroutine" :=by simpa using h2
  simp [callFunc,hq,h4,h3]
theorem acP(hs:cV G w a s)(cv:N0<=G.N){x:AV}{h':apf aq}{p:Sd}(hx:pV P o.op (ev s) s.h=some (x,h',p))(hp:p.ok)(hK:K ((s.wh h').put o.dst x)):o.wpIn (WF r) n P a w (jf N0 G w K) Q:=by
 have dd:=hs.ev;unfold pV at hx;split at hx
 next T ho=>
  split at hx
  ·next q hT=>
   cases hx
   obtain⟨i1,i2,i3⟩:=ajD hs.inv;exact mq (by rw[ho];simp) hs cv (v:= .map (some w.heap.size)) (by unfold execOp;simp [ho,run_makeMap,Result.andThen]) i1 (Nat.le_succ _) i2 i3 hK
  ·cases hx
 next T m i ok ho=>
  split at hx
  ·next k e hT=>
   split at hx
   ·next z hz=>
    split at hx
    ·next b s' hm hi=>
     split at hx
     ·next kv hn=>
      cases hc:iu P k with
      |false=>rw[hc]at hx;cases hx
      |true=>
       rw[hc]at hx;cases hx
       obtain⟨v,r1,r2⟩:=acZ (ok:=ok) (s:=s') hs.inv hT hz hc hn;have e1:=dd m;rw[hm]at e1;have e2:=dd i;rw[hi]at e2;have e2:=e2.val;have R2:a.eval m= .map (some (G.aR b)):=by
        generalize a.eval m=u at e1;cases e1 with|mp _ _=>rfl
       exact fx (by rw[ho];simp) hs cv (by unfold execOp;simp [ho,R2,e2,r1,Result.andThen]) r2 hK
     ·cases hx
    ·cases hx
   ·cases hx
  ·cases hx
 next T m i y ho=>
  split at hx
  ·next k e hT=>
   split at hx
   ·next b s' d hm hi hd=>
    split at hx
    ·next kv hn=>
     cases hc:iu P k with
     |false=>rw[hc]at hx;cases hx
     |true=>
      rw[hc]at hx;cases hx
      obtain⟨w',r1,r2,r3⟩:=ak2 (s:=s') hs.inv hT hc hn ((dd y).toM hd) hp;have e1:=dd m;rw[hm]at e1;have e2:=dd i;rw[hi]at e2;have e2:=e2.val;have R2:a.eval m= .map (some (G.aR b)):=by
       generalize a.eval m=u at e1;cases e1 with|mp _ _=>rfl
      exact Q1 (by rw[ho];simp) hs cv (by unfold execOp;simp [ho,R2,e2,r1,Result.andThen]) r2 (aoC _) r3 hK
    ·cases hx
   ·cases hx
  ·cases hx
 next=>cases hx
theorem US(hs:cV G w a s)(cv:N0<=G.N)(h:qN P o K s):o.wpIn (WF r) n P a w (jf N0 G w K) Q:=by
 have dd:=hs.ev;unfold qN cG at h;split at h
 next x ho=>exact fx (by rw[ho];simp) hs cv (v:=a.eval x) (by unfold execOp;rw[ho];rfl) (dd x) h
 next x ho=>exact fx (by rw[ho];simp) hs cv (v:=a.eval x) (by unfold execOp;rw[ho];rfl) (dd x) h
 next c x y ho=>
  split at h
  next t hc=>
   have hb:=dd c;rw[hc]at hb;have e:=hb.bool;cases t with
   |true=>exact fx (by rw[ho];simp) hs cv (v:=a.eval x) (by unfold execOp;simp [ho,e,asBool]) (dd x) (h.1 rfl)
   |false=>exact fx (by rw[ho];simp) hs cv (v:=a.eval y) (by unfold execOp;simp [ho,e,asBool]) (dd y) (h.2 rfl)
  next=>exact h.elim
 next e ho=>
  split at h
  next z hz=>
   obtain⟨i1,i2⟩:=YR hs.inv z.cells e (z.cells.toList.map λu=> .d (.v u)) (by simp) (λi u c hu hc=>by
    rw[aoy,aoO,hu]at hc;cases hc;exact .d (.v u))
   exact mq (by rw[ho];simp) hs cv (by unfold execOp;simp [ho,Instr.alloc,Dq hz,newVar,newRow]) (sr G w hs.inv.z hs.inv.S _) (Nat.le_succ _) i1 i2 h
  next=>exact h.elim
 next e x ho=>
  obtain⟨hb,hK⟩:=bO.1 h;have hr:=(dd x).Yy hb;obtain⟨i1,i2⟩:=YR hs.inv (a.eval x).cells e (ev s x).cells hr.len hr.rel;exact mq (by rw[ho];simp) hs cv (by unfold execOp;simp [ho,Instr.box,newVar,newRow]) (sr G w hs.inv.z hs.inv.S _) (Nat.le_succ _) i1 i2 hK
 next t x ho=>
  obtain⟨u,y,J,h2,h3⟩:=V9 hs.inv (dd x) h;exact fx (by rw[ho];simp) hs cv (by unfold execOp;simp [ho,J]) h2 h3
 next t x y ho=>
  unfold xQ at h;split at h
  next m off hm=>
   split at h
   next cs gO=>
    split at h
    case h_2=>exact h.elim
    rename_i k hk
    obtain⟨fB,h4⟩:=bO.1 h;simp only[aot,beq_iff_eq,da]at fB;obtain⟨⟨rfl,h2⟩,h3⟩:=fB;have J:=hk;have hx:=dd x;rw[hm]at hx;obtain⟨w',r1,r2,r3⟩:=afP (P:=P) hs.inv gO (dd y) h2 J h3;have ex:a.eval x= .pointer (some ⟨G.aR m,off,none⟩):=by
     generalize a.eval x=u at hx;cases hx with
     |ptr=>rfl
    exact Q1 (by rw[ho];simp) hs cv (by unfold execOp;simp [ho,Instr.storeAt,Instr.sureAddr,ex,r1]) r2 (aoC _) r3 h4
   next=>exact h.elim
  next=>exact h.elim
 next x ho=>
  have hx:=dd x;split at h
  next m off hm=>
   rw[hm]at hx;generalize ea:a.eval x=u at hx;cases hx with
   |ptr _ _ wF=>exact fx (by rw[ho];simp) hs cv (by unfold execOp;simp [ho,ea]) (.ptr m off wF) h
  next xs i off hm=>
   rw[hm]at hx;generalize ea:a.eval x=u at hx;have Al:=hx;cases hx with
   |bj=>exact fx (by rw[ho];simp) hs cv (by unfold execOp;simp [ho,ea]) Al h
  next f cs hm=>
   rw[hm]at hx;generalize ea:a.eval x=u at hx;have Al:=hx;cases hx with
   |fn=>exact fx (by rw[ho];simp) hs cv (by unfold execOp;simp [ho,ea]) Al h
  next=>exact h.elim
 next T x f ho=>
  split at h
  next fo k g hT=>
   have hx:=dd x;split at h
   next m off hm=>
    rw[hm]at hx;generalize ea:a.eval x=u at hx;cases hx with
    |ptr _ _ wF=>exact fx (by rw[ho];simp) hs cv (by unfold execOp;simp [ho,ea,PD hT]) (.ptr m (off+fo) wF) h
   next xs i off hm=>
    rw[hm]at hx;generalize ea:a.eval x=u at hx;cases hx with
    |bj _ _ _ b oo us c hx hS hu=>exact fx (by rw[ho];simp) hs cv (by unfold execOp;simp [ho,ea,PD hT];rfl) (by rw[Nat.add_assoc];exact .bj xs i (off+fo) b oo us c hx hS hu) h
   next=>exact h.elim
  next=>exact h.elim
 next T x f ho=>
  obtain⟨u,y,J,h2,h3⟩:=akC (dd x) h;exact fx (by rw[ho];simp) hs cv (by unfold execOp;simp [ho,J]) h2 h3
 next T x i ho=>
  obtain⟨u,y,J,h2,h3⟩:=alq (dd x) (dd i) h;exact fx (by rw[ho];simp) hs cv (by unfold execOp;simp [ho,J]) h2 h3
 next T x i ho=>
  split at h
  next b z hb hz=>
   obtain⟨hT,h0,h⟩:=bO.1 h;have hT:=se hT;have hx:=dd x;rw[hb]at hx;have ex:=hx.val;obtain⟨k,ei⟩:=(dd i).int hz;split at h
   next c hc=>
    refine fx (by rw[ho];simp) hs cv (v:= .int .u8 c.toNat) ?_ (.d (.v _)) h;unfold execOp;simp [ho,Instr.index,ex,ei,asIntOf,run_underlying hT,h0,hc]
   next=>exact h.elim
  next=>exact h.elim
 next T ps ho=>
  obtain⟨p1,p2⟩:=Ul hs ps;obtain⟨u,y,J,h2,h3⟩:=aiu p1 p2 h;exact fx (by rw[ho];simp) hs cv (by unfold execOp;simp only[ho,Sem.run_bind,J];rfl) h2 h3
 next T len ps ho=>
  obtain⟨p1,p2⟩:=Ul hs ps;obtain⟨u,w',G',y,J,h2,h3,h4,h5,h6⟩:=aeb (T:=T) hs.inv p1 p2 h;exact mq (by rw[ho];simp) hs cv (by unfold execOp;simp only[ho,Sem.run_bind,J];rfl) h2 h3 h4 h5 h6
 next T x lo hi mx ho=>
  obtain⟨u,y,J,h2,h3⟩:=ae5 hs (dd x) h;exact fx (by rw[ho];simp) hs cv (by unfold execOp;simp [ho,J]) h2 h3
 next x i ho=>
  have hx:=dd x;split at h
  next cs gO=>
   rw[gO]at hx;generalize ea:a.eval x=u at hx;split at h
   next c hc=>
    cases hx with
    |bg vs _ hl hr=>
     have aN:i<vs.size:=by rw[hl];exact(aor.1 hc).1
     exact fx (by rw[ho];simp) hs cv (v:=vs[i]) (by unfold execOp;simp [ho,ea,Instr.extract,aN]) (hr i _ c (aoN aN) hc) h
   next=>exact h.elim
  next=>exact h.elim
 next f first cZ ho=>
  split at h
  ·next x hx=>
   unfold Q9 at hx;split at hx
   ·next e1=>
    cases hx
    have adB:first= #[]:=by
     rw[<-Array.toList_inj];exact List.map_eq_nil_iff.1 e1
    subst adB;obtain⟨p1,p2⟩:=yy hs cZ;exact fx (by rw[ho];simp) hs cv (v:= .func (.func f) #[] (cZ.map a.eval)) (by unfold execOp;simp [ho,Instr.makeFunc]) (.fn f _ _ p1 p2) h
   ·split at hx
    ·next cs e1 e2=>
     cases hx
     have amz:cZ= #[]:=by
      rw[<-Array.toList_inj];exact List.map_eq_nil_iff.1 e2
     subst amz;obtain⟨p1,p2⟩:=yy hs first
     obtain⟨c1,c2⟩:=PM _ _ e1;exact fx (by rw[ho];simp) hs cv (v:= .func (.func f) (first.map a.eval) #[]) (by unfold execOp;simp [ho,Instr.makeFunc]) (.hid (.nS f _ _ (p1.trans c1) λi u c hu hc=>by
      have aN:i<(first.toList.map (ev s)).length:=by rw[c1];exact(aor.1 hc).1
      exact(p2 i u _ hu (aov aN)).cap c (c2 i _ c (aov aN) hc)) rfl) h
    ·cases hx
  ·exact h.elim
 next op T x y U ho=>
  obtain⟨u,z,J,h2,h3⟩:=ajV (X:=x) (Y:=y) (dd x) (dd y) h;refine fx (by rw[ho];simp) hs cv ?_ h2 h3;unfold execOp;simp only[ho];rw[Sem.run_bind,J];rfl
 next op T x ho=>
  obtain⟨u,z,J,h2,h3⟩:=ann (P:=P) (dd x) h;exact fx (by rw[ho];simp) hs cv (by unfold execOp;simp [ho,J]) h2 h3
 next t u x ho=>
  obtain⟨u,z,J,h2,h3⟩:=ahr (dd x) h;exact fx (by rw[ho];simp) hs cv (by unfold execOp;simp [ho,J]) h2 h3
 next c ho=>
  have j0:∀c,o.op≠ .defer c:=by rw[ho];simp
  split at h
  next hc=>
   split at h
   next x T J h2=>
    obtain⟨m,r1,r2⟩:=ang (ty:=o.type) (dd x) h;exact fx j0 hs cv (by rw[Us c hc J h2 ho,r1];rfl) (.d (.v _)) r2
   next=>exact h.elim
  next hc=>
   split at h
   next x y T U J h2=>
    obtain⟨hU,h⟩:=bO.1 h;obtain⟨⟨e',k'⟩,hU⟩:=Option.isSome_iff_exists.1 hU;obtain⟨p,w',G',q,h',r1,r2,r3,r4,r5,r6⟩:=alZ (ty:=o.type) hs.inv (dd x) (dd y) (j8 hU).1 h;exact mq j0 hs cv (by rw[DX c hc J h2 ho,r1];rfl) r2 r3 r4 r5 r6
   next=>exact h.elim
  next hc=>
   split at h
   next k z hf=>
    obtain⟨p1,p2⟩:=yy hs c.args;obtain⟨u,us,e1,e2⟩:=abo (P:=P) p1 p2 hf;refine fx j0 hs cv (v:= .int k z) ?_ (.d (.v _)) h;rw[ams c hc ho];unfold Builtin.max_;rw[e1];simp only[if_true]at e2;rw[e2];rfl
   next=>exact h.elim
  next hc=>
   split at h
   next k z hf=>
    obtain⟨p1,p2⟩:=yy hs c.args;obtain⟨u,us,e1,e2⟩:=abo (P:=P) p1 p2 hf;refine fx j0 hs cv (v:= .int k z) ?_ (.d (.v _)) h;rw[aky c hc ho];unfold Builtin.min_;rw[e1];simp only[Bool.false_eq_true,if_false]at e2;rw[e2];rfl
   next=>exact h.elim
  next f hc=>
   have call:∀(g:FuncId)(cZ:apf AV)(vs:Array apj),a.eval f= .func (.func g) #[] vs->vs.size=cZ.length->(∀(i:Nat)(u:apj)(c:AV),vs[i]?=some u->cZ[i]?=some c->aF G w u c)->
       cO P g (c.args.toList.map (ev s)++cZ) s.h (λr h'=>K ((s.wh h').put o.dst r))->o.wpIn (WF r) n P a w (jf N0 G w K) Q:=by
       intro g cZ vs ea hl hr h;obtain⟨p1,p2⟩:=yy hs c.args;obtain⟨FA,jM⟩:=h;have sG:=jM G w (c.args.map a.eval++vs) hs.inv (by rw[Array.size_append,aos,p1,hl]) (λi u x hu hx=>by
        by_cases hi:i<(c.args.map a.eval).size
        ·rw[Array.getElem?_append_left hi]at hu;rw[aoB (by rw[<-p1];exact hi)]at hx;exact p2 i u x hu hx
        ·rw[Array.getElem?_append_right (by omega)]at hu;rw[aoH (by rw[<-p1];omega)]at hx;rw[p1]at hu;exact hr _ u x hu hx)
       refine⟨λ_ _=>trivial,?_⟩;have dB:(o.semAt (WF r).round a.eval).run P w= .ok (.enter g (c.args.map a.eval++vs)) w:=by
        rw[Oper.semAt_eq _ _ _ j0];unfold execOp;simp only[ho,resolve,hc,ea];simp [Deferred.ofValue,invoke,RU FA]
       rw[dB];refine⟨λh=>(by simp [WF,Fence.wide]at h),?_⟩;have h2:=callsIn_wide (n:=n-1).2 sG;refine CallsIn.mono (F:=WF r) h2 ?_;rintro e w' ⟨v,G',x,h',rfl,x1,x2,x3,x4,x5⟩;exact⟨G',_,x1.less cv,aoJ cv x2,(hs.move x1 x2 x3).put x4 o.dst,x5⟩
   have akx:∀(g:FuncId)(cZ:apf AV)(vs:Array apj),a.eval f= .func (.func g) vs #[]->vs.size=cZ.length->(∀(i:Nat)(u:apj)(c:AV),vs[i]?=some u->cZ[i]?=some c->aF G w u c)->
       cO P g (cZ++c.args.toList.map (ev s)) s.h (λr h'=>K ((s.wh h').put o.dst r))->o.wpIn (WF r) n P a w (jf N0 G w K) Q:=by
       intro g cZ vs ea hl hr h;obtain⟨p1,p2⟩:=yy hs c.args;obtain⟨FA,jM⟩:=h;have sG:=jM G w (vs++c.args.map a.eval) hs.inv (by rw[Array.size_append,aos,p1,hl]) (λi u x hu hx=>by
        by_cases hi:i<vs.size
        ·rw[Array.getElem?_append_left hi]at hu;rw[aoB (by rw[<-hl];exact hi)]at hx;exact hr i u x hu hx
        ·rw[Array.getElem?_append_right (by omega)]at hu;rw[aoH (by rw[<-hl];omega)]at hx;rw[hl]at hu;exact p2 _ u x hu hx)
       refine⟨λ_ _=>trivial,?_⟩;have dB:(o.semAt (WF r).round a.eval).run P w= .ok (.enter g (vs++c.args.map a.eval)) w:=by
        rw[Oper.semAt_eq _ _ _ j0];unfold execOp;simp only[ho,resolve,hc,ea];simp [Deferred.ofValue,invoke,RU FA]
       rw[dB];refine⟨λh=>(by simp [WF,Fence.wide]at h),?_⟩;have h2:=callsIn_wide (n:=n-1).2 sG;refine CallsIn.mono (F:=WF r) h2 ?_;rintro e w' ⟨v,G',x,h',rfl,x1,x2,x3,x4,x5⟩;exact⟨G',_,x1.less cv,aoJ cv x2,(hs.move x1 x2 x3).put x4 o.dst,x5⟩
   split at h
   next g cZ hg=>
    have hf:=dd f;rw[hg]at hf;generalize ea:a.eval f=u at hf;cases hf with
    |fn _ vs _ hl hr=>exact call g cZ vs ea hl hr h
   next q hg=>
    obtain⟨g,as,eq,h⟩:=h;have hf:=dd f;rw[hg]at hf;generalize ea:a.eval f=u at hf;cases hf with
    |hid hq J=>
     cases hq with
     |d _=>simp [fk.app]at eq
     |bj _ _ _ _ _ _ _=>simp [fk.app]at eq
     |nS g0 vs cs hl hr=>
      simp only[fk.app,Option.some.injEq,Prod.mk.injEq]at eq;obtain⟨rfl,rfl⟩:=eq;exact akx _ (cs.map fk.av) vs ea (by rw[aow];exact hl) (λi u c hu hc=>by
       rw[aoy]at hc;cases hx:cs[i]? with
       |none=>rw[hx]at hc;cases hc
       |some d=>rw[hx]at hc;cases hc;exact(hr i u d hu hx).av) h
     |fn g0 vs cs hl hr=>
      simp only[fk.app,Option.some.injEq,Prod.mk.injEq]at eq;obtain⟨rfl,rfl⟩:=eq;exact call _ (cs.map fk.av) vs ea (by rw[aow];exact hl) (λi u c hu hc=>by
       rw[aoy]at hc;cases hx:cs[i]? with
       |none=>rw[hx]at hc;cases hc
       |some d=>rw[hx]at hc;cases hc;exact(hr i u d hu hx).av) h
   next=>exact h.elim
  next=>exact h.elim
 next op _=>
  split at h
  next x h' p hx=>exact acP hs cv hx h.1 h.2
  next=>exact h.elim
theorem OX(hs:cV G w a s){x:aph Operand}{d:Nat}{z:Int}(h:uS (ev s) d x=some z)(h0:0<=z):BU a x d z.toNat:=by
 cases x with
 |none=>
  simp only[uS,Option.some.injEq]at h;subst h;show _=d;exact aoS d
 |some y=>
  simp only[uS]at h;obtain⟨k,e⟩:=(hs.ev y).int h;exact⟨k,z,e,h0,rfl⟩
theorem mE{α:Type}{b:Bool}{x y:α}(h:(bif b then some x else none)=some y):b=true/\x=y:=by
 cases b with
 |true=>exact⟨rfl,aoK h⟩
 |false=>cases h
theorem anY{α:Type}{b:Bool}{x:aph α}{y:α}(h:(bif b then x else none)=some y):b=true/\x=some y:=by
 cases b with
 |true=>exact⟨rfl,h⟩
 |false=>cases h
theorem V7(hs:cV G w a s)(cv:N0<=G.N)(h:Li P o K s):o.wpIn (WF r) n P a w (jf N0 G w K) Q:=by
 obtain⟨va,x,h',p,hx,hp,hK⟩:=h;have dd:=hs.ev;unfold iD at hx;split at hx
 next T y i ho=>
  split at hx
  ·next n' o' len L k z e k' i' e1 e2 e3=>
   split at hx
   ·next e4 k2 cs hn=>
    obtain⟨hb,he⟩:=mE hx;cases he
    rw[aot,beq_iff_eq,beq_iff_eq]at hb;obtain⟨rfl,rfl⟩:=hb;obtain⟨hL,h0,aN,rfl⟩:=hp;obtain⟨fD,fW⟩:=j8 e3;obtain⟨kz,ez⟩:=(dd i).int e2;have hv:=dd y;rw[e1]at hv;have lL:=hv.vc hs.inv hn hL;obtain⟨AE,⟨A,c,q1,q2,q3,q4,q5⟩,_⟩:=lL;obtain⟨g,cap,s1,rfl,s3⟩:=q5 (by omega);have Pz:z<(len:Int):=aN;refine fx (by rw[ho];simp) hs cv (v:= .pointer (some ⟨g,o'*k2+z.toNat*k2,none⟩)) ?_ (.dn n' (o'+z.toNat) 0 L k2 (hs.inv.lt hn) ⟨_,_,rfl⟩ (by rw[(hs.inv.c7 n' _ hn).1,hL];exact aoC _) λ_=>⟨by omega,g,cap,s1,?_⟩) hK
    ·unfold execOp;simp [ho,q1,ez,Instr.indexAt,asIntOf,run_underlying fD,h0,Pz,l4 fW,lI]
    ·rw[Nat.add_mul];rfl
   ·cases hx
  ·cases hx
 next T y f ho=>
  split at hx
  ·next n' i j L k fo q g e1 hT=>
   cases hx
   have hv:=dd y;rw[e1]at hv;generalize ea:a.eval y=u at hv;cases hv with
   |dn _ _ _ _ _ oW OL hL hf=>
    obtain⟨pb,pq,rfl⟩:=OL;refine fx (by rw[ho];simp) hs cv (v:= .pointer (some ⟨pb,pq+fo,none⟩)) (by unfold execOp;simp [ho,ea,PD hT]) (.dn n' i (j+fo) L k oW ⟨_,_,rfl⟩ hL λe=> ?_) hK;obtain⟨a1,g2,cap,a2,a3⟩:=hf e;refine⟨a1,g2,cap,a2,?_⟩;injection a3 with a3;injection a3 with a3;injection a3 with a4 a5;subst a4;subst a5;rw[Nat.add_assoc]
  ·cases hx
 next y ho=>
  split at hx
  ·next n' i j L k e1=>
   cases hx
   have hv:=dd y;rw[e1]at hv;have hv2:=hv;generalize ea:a.eval y=u at hv hv2;cases hv with
   |dn _ _ _ _ _ oW OL hL hf=>
    obtain⟨pb,pq,rfl⟩:=OL;exact fx (by rw[ho];simp) hs cv (by unfold execOp;simp [ho,ea]) hv2 hK
  ·cases hx
 next t y ho=>
  split at hx
  ·next n' i j L k c e1=>
   split at hx
   ·next e k' cs z hn hz=>
    obtain⟨hb,he⟩:=mE hx;cases he
    rw[beq_iff_eq]at hb;subst hb;have hv:=dd y;rw[e1]at hv;obtain⟨u,r1,r2⟩:=ak8 hs.inv hn hp.1 hp.2 hz hv;exact fx (by rw[ho];simp) hs cv (by unfold execOp;simp [ho,r1]) r2 hK
   ·cases hx
  ·cases hx
 next t y z ho=>
  split at hx
  ·next n' i j L k c cB e1=>
   split at hx
   ·next e k' cs q hn hq=>
    obtain⟨hb,he⟩:=mE hx;cases he
    simp only[aot,beq_iff_eq,da]at hb;obtain⟨⟨⟨⟨rfl,rfl⟩,Px⟩,hj⟩,gK⟩:=hb;obtain⟨hL,hc,rfl⟩:=hp;have hv:=dd y;rw[e1]at hv;obtain⟨w',G',r1,r2,r3,r4⟩:=alX hs.inv hn hL hc hv (dd z) Px hq hj gK;exact Q1 (by rw[ho];simp) hs cv (by unfold execOp;simp [ho,r1]) r2 r3 r4 hK
   ·cases hx
  ·cases hx
 next T y lo hi ho=>
  split at hx
  ·next n' o' len L k e k' oo ll e1 hT=>
   split at hx
   ·next l u hl hu=>
    split at hx
    ·next e4 k2 cs hn=>
     obtain⟨hb,he⟩:=mE hx;cases he
     rw[aot,beq_iff_eq,beq_iff_eq]at hb;obtain⟨rfl,rfl⟩:=hb;obtain⟨hL,h0,hlu,huL,rfl,rfl⟩:=hp;obtain⟨fD,fW⟩:=j8 hT;have hv:=dd y;rw[e1]at hv;have lL:=hv.vc hs.inv hn hL;obtain⟨AE,⟨A,c,q1,q2,q3,q4,q5⟩,_⟩:=lL;have hb:=Eg (P:=P) (AJ:=true) (OX hs hl h0) (OX hs hu (by omega)) (by omega) (show u.toNat<=c by omega) w;refine fx (by rw[ho];simp) hs cv (v:= .slice (if c=l.toNat then A else A.map (·.add (l.toNat*k2))) (u.toNat-l.toNat) (c-l.toNat)) ?_ (.vec n' (o'+l.toNat) (u.toNat-l.toNat) L k2 (hs.inv.lt hn) ⟨_,_,_,rfl⟩ (by rw[(hs.inv.c7 n' _ hn).1,hL];exact aoC _) λ_=>⟨by omega,⟨_,_,rfl,by omega,by omega,by omega,λho2=> ?_⟩,λJ h2=> ?_⟩) hK
     ·unfold execOp;simp [ho,q1,Instr.sliceAt,Instr.slice,run_underlying fD,hb,l4 fW]
     ·obtain⟨g,cap,s1,rfl,s3⟩:=q5 (by omega);refine⟨g,cap,s1,?_,by omega⟩;rw[if_neg (by omega)];simp [lI,Nat.add_mul]
     ·have ho0:o'=0:=by omega
      have Jz:l.toNat=0:=by omega
      subst ho0;rw[Jz];rw[Jz]at h2;simp only[Nat.sub_zero]at h2 ⊢;by_cases wo:L=0
      ·subst wo;have:len=0:=by omega
       subst this
       rename_i fB
       rw[<-fB rfl rfl,q1,h2];split
       ·rfl
       ·cases A<;>simp [Addr.add]
      ·obtain⟨g,cap,s1,rfl,s3⟩:=q5 (by omega);rw[s1,h2];have:c=cap:=by omega
       subst this;split<;>simp [lI]
    ·cases hx
   ·cases hx
  ·cases hx
 next T l c ho=>
  split at hx
  ·next e k z1 z2 cs len m hT e1 e2=>
   split at hx
   ·next z cW hz po=>
    obtain⟨hb,he⟩:=mE hx;cases he
    simp only[aot,beq_iff_eq,da]at hb;obtain⟨⟨gK,kt⟩,_⟩:=hb;obtain⟨h0,ln,hl,hc,rfl,hm,m8⟩:=hp;obtain⟨fD,fW⟩:=j8 hT;obtain⟨inf,i1,i2,i3⟩:=QU fW po;have EC:inf.zero=some z:=by
     obtain⟨i',j1,j2⟩:=Lv hz;rw[i1]at j1;cases j1;exact j2
    obtain⟨k1,ez1⟩:=(dd l).int e1;obtain⟨k2,ez2⟩:=(dd c).int e2;obtain⟨u,w',G',r1,r2,r3,r4,r5⟩:=alp (kl:=k1) (kc:=k2) hs.inv fD i1 EC i2 i3 kt gK h0 ln hl hc hm m8;exact mq (by rw[ho];simp) hs cv (by unfold execOp;simp [ho,ez1,ez2,r1]) r2 r3 r4 r5 hK
   ·cases hx
  ·cases hx
 next c ho=>
  have j0:∀c,o.op≠ .defer c:=by rw[ho];simp
  split at hx
  next hc=>
   split at hx
   ·next y T J h2=>
    split at hx
    ·next n' oo len L k e1=>
     split at hx
     ·next e4 k2 cs hn=>
      obtain⟨hb,he⟩:=mE hx;cases he
      rw[aot,beq_iff_eq]at hb;obtain⟨hT,rfl⟩:=hb;obtain⟨⟨e,q⟩,hT⟩:=Option.isSome_iff_exists.1 hT;have hv:=dd y;rw[e1]at hv;have lL:=hv.vc hs.inv hn hp;obtain⟨AE,⟨A,cc,q1,q2,q3,q4,q5⟩,_⟩:=lL;exact fx j0 hs cv (v:= .int .i64 len) (by rw[Us c hc J h2 ho,q1];simp [Builtin.len_,run_underlying (j8 hT).1,goInt]) (.d (.v _)) hK
     ·cases hx
    ·cases hx
   ·cases hx
  next hc=>
   split at hx
   ·next y z T U J h2=>
    split at hx
    ·next e k pU cB ys L' len' hT hU=>
     split at hx
     ·next z0 cW hz po=>
      obtain⟨hb,hx⟩:=anY hx;rw[aot,beq_iff_eq,da]at hb;obtain⟨gK,kt⟩:=hb;obtain⟨fD,fW⟩:=j8 hT;obtain⟨inf,i1,i2,i3⟩:=QU fW po;have EC:inf.zero=some z0:=by
       obtain⟨i',j1,j2⟩:=Lv hz;rw[i1]at j1;cases j1;exact j2
      have jA:z0.cells.size=k:=by rw[<-aoY];exact kt
      obtain⟨eU,kU⟩:=pU;split at hx
      ·next n' oo len L k1 e1=>
       split at hx
       ·next e4 k2 cs hn=>
        obtain⟨hb,he⟩:=mE hx;cases he
        simp only[aot,beq_iff_eq]at hb;obtain⟨⟨rfl,rfl⟩,rfl⟩:=hb;obtain⟨hL,xx,rfl,qI⟩:=hp;obtain⟨us,hr,D8⟩:=SE (tx:=U) hs.inv (dd z) xx gK (j8 hU).1;have hv:=dd y;rw[e1]at hv;obtain⟨u,w',G',r1,r2,r3,r4,r5⟩:=an8 (ty:=o.type) hs.inv fD i1 EC i2 i3 jA gK hn hL hv hr D8 qI;exact mq j0 hs cv (by rw[DX c hc J h2 ho,r1];rfl) r2 r3 r4 r5 hK
       ·cases hx
      ·next e1=>
       cases hx
       obtain⟨xx,rfl,rfl,rfl,kH,mT⟩:=hp;obtain⟨us,hr,D8⟩:=SE (tx:=U) hs.inv (dd z) xx gK (j8 hU).1;have hv:=dd y;rw[e1]at hv;have ev:=hv.val;obtain⟨u,w',G',r1,r2,r3,r4,r5⟩:=Wa (ty:=o.type) (A:=none) hs.inv fD i1 EC i2 i3 jA gK hr D8 kH mT;exact mq j0 hs cv (by rw[DX c hc J h2 ho,ev,r1];rfl) r2 r3 r4 r5 hK
      ·next xs e1=>
       cases hx
       obtain⟨rfl,xx,rfl,rfl,rfl,kH,mT⟩:=hp;obtain⟨us,hr,D8⟩:=SE (tx:=U) hs.inv (dd z) xx gK (j8 hU).1;have hv:=dd y;rw[e1]at hv;obtain⟨A,eA⟩:∃A,a.eval y= .slice A 0 0:=by
        generalize a.eval y=u at hv;cases hv with|full _ _ hf=>exact hf
       obtain⟨u,w',G',r1,r2,r3,r4,r5⟩:=Wa (ty:=o.type) (A:=A) hs.inv fD i1 EC i2 i3 jA gK hr D8 kH mT;exact mq j0 hs cv (by rw[DX c hc J h2 ho,eA,r1];rfl) r2 r3 r4 r5 hK
      ·cases hx
     ·cases hx
    ·cases hx
   ·cases hx
  next=>cases hx
 next=>cases hx
theorem alE(hs:cV G w a s)(cv:N0<=G.N)(h:EU P o K s):o.wpIn (WF r) n P a w (jf N0 G w K) Q:=by
 have dd:=hs.ev;unfold EU at h;split at h
 ·next op T x y U ho=>
  split at h
  ·next xs pT v1 v2 hx hy hT J h2=>
   obtain⟨e,k⟩:=pT;have fD:=(j8 hT).1;have hv:=dd y;rw[hy]at hv;have ey:=hv.val;obtain⟨A,b,oo,c,k',u,ex,hA,_,_,_,_,_⟩:=((dd x).list hx).qh;have hg:(eqGuard op T x y (a.eval x) (a.eval y)).run P w= .ok () w:=by rw[ex,ey];unfold eqGuard;cases op<;>simp
   have dB:(binOp op T (a.eval x) (a.eval y)).run P w= .ok (if A.isNone then v1 else v2) w:=by
    rw[ex,ey];have hq:=run_equal_slice_nil (P:=P) (w:=w) T e A xs.length c fD;cases op<;>simp [wC]at J h2<;>subst J<;>subst h2<;>simp [binOp,hq]<;>cases A<;>rfl
   have hex:(execOp a.eval o).run P w= .ok (.value (if A.isNone then v1 else v2)) w:=by
    unfold execOp;simp only[ho];rw[Sem.run_bind,Sem.run_bind,hg];simp only[Result.andThen_ok];rw[dB];rfl
   cases A with
   |none=>
    have lT:xs=[]:=Classical.byContradiction λcE=>by have:=hA cE;cases this
    exact fx (by rw[ho];simp) hs cv hex (.d (.v _)) (h.1 lT)
   |some ad=>exact fx (by rw[ho];simp) hs cv hex (.d (.v _)) h.2
  ·exact h.elim
 ·exact h.elim
theorem Ot(hs:cV G w a s)(cv:N0<=G.N)(h:alH P o K s):o.wpIn (WF r) n P a w (jf N0 G w K) Q:=by
 rcases h with h|h|h
 ·exact V7 hs cv h
 ·exact alE hs cv h
 ·exact US hs cv h
end
end Go.Proofs.YtpeecnpmcbnahaaGreatDoor
