/-
  Part 1 of the proof: AbsGlob, AbsCore, AbsOps, AbsHeap, AbsStore, AbsApp, AbsOp, AbsOp2, AbsOp3, AbsMap, AbsVec, AbsVec2, AbsOp4.
-/
import Derived.WalkKit
import Derived.Laws.Strings
import Derived.Lib.Hide
import Derived.OrdersIn
import Derived.RangeFuncIn
import Derived.RangeFuncCalls
import Derived.RangeFuncLeaves
import Derived.RangeFuncFrom
import Derived.Deep.MidRow
import Derived.Laws.AppendOwn
import Derived.Maps.OwnOps
import Derived.KernelRfl
import Derived.Deep.AppendSrc
import Derived.Deep.Upon
import Derived.Laws.BytesString
import Derived.Laws.StructEq
import Derived.Laws.MakeOwn
import Derived.Laws.Cover3
namespace Go.Proofs.YtpeecnpmcbnahaaGreatDoor
open Go.RowKit
abbrev ap0:=@Option.bind_some
abbrev ap1:=@List.getElem?_eq_some_iff
abbrev ap2:=@List.length_append
abbrev ap3:=@Bool.and_eq_true
abbrev ap4:=@List.length_cons
abbrev ap5:=@List.getElem?_eq_getElem
abbrev ap6:=@List.length_map
abbrev ap7:=@List.mem_cons_self
abbrev ap8:=@List.getElem?_map
abbrev ap9:=@Nat.le_of_ble_eq_true
abbrev aqa:=@List.mem_cons_of_mem
abbrev aqb:=@List.getElem?_append_left
abbrev aqc:=@Nat.le_refl
abbrev aqd:=@List.length_nil
abbrev aqe:=@List.mem_of_getElem?
abbrev aqf:=@Nat.eq_of_beq_eq_true
abbrev aqg:=@Array.getElem?_eq_some_iff
abbrev aqh:=@List.getElem?_append_right
abbrev aqi:=@List.append_assoc
abbrev aqj:=@Nat.le_trans
abbrev aqk:=@Option.some.inj
abbrev aql:=@Nat.zero_add
abbrev aqm:=@List.append_nil
abbrev aqn:=@Array.getElem?_eq_getElem
abbrev aqo:=@Array.getElem?_toList
abbrev aqp:=@Nat.lt_of_lt_of_le
abbrev aqq:=@List.map_cons
abbrev aqr:=@List.all_eq_true
abbrev aqs:=@Int.toNat_natCast
abbrev aqt:=@Nat.not_lt_zero
abbrev aqu:=@List.getElem?_set_self
abbrev aqv:=@List.mem_cons
abbrev aqw:=@List.map_congr_left
abbrev aqx:=@List.getElem?_eq_none
abbrev aqy:=@Array.length_toList
abbrev aqz:=@List.getElem?_set_ne
abbrev aqA:=@List.drop_zero
abbrev aqB:=@List.length_replicate
abbrev aqC:=@List.getElem?_cons_succ
abbrev aqD:=@List.mem_append
abbrev aqE:=@List.take_append_drop
abbrev aqF:=@Nat.lt_irrefl
abbrev aqG:=@Nat.le_add_right
abbrev aqH:=@List.not_mem_nil
abbrev aqI:=@decide_eq_true
abbrev aqJ:=@decide_eq_false
abbrev aqK:=@beq_self_eq_true
abbrev aqL:=@List.all_cons
abbrev aqM:=@List.any_cons
abbrev aqN:=@Nat.lt_succ_self
abbrev aqO:=@Bool.or_eq_false_iff
abbrev aqP:Type->Type:=List
abbrev aqQ:=ByteArray
abbrev aqR:Type->Type:=Option
abbrev aqS:=Program
abbrev aqT:=Value
abbrev aqU:=World
def bL(a:aqQ):aqP UInt8:=a.data.toList
theorem Sx(a:aqQ):a.toList=bL a:=ByteArray.toList_eq a
theorem JO{a b:aqQ}(h:bL a=bL b):a=b:=by cases a;cases b;simp only[bL,Array.toList_inj]at h;rw[h]
def yd(l:aqP Nat):aqP aqT:=l.map λn=>Value.int .u8 (Int.ofNat n)
def Gp:aqP Nat:=(List.range 256).map λn=>bif (Nat.ble 9 n&&Nat.ble n 13)||n==32 then 1 else 0
def Bf:aqP (Nat×aqP aqT):=
 (0,yd Gp)::
  []
def zT:aqP (Nat×aqP aqT)->Nat->aqR (aqP aqT)
 |[],_=>none
 |(k,l)::r,g=>bif k==g then some l else zT r g
theorem V7:∀{t:aqP (Nat×aqP aqT)}{g:Nat}{l:aqP aqT},zT t g=some l->(g,l)∈t
 |[],g,l,h=>by cases h
 |(k,l')::r,g,l,h=>by
  unfold zT at h;cases e:k==g with
  |true=>rw[e]at h;cases h;rw[beq_iff_eq]at e;subst e;simp
  |false=>rw[e]at h;exact aqa _ (V7 h)
inductive D where
 |v (u:Value)
 |sl (xs:List (List D))
 |ag (ds:List D)
inductive fA where
 |d (x:D)
 |bk (c:List D) (off:Nat)
 |fn (f:FuncId) (cs:List fA)
 |ou (f:FuncId) (cs:List fA)
inductive AV where
 |d (x:D)
 |agg (cs:List AV)
 |bj (cs:List AV)
 |ptr (n off:Nat)
 |bk (xs:List (List D)) (i off:Nat)
 |own (n:Nat) (xs:List (List D))
 |full (xs:List (List D))
 |row (n off len cap k:Nat)
 |fn (f:FuncId) (db:List AV)
 |mp (n:Nat)
 |cr (n:Nat)
 |vec (n o len L k:Nat)
 |dB (n i j L k:Nat)
 |hid (c:fA)
 |dead
inductive LS where
 |ready
 |busy
 |done (c:Code)
def LS.st:LS->LoopState
 | .ready=> .ready
 | .busy=> .busy
 | .done _=> .done
def LS.pd:LS->aqR Code
 | .done c=>some c
 |_=>none
inductive aq where
 |cells (cs:List AV)
 |front (e:TypeId) (k len:Nat)
 |vec (e:TypeId) (k:Nat) (cs:List (List AV))
 |map (kv:List (ByteArray×D))
 |ja (kv:List (ByteArray×D))
 |lp (ls:LS) (p:Nat) (as bd:Code) (cs:List AV)
 |it (sn:Nat×List Nat) (cs:List AV)
 |e9 (T:TypeId) (cs:List AV)
 |iP (e:TypeId) (b:ByteArray)
 |gone
structure Gh where
 N:Nat
 Z:Nat->Prop
 S:Nat->Nat->Prop
 aR:Nat->Nat
 sg:Nat->Value
 ow:Nat->Option Nat
 fl:Nat->Nat
 M:Nat
inductive dw(S:Nat->Nat->Prop)(w:World):Value->D->Prop
 |v (u:Value):dw S w u (.v u)
 |sl (A:Option Addr) (b o c k:Nat) (xs:List (List D)) (u:Nat->Nat->Value)
    (hA:xs≠ []->A=some ⟨b,o,none⟩) (hc:xs.length<=c) (hm:c<=maxLen)
    (hk:∀x∈xs,x.length=k)
    (hS:∀i j,i<xs.length->j<k->S b (o+i*k+j)/\w.cell? ⟨b,o+i*k+j,none⟩=some (u i j)/\(u i j).oneCell'=true)
    (hu:∀(i j:Nat)(x:List D)(d:D),xs[i]?=some x->x[j]?=some d->dw S w (u i j) d):dw S w (.slice A xs.length c) (.sl xs)
 |ag (vs:Array Value) (ds:List D) (hl:vs.size=ds.length) (h:∀(i:Nat)(u:Value)(d:D),vs[i]?=some u->ds[i]?=some d->dw S w u d):dw S w (.agg vs) (.ag ds)
inductive nV(S:Nat->Nat->Prop)(w:World):Value->fA->Prop
 |d {u:Value} {x:D} (h:dw S w u x):nV S w u (.d x)
 |bk (c:List D) (off b o:Nat) (u:Nat->Value) (hS:∀j,j<c.length->S b (o+j)/\w.cell? ⟨b,o+j,none⟩=some (u j)) (hu:∀(j:Nat)(d:D),c[j]?=some d->dw S w (u j) d):nV S w (.pointer (some ⟨b,o+off,none⟩)) (.bk c off)
 |fn (f:FuncId) (vs:Array Value) (cs:List fA) (hl:vs.size=cs.length) (h:∀(i:Nat)(u:Value)(c:fA),vs[i]?=some u->cs[i]?=some c->nV S w u c):nV S w (.func (.func f) #[] vs) (.fn f cs)
 |ou (f:FuncId) (vs:Array Value) (cs:List fA) (hl:vs.size=cs.length) (h:∀(i:Nat)(u:Value)(c:fA),vs[i]?=some u->cs[i]?=some c->nV S w u c):nV S w (.func (.func f) vs #[]) (.ou f cs)
structure U9(s u:Value)(o len L k:Nat):Prop where
 ol:o+len<=L
 sl:∃A c,u= .slice A len c/\len<=c/\c<=maxLen/\L<=c+o/\(o<L->∃g cap,s= .slice (some ⟨g,0,none⟩) L cap/\A=some ⟨g,o*k,none⟩/\o+c=cap)
 all:o=0->len=L->u=s
structure Y2(s u:Value)(i j L k:Nat):Prop where
 il:i<L
 pt:∃g cap,s= .slice (some ⟨g,0,none⟩) L cap/\u= .pointer (some ⟨g,i*k+j,none⟩)
inductive aH(G:Gh)(w:World):Value->AV->Prop
 |d {u:Value} {x:D} (h:dw G.S w u x):aH G w u (.d x)
 |agg (vs:Array Value) (cs:List AV) (hl:vs.size=cs.length) (h:∀(i:Nat)(u:Value)(c:AV),vs[i]?=some u->cs[i]?=some c->aH G w u c):aH G w (.agg vs) (.agg cs)
 |bj (vs:Array Value) (cs:List AV) (hl:vs.size=cs.length) (h:∀(i:Nat)(u:Value)(c:AV),vs[i]?=some u->cs[i]?=some c->aH G w u c):aH G w (.tuple vs) (.bj cs)
 |ptr (n off:Nat) (h:n<G.N):aH G w (.pointer (some ⟨G.aR n,off,none⟩)) (.ptr n off)
 |bk (xs:List (List D)) (i off b o:Nat) (u:Nat->Value) (x:List D) (hx:xs[i]?=some x)
  (hS:∀j,j<x.length->G.S b (o+j)/\w.cell? ⟨b,o+j,none⟩=some (u j)) (hu:∀(j:Nat)(d:D),x[j]?=some d->dw G.S w (u j) d):aH G w (.pointer (some ⟨b,o+off,none⟩)) (.bk xs i off)
 |own {u:Value} (n:Nat) (xs:List (List D)) (h:n<G.N) (hp:dw G.S w u (.sl xs)) (hle:xs.length<=G.fl n) (hf:xs.length=G.fl n->u=G.sg n):aH G w u (.own n xs)
 |full {u:Value} (xs:List (List D)) (hp:dw G.S w u (.sl xs)) (hf:∃A,u= .slice A xs.length xs.length):aH G w u (.full xs)
 |row (n off len cap k:Nat) (h:n<G.N) (hl:len<=cap) (hm:cap<=maxLen):aH G w (.slice (some ⟨G.aR n,off,none⟩) len cap) (.row n off len cap k)
 |fn (f:FuncId) (vs:Array Value) (cs:List AV) (hl:vs.size=cs.length) (h:∀(i:Nat)(u:Value)(c:AV),vs[i]?=some u->cs[i]?=some c->aH G w u c):aH G w (.func (.func f) #[] vs) (.fn f cs)
 |mp (n:Nat) (h:n<G.N):aH G w (.map (some (G.aR n))) (.mp n)
 |cr (n:Nat) (h:n<G.N):aH G w (.func (.yield (G.aR n)) #[] #[]) (.cr n)
 |vec {u:Value} (n o len L k:Nat) (h:n<G.N) (hs:∃A l c,u= .slice A l c) (hL:L<=G.fl n) (hf:L=G.fl n->U9 (G.sg n) u o len L k):aH G w u (.vec n o len L k)
 |dB {u:Value} (n i j L k:Nat) (h:n<G.N) (hs:∃b q,u= .pointer (some ⟨b,q,none⟩)) (hL:L<=G.fl n) (hf:L=G.fl n->Y2 (G.sg n) u i j L k):aH G w u (.dB n i j L k)
 |hid {u:Value} {c:fA} (h:nV G.S w u c) (J:u.oneCell'=true):aH G w u (.hid c)
 |dead (u:Value):aH G w u .dead
def lK:aqP (aqQ×D)->aqQ->aqR D
 |[],_=>none
 |(k,d)::l,s=>bif bL k==bL s then some d else lK l s
structure ur(S:Nat->Nat->Prop)(w:World)(es:Array MapEntry)(clock:Nat)(kv:List (ByteArray×D)):Prop where
 size:es.size<=maxLen
 stamped:MapKept.Stamped es clock
 Ae:∀e∈es.toList,∃s d,e.key= .string s/\lK kv s=some d/\dw S w e.val d
 all:∀s d,lK kv s=some d->∃e∈es.toList,e.key= .string s
 len:es.size<=kv.length
 born:∀(i:Nat)(e:MapEntry),es[i]?=some e->e.born=i
 Eh:clock=es.size
structure xy(S:Nat->Nat->Prop)(w:World)(es:Array MapEntry)(clock:Nat)(kv:List (ByteArray×D)):Prop where
 ok:ur S w es clock kv
 ord:∀(i:Nat)(e:MapEntry),es[i]?=some e->∃p,kv[i]?=some p/\e.key= .string p.1/\dw S w e.val p.2
 all:kv.length=es.size
def aq.ee(G:Gh)(n:Nat):aq->aqR Nat
 | .cells _=>some (G.aR n)
 | .front _ _ _=>G.ow n
 | .vec _ _ _=>G.ow n
 | .map _=>some (G.aR n)
 | .ja _=>some (G.aR n)
 | .lp _ _ _ _ _=>some (G.aR n)
 | .it _ _=>some (G.aR n)
 | .e9 _ _=>some (G.aR n)
 | .iP _ _=>G.ow n
 | .gone=>none
def bU(h:aqP aq)(G:Gh)(n:Nat):aqR Nat:=(h[n]?).bind (aq.ee G n)
theorem dJ{h:aqP aq}{G:Gh}{n:Nat}{B:aq}(e:h[n]?=some B):bU h G n=B.ee G n:=by unfold bU;rw[e];rfl
theorem vw{h:aqP aq}{G:Gh}{n:Nat}(e:h[n]?=none):bU h G n=none:=by unfold bU;rw[e];rfl
theorem nI{h:aqP aq}{G:Gh}{n b:Nat}(e:bU h G n=some b):∃B,h[n]?=some B/\B.ee G n=some b:=by
 unfold bU at e;cases hx:h[n]? with
 |none=>rw[hx]at e;cases e
 |some B=>rw[hx]at e;exact⟨B,rfl,e⟩
def ahq(v:aqT):Prop:=v= .slice none 0 0\/∃g n cap,v= .slice (some ⟨g,0,none⟩) n cap/\cap≠0
def eu(G:Gh)(w:aqU)(n:Nat):aq->Prop
 | .cells cs=>¬G.Z (G.aR n)/\(∀o,¬G.S (G.aR n) o)/\∃(vs:Array aqT)(T:TypeId),w.heap[G.aR n]?=some (.cells vs T (0,0))/\vs.size=cs.length/\∀(i:Nat)(u:aqT)(c:AV),vs[i]?=some u->cs[i]?=some c->aH G w u c
 | .front e k len=>G.fl n=len/\len<=maxLen/\((G.ow n=none/\∃A,G.sg n= .slice A len len)\/
  ∃(g cap:Nat)(cur:Array aqT),G.ow n=some g/\G.sg n= .slice (some ⟨g,0,none⟩) len cap/\¬G.Z g/\w.heap[g]?=some (.cells cur e (0,0))/\len<=cap/\cap<=maxLen/\cur.size=cap*k/\∀o,len*k<=o->¬G.S g o)
 | .vec e k cs=>G.fl n=cs.length/\cs.length<=maxLen/\(∀c∈cs,c.length=k)/\((G.ow n=none/\cs=[]/\∃A,G.sg n= .slice A 0 0)\/
  ∃(g cap:Nat)(cur:Array aqT),G.ow n=some g/\G.sg n= .slice (some ⟨g,0,none⟩) cs.length cap/\¬G.Z g/\w.heap[g]?=some (.cells cur e (0,0))/\cs.length<=cap/\cap<=maxLen/\cur.size=cap*k/\(∀o,¬G.S g o)/\
   ∀(i j:Nat)(c:aqP AV)(x:AV)(u:aqT),cs[i]?=some c->c[j]?=some x->cur[i*k+j]?=some u->aH G w u x)
 | .map kv=>¬G.Z (G.aR n)/\(∀o,¬G.S (G.aR n) o)/\∃(es:Array MapEntry)(clock:Nat),w.heap[G.aR n]?=some (.map es clock)/\ur G.S w es clock kv
 | .ja kv=>¬G.Z (G.aR n)/\(∀o,¬G.S (G.aR n) o)/\∃(es:Array MapEntry)(clock:Nat),w.heap[G.aR n]?=some (.map es clock)/\xy G.S w es clock kv
 | .lp ls p as bd cs=>¬G.Z (G.aR n)/\(∀o,¬G.S (G.aR n) o)/\∃(fn:FuncId)(tm:Array aqT)(D:Nat),w.heap[G.aR n]?=some (.loop {state:=ls.st,pending:=ls.pd,fn:=fn,tmps:=tm,params:= #[p],assign:=as,body:=bd,defers:=D})/\tm.size=cs.length/\∀(i:Nat)(u:aqT)(c:AV),tm[i]?=some u->cs[i]?=some c->aH G w u c
 | .it sn cs=>¬G.Z (G.aR n)/\(∀o,¬G.S (G.aR n) o)/\∃(fn:Nat)(vs:Array aqT)(_:Unit),w.heap[G.aR n]?=some (.mapIter (some fn) sn.1 sn.2.toArray sn.1)/\(vs.size=cs.length/\vs= #[.map (some fn)])/\∀(i:Nat)(u:aqT)(c:AV),vs[i]?=some u->cs[i]?=some c->aH G w u c
 | .e9 T cs=>¬G.Z (G.aR n)/\(∀o,¬G.S (G.aR n) o)/\∃(_:Unit)(vs:Array aqT)(p:aqT),w.heap[G.aR n]?=some (.cells (#[p]++vs) T (0,0))/\(vs.size=cs.length/\(p= .pointer none\/p= .pointer (some ⟨G.aR n,0,none⟩))/\∀v∈vs.toList,ahq v)/\∀(i:Nat)(u:aqT)(c:AV),vs[i]?=some u->cs[i]?=some c->aH G w u c
 | .iP e b=>G.fl n=b.size/\b.size<=maxLen/\((G.ow n=none/\b.size=0/\∃A,G.sg n= .slice A 0 0)\/
  ∃(g cap:Nat)(cur:Array aqT),G.ow n=some g/\G.sg n= .slice (some ⟨g,0,none⟩) b.size cap/\¬G.Z g/\w.heap[g]?=some (.cells cur e (0,0))/\b.size<=cap/\cap<=maxLen/\cur.size=cap/\(∀o,¬G.S g o)/\∀(i:Nat)(u:UInt8),(bL b)[i]?=some u->cur[i]?=some (.int .u8 u.toNat))
 | .gone=>True
def Ls(G:Gh)(w:aqU):Prop:=(∀(g:Nat)(l:aqP aqT),(g,l)∈Bf->∀(j:Nat)(v:aqT),l[j]?=some v->G.S g j/\w.cell? ⟨g,j,none⟩=some v)/\G.M<=w.heap.size
structure bW(G:Gh)(w:World)(h:List aq):Prop where
 len:h.length=G.N
 z:∀b,G.Z b->b<w.heap.size
 S:∀b o,G.S b o->b<w.heap.size
 dc:∀(n:Nat)(B:aq),h[n]?=some B->eu G w n B
 inj:∀(m n b:Nat),bU h G m=some b->bU h G n=some b->m=n
 gl:Ls G w
structure bV(N:Nat)(G:Gh)(w:World)(G':Gh)(w':World):Prop where
 size:w.heap.size<=w'.heap.size
 S:∀b o,G.S b o->G'.S b o
 cell:∀b o,G.S b o->w'.cell? ⟨b,o,none⟩=w.cell? ⟨b,o,none⟩
 aR:∀n,n<N->G'.aR n=G.aR n
 fr:∀n,n<N->(G'.fl n=G.fl n/\G'.sg n=G.sg n)\/G.fl n<G'.fl n
 Z:((∀b,G.Z b->G'.Z b)/\∀b,G'.Z b->G.Z b\/w.heap.size<=b)/\G'.M=G.M
 old:∀b,G.Z b->w'.heap[b]?=w.heap[b]?
 os:w'.os=w.os
 tape:w'.tape=w.tape
 output:w'.output=w.output
 new:∀b o,G'.S b o->G.S b o\/¬G.Z b
theorem im{Z Z':Nat->Prop}{m M M':Nat}(h:Z'=Z)(hM:M'=M:=by rfl):((∀b,Z b->Z' b)/\∀b,Z' b->Z b\/m<=b)/\M'=M:=⟨⟨λ_ k=>h▸k,λ_ k=> .inl (h▸k)⟩,hM⟩
theorem bV.refl(N:Nat)(G:Gh)(w:aqU):bV N G w G w:=
 ⟨aqc _,λ_ _ h=>h,λ_ _ _=>rfl,λ_ _=>rfl,λ_ _=> .inl ⟨rfl,rfl⟩,im rfl,λ_ _=>rfl,rfl,rfl,rfl,λ_ _ h=> .inl h⟩
theorem bV.trans{N:Nat}{G G1 G2:Gh}{w w1 w2:aqU}(h:bV N G w G1 w1)(k:bV N G1 w1 G2 w2):bV N G w G2 w2:=
 ⟨aqj h.size k.size,λb o hs=>k.S b o (h.S b o hs),λb o hs=>(k.cell b o (h.S b o hs)).trans (h.cell b o hs),λn hn=>(k.aR n hn).trans (h.aR n hn),
  λn hn=>by
   rcases h.fr n hn with⟨J,h2⟩|J<;>rcases k.fr n hn with⟨k1,k2⟩|k1
   ·exact .inl ⟨k1.trans J,k2.trans h2⟩
   ·exact .inr (J▸k1)
   ·exact .inr (k1▸J)
   ·exact .inr (Nat.lt_trans J k1),
  ⟨⟨λb hb=>k.Z.1.1 b (h.Z.1.1 b hb),λb hb=>(k.Z.1.2 b hb).elim (h.Z.1.2 b) λhs=> .inr (aqj h.size hs)⟩,k.Z.2.trans h.Z.2⟩,λb hb=>(k.old b (h.Z.1.1 b hb)).trans (h.old b hb),k.os.trans h.os,k.tape.trans h.tape,k.output.trans h.output,λb o hs=>(k.new b o hs).elim (h.new b o) (λhn=> .inr λhz=>hn (h.Z.1.1 b hz))⟩
theorem bV.less{N M:Nat}{G G':Gh}{w w':aqU}(h:bV N G w G' w')(hM:M<=N):bV M G w G' w':=
 ⟨h.size,h.S,h.cell,λn hn=>h.aR n (aqp hn hM),λn hn=>h.fr n (aqp hn hM),h.Z,h.old,h.os,h.tape,h.output,h.new⟩
theorem bV.lH{N:Nat}{G G':Gh}{w w':aqU}(h:bV N G w G' w'){b:Nat}(hb:b<w.heap.size)(hz:¬G.Z b):¬G'.Z b:=λk=>(h.Z.1.2 b k).elim hz λhs=>aqF _ (aqp hb hs)
def sx(G:Gh)(w:aqU)(ds:aqP Deferred):Prop:=∃l:aqP Nat,l.Nodup/\ds=l.map (λD=>{target:= .collected D,args:= #[]})/\∀D∈l,G.M<=D/\G.Z D/\w.heap[D]?=some (.deferred (some []))
theorem sx.nil(G:Gh)(w:aqU):sx G w []:=⟨[],List.nodup_nil,rfl,λ_ h=>absurd h aqH⟩
theorem sx.keep{N:Nat}{G G':Gh}{w w':aqU}{ds:aqP Deferred}(h:sx G w ds)(hE:bV N G w G' w'):sx G' w' ds:=
 let ⟨l,J,h2,h3⟩:=h
 ⟨l,J,h2,λD hD=>⟨hE.Z.2▸(h3 D hD).1,hE.Z.1.1 D (h3 D hD).2.1,(hE.old D (h3 D hD).2.1).trans (h3 D hD).2.2⟩⟩
theorem Ls.keep{N:Nat}{G G':Gh}{w w':aqU}(h:Ls G w)(hE:bV N G w G' w'):Ls G' w':=⟨λg l hm j v hv=>
 ⟨hE.S _ _ (h.1 g l hm j v hv).1,(hE.cell _ _ (h.1 g l hm j v hv).1).trans (h.1 g l hm j v hv).2⟩,by rw[hE.Z.2];exact aqj h.2 hE.size⟩
theorem dw.keep{S S':Nat->Nat->Prop}{w w':aqU}(hS:∀b o,S b o->S' b o)(hc:∀b o,S b o->w'.cell? ⟨b,o,none⟩=w.cell? ⟨b,o,none⟩){u:aqT}{x:D}(h:dw S w u x):dw S' w' u x:=by
 induction h with
 |v u=>exact .v u
 |sl A b o c k xs u hA gg hm hk rb _ ih=>
  exact .sl A b o c k xs u hA gg hm hk (λi j hi hj=>⟨hS _ _ (rb i j hi hj).1,(hc _ _ (rb i j hi hj).1).trans (rb i j hi hj).2.1,(rb i j hi hj).2.2⟩) ih
 |ag vs ds hl _ ih=>exact .ag vs ds hl ih
theorem nV.keep{S S':Nat->Nat->Prop}{w w':aqU}(hS:∀b o,S b o->S' b o)(hc:∀b o,S b o->w'.cell? ⟨b,o,none⟩=w.cell? ⟨b,o,none⟩){u:aqT}{x:fA}(h:nV S w u x):nV S' w' u x:=by
 induction h with
 |d h=>exact .d (h.keep hS hc)
 |bk c off b o u J h2=>exact .bk c off b o u (λj hj=>⟨hS _ _ (J j hj).1,(hc _ _ (J j hj).1).trans (J j hj).2⟩) (λj d hd=>(h2 j d hd).keep hS hc)
 |fn f vs cs hl _ ih=>exact .fn f vs cs hl ih
 |ou f vs cs hl _ ih=>exact .ou f vs cs hl ih
theorem aH.keep{G G':Gh}{w w':aqU}(hE:bV G.N G w G' w')(hN:G.N<=G'.N){u:aqT}{x:AV}(h:aH G w u x):aH G' w' u x:=by
 induction h with
 |d h=>exact .d (h.keep hE.S hE.cell)
 |agg vs cs hl _ ih=>exact .agg vs cs hl ih
 |bj vs cs hl _ ih=>exact .bj vs cs hl ih
 |ptr n off h=>rw[<-hE.aR n h];exact .ptr n off (aqp h hN)
 |bk xs i off b o u x hx hS hu=>exact .bk xs i off b o u x hx (λj hj=>⟨hE.S _ _ (hS j hj).1,(hE.cell _ _ (hS j hj).1).trans (hS j hj).2⟩) (λj d hd=>(hu j d hd).keep hE.S hE.cell)
 |own n xs h hp hle hf=>
  refine .own n xs (aqp h hN) (hp.keep hE.S hE.cell) ?_ ?_
  ·rcases hE.fr n h with⟨J,_⟩|J
   ·omega
   ·omega
  ·intro e;rcases hE.fr n h with⟨J,h2⟩|J
   ·rw[h2];exact hf (e.trans J)
   ·omega
 |full xs hp hf=>exact .full xs (hp.keep hE.S hE.cell) hf
 |row n off len cap k h hl hm=>rw[<-hE.aR n h];exact .row n off len cap k (aqp h hN) hl hm
 |fn f vs cs hl _ ih=>exact .fn f vs cs hl ih
 |mp n h=>rw[<-hE.aR n h];exact .mp n (aqp h hN)
 |cr n h=>rw[<-hE.aR n h];exact .cr n (aqp h hN)
 |vec n o len L k h hs hL hf=>
  refine .vec n o len L k (aqp h hN) hs ?_ ?_
  ·rcases hE.fr n h with⟨J,_⟩|J<;>omega
  ·intro e;rcases hE.fr n h with⟨J,h2⟩|J
   ·rw[h2];exact hf (e.trans J)
   ·omega
 |dB n i j L k h hs hL hf=>
  refine .dB n i j L k (aqp h hN) hs ?_ ?_
  ·rcases hE.fr n h with⟨J,_⟩|J<;>omega
  ·intro e;rcases hE.fr n h with⟨J,h2⟩|J
   ·rw[h2];exact hf (e.trans J)
   ·omega
 |hid h J=>exact .hid (h.keep hE.S hE.cell) J
 |dead u=>exact .dead u
structure St where
 n:Nat
 t:List (Nat×AV)
 h:List aq
def bp:aqP (Nat×AV)->Nat->AV
 |[],_=> .dead
 |(k,x)::l,i=>bif i==k then x else bp l i
theorem lI(k:Nat)(x:AV)(l:aqP (Nat×AV))(i:Nat):bp ((k,x)::l) i=if i=k then x else bp l i:=by
 simp only[bp,cond_eq_ite,beq_iff_eq]
def fQ(b:Bool)(p:Prop):Prop:=cond b p False
theorem bX{b:Bool}{p:Prop}:fQ b p↔b=true/\p:=by cases b<;>simp [fQ]
def ct(a b:Nat):Bool:=a-b==0
theorem dh{a b:Nat}:ct a b=true↔a<=b:=by simp [ct];omega
def kNo:IntKind->Nat
 | .i8=>0| .i16=>1| .i32=>2| .i64=>3| .u8=>4| .u16=>5| .u32=>6| .u64=>7
def yC(a b:IntKind):Bool:=kNo a==kNo b
theorem NL{a b:IntKind}:yC a b=true↔a=b:=by cases a<;>cases b<;>decide
def St.put(s:St)(dst:aqR Nat)(x:AV):St:=
 match dst with
 |none=>s
 |some d=>bif s.n-d==0 then s else{s with t:=(d,x)::s.t}
theorem qT{s:St}{d:Nat}(h:d<s.n)(x:AV):s.put (some d) x={s with t:=(d,x)::s.t}:=by
 have:(s.n-d==0)=false:=by simp;omega
 simp only[St.put,this,cond_false]
theorem Hb{s:St}{d:Nat}(h:¬d<s.n)(x:AV):s.put (some d) x=s:=by
 have:(s.n-d==0)=true:=by simp;omega
 simp only[St.put,this,cond_true]
def St.wh(s:St)(h:aqP aq):St:={s with h:=h}
def Rt:aqT->AV
 | .agg vs=> .agg (vs.toList.map λu=> .d (.v u))
 | .tuple vs=> .bj (vs.toList.map λu=> .d (.v u))
 |u=> .d (.v u)
def ev(s:St):Operand->AV
 | .tmp t=>bp s.t t
 | .const v=>Rt v
 | .func f=> .fn f []
 | .global g=>match zT Bf g with
   |some l=> .bk [l.map .v] 0 0
   |none=> .dead
def AV.kH:AV->Bool
 | .d (.v u)=>u.oneCell'
 | .d (.sl _)| .ptr .. | .bk .. | .own .. | .full _| .row .. | .fn .. | .mp _| .cr _| .hid _| .vec .. | .dB .. =>true
 | .agg _| .bj _| .dead| .d (.ag _)=>false
def AV.cells:AV->aqP AV
 | .agg cs=>cs
 |x=>[x]
def AV.jN:AV->Bool
 | .agg cs=>cs.all AV.kH
 |x=>x.kH
def D.vD:D->D
 | .v (.slice none 0 0)=> .sl []
 |x=>x
def AV.xl:AV->aqR D
 | .d x=>some x.vD
 | .own _ xs=>some (.sl xs)
 | .full xs=>some (.sl xs)
 |_=>none
def AV.fW:AV->aqR (aqP (aqP D))
 | .d (.sl xs)=>some xs
 | .own _ xs=>some xs
 | .full xs=>some xs
 | .d (.v (.slice none 0 0))=>some []
 |_=>none
def AV.int?:AV->aqR Int
 | .d (.v (.int _ n))=>some n
 |_=>none
def fA.av:fA->AV
 | .d x=> .d x
 | .bk c off=> .bk [c] 0 off
 | .fn f cs=> .hid (.fn f cs)
 | .ou f cs=> .hid (.ou f cs)
def fA.app(as:aqP AV):fA->aqR (FuncId×aqP AV)
 | .fn g cs=>some (g,as++cs.map fA.av)
 | .ou g cs=>some (g,cs.map fA.av++as)
 |_=>none
mutual
def AV.cap:AV->aqR fA
 | .d x=>some (.d x)
 | .own _ xs=>some (.d (.sl xs))
 | .full xs=>some (.d (.sl xs))
 | .bk xs i off=>match xs[i]? with
   |some c=>some (.bk c off)
   |none=>none
 | .fn f cs=>match AV.xz cs with
   |some l=>some (.fn f l)
   |none=>none
 | .hid c=>some c
 |_=>none
def AV.xz:aqP AV->aqR (aqP fA)
 |[]=>some []
 |x::l=>match x.cap,AV.xz l with
  |some c,some l=>some (c::l)
  |_,_=>none
end
def QA(f:FuncId)(first db:aqP AV):aqR AV:=
 match first with
 |[]=>some (.fn f db)
 |l=>match AV.xz l,db with
  |some cs,[]=>some (.hid (.ou f cs))
  |_,_=>none
def gx(P:aqS)(t:TypeId):aqR Nat:=(P.info? t).map (·.size)
def mJ(P:aqS)(t:TypeId):aqR Bool:=(P.underlying t).map fun| .struct _=>true| .array .. =>true|_=>false
def th(P:aqS)(t:TypeId)(i:Nat):aqR (Nat×Nat×Bool):=
 match P.underlying t with
 |some (.struct fs)=>match fs[i]? with
  |some f=>match gx P f.type,mJ P f.type with
   |some (k+1),some g=>some (f.offset,k+1,g)
   |_,_=>none
  |none=>none
 |_=>none
def fb(P:aqS)(t:TypeId):aqR (TypeId×Nat):=
 match P.underlying t with
 |some (.slice e)=>(gx P e).map λk=>(e,k)
 |_=>none
def ud(P:aqS)(t:TypeId):aqR (Nat×TypeId×Nat):=
 match P.underlying t with
 |some (.array n e)=>(gx P e).map λk=>(n,e,k)
 |_=>none
def iD(P:aqS)(t:TypeId):Bool:=match P.underlying t with|some .string=>true|_=>false
def BW(P:aqS)(t:TypeId):Bool:=match P.underlying t with|some .bool=>true|_=>false
def rk(P:aqS)(t:TypeId):aqR IntKind:=match P.underlying t with|some (.int k)=>some k|_=>none
def Dw(P:aqS)(t:TypeId):Bool:=match P.underlying t with|some (.int .u8)=>true|_=>false
def iQ(P:aqS)(t:TypeId):aqR aqT:=(P.info? t).bind (·.zero)
def rN(P:aqS)(t:TypeId):aqR Nat:=(P.info? t).map (·.bytes)
def OL(op:BinOp)(k:IntKind)(a b:Int):aqR aqT:=
 match op with
 | .add=>some (.int k (k.wrap (a+b)))
 | .sub=>some (.int k (k.wrap (a-b)))
 | .mul=>some (.int k (k.wrap (a*b)))
 | .eql=>some (.bool (a==b))
 | .neq=>some (.bool (a !=b))
 | .lss=>some (.bool (a<b))
 | .leq=>some (.bool (a<=b))
 | .gtr=>some (.bool (a>b))
 | .geq=>some (.bool (a>=b))
 | .and=>some (.int k (k.wrap (BitVec.ofInt k.bits a&&&BitVec.ofInt k.bits b).toNat))
 | .or=>some (.int k (k.wrap (BitVec.ofInt k.bits a|||BitVec.ofInt k.bits b).toNat))
 | .xor=>some (.int k (k.wrap (BitVec.ofInt k.bits a^^^BitVec.ofInt k.bits b).toNat))
 | .andNot=>some (.int k (k.wrap (BitVec.ofInt k.bits a&&& ~~~BitVec.ofInt k.bits b).toNat))
 |_=>none
def O7(op:BinOp)(a b:aqQ):aqR aqT:=
 match op with
 | .eql=>some (.bool (bL a==bL b))
 | .neq=>some (.bool (!(bL a==bL b)))
 | .lss=>some (.bool (Op.bytesLess (bL a) (bL b)))
 | .leq=>some (.bool (Op.bytesLess (bL a) (bL b)||bL a==bL b))
 | .gtr=>some (.bool (!(Op.bytesLess (bL a) (bL b)||bL a==bL b)))
 | .geq=>some (.bool (!Op.bytesLess (bL a) (bL b)))
 |_=>none
def QK(op:BinOp)(a b:Bool):aqR aqT:=
 match op with
 | .eql=>some (.bool (a==b))
 | .neq=>some (.bool (!(a==b)))
 |_=>none
def PQ(op:BinOp)(k:IntKind)(a b:Int):aqR aqT:=
 match op with
 | .quo=>some (.int k (k.wrap (a.tdiv b)))
 | .rem=>some (.int k (a.tmod b))
 |_=>none
def OP(op:BinOp)(k:IntKind)(a b:Int):aqR aqT:=
 match op with
 | .shl=>some (.int k (k.wrap (a*2^(min b.toNat k.bits))))
 | .shr=>some (.int k (a.fdiv (2^(min b.toNat k.bits))))
 |_=>none
def J4(op:UnOp)(x:aqT):aqR aqT:=
 match op,x with
 | .not, .bool b=>some (.bool (!b))
 | .neg, .int k n=>some (.int k (k.wrap (0-n)))
 | .xor, .int k n=>some (.int k (k.wrap (BitVec.ofInt k.bits (if k.signed then-1 else k.max)^^^BitVec.ofInt k.bits n).toNat))
 |_,_=>none
def ji(cs:aqP AV)(off:Nat)(ys:aqP AV):aqP AV:=cs.take off++ys++cs.drop (off+ys.length)
def oJ(k:Nat):Nat->aqP D->aqP (aqP D)
 |0,_=>[]
 |n+1,l=>l.take k::oJ k n (l.drop k)
def qh(places:aqP (Nat×Nat)):aqP AV->aqP (Nat×AV)->aqR (aqP AV)
 |cs,[]=>some cs
 |cs,(i,x)::r=>
  match places[i]? with
  |some (off,k)=>bif x.cells.length==k&&ct (off+k) cs.length then qh places (ji cs off x.cells) r else none
  |none=>none
def nw:aqP AV->aqR (aqP D)
 |[]=>some []
 |x::r=>match x.xl,nw r with
  |some d,some l=>some (d::l)
  |_,_=>none
def C9(P:aqS)(fs:aqP Field):aqR (aqP (Nat×Nat)):=fs.mapM λf=>(gx P f.type).map λk=>(f.offset,k)
def JT(P:aqS)(f:FuncId):Bool:=
 match P.funcs[f]? with
 |some fn=>fn.body.isSome&& !(fn.name== "runtime.NumGoroutine")
 |none=>false
def cV(P:aqS)(f:FuncId)(args:aqP AV)(h:aqP aq)(K:AV->aqP aq->Prop):Prop:=
 JT P f=true/\∀(G:Gh)(w:aqU)(vs:Array aqT),bW G w h->vs.size=args.length->(∀(i:Nat)(u:aqT)(c:AV),vs[i]?=some u->args[i]?=some c->aH G w u c)->
  Calls P f vs w λe w'=>∃v G' r h',e= .returned v/\bV G.N G w G' w'/\G.N<=G'.N/\bW G' w' h'/\aH G' w' v r/\K r h'
theorem cV.mono{P:aqS}{f:FuncId}{args:aqP AV}{h:aqP aq}{K K':AV->aqP aq->Prop}(hc:cV P f args h K)(hk:∀r h',K r h'->K' r h'):cV P f args h K':=
 ⟨hc.1,λG w vs hi hl hr=>(hc.2 G w vs hi hl hr).mono λ_ _ ⟨v,G',r,h',e,x1,x2,x3,x4,x5⟩=>⟨v,G',r,h',e,x1,x2,x3,x4,hk _ _ x5⟩⟩
def tG(h:aqP aq)(p:AV)(K:aqP AV->Nat->Prop):Prop:=
 match p with
 | .ptr n off=>match h[n]? with
   |some (.cells cs)=>K cs off
   |_=>False
 | .bk xs i off=>match xs[i]? with
   |some cs=>K (cs.map .d) off
   |none=>False
 |_=>False
def oO(P:aqS)(t:TypeId)(h:aqP aq)(p:AV)(K:AV->Prop):Prop:=
 tG h p λcs off=>match mJ P t,gx P t with
  |some true,some k=>fQ (ct (off+k) cs.length) (K (.agg ((cs.drop off).take k)))
  |some false,some _=>match cs[off]? with
   |some c=>K c
   |none=>False
  |_,_=>False
def xP(P:aqS)(t:TypeId)(h:aqP aq)(p x:AV)(K:aqP aq->Prop):Prop:=
 match p with
 | .ptr n off=>match h[n]? with
   |some (.cells cs)=>match gx P t with
    |some k=>fQ (k==x.cells.length&&x.jN&&ct (off+x.cells.length) cs.length) (K (h.set n (.cells (ji cs off x.cells))))
    |none=>False
   |_=>False
 |_=>False
def ua(P:aqS)(T:TypeId)(x i:AV)(K:AV->Prop):Prop:=
 match fb P T with
 |some (_,k)=>
  match x with
  | .row n off len _ k'=>match i.int? with
    |some z=>fQ (k'==k) (0<=z/\z<len/\K (.ptr n (off+z.toNat*k)))
    |none=>False
  |_=>match x.fW,i.int? with
   |some xs,some z=>0<=z/\(match xs[z.toNat]? with|some c=>c.length=k/\K (.bk [c] 0 0)|none=>False)
   |_,_=>False
 |none=>match ud P T,x,i.int? with
  |some (n,_,k), .ptr b off,some z=>0<=z/\z<n/\K (.ptr b (off+z.toNat*k))
  |some (n,_,k), .bk xs i off,some z=>fQ (k==1) (0<=z/\z<n/\(match xs[i]? with|some c=>(match c[off+z.toNat]? with|some d=>K (.bk [[d]] 0 0)|none=>False)|none=>False))
  |_,_,_=>False
def sZ(P:aqS)(T:TypeId)(x:AV)(K:Nat->Prop):Prop:=
 match x with
 | .d (.v (.string s))=>fQ (iD P T) (K s.size)
 | .row _ _ len _ _=>fQ (fb P T).isSome (K len)
 |x=>match x.fW with
  |some xs=>fQ (fb P T).isSome (K xs.length)
  |none=>False
def ky(ρ:Operand->AV)(x:aqR Operand)(aiO:Nat)(K:Nat->Prop):Prop:=
 match x with
 |none=>K aiO
 |some y=>match (ρ y).int? with
  |some z=>0<=z/\K z.toNat
  |none=>False
def vf(P:aqS)(T:TypeId)(ρ:Operand->AV)(x:AV)(lo hi mx:aqR Operand)(K:AV->Prop):Prop:=
 match mx with
 |none=>
  match x with
  | .d (.v (.string b))=>fQ (iD P T) (ky ρ hi b.size λh=>h<=b.size/\ky ρ lo 0 λl=>l<=h/\K (.d (.v (.string (b.extract l h)))))
  | .ptr n off=>match ud P T with
    |some (m,_,k)=>fQ (ct m 4096) (ky ρ hi m λh=>fQ (ct h m) (ky ρ lo 0 λl=>fQ (ct l h&& !ct m l) (K (.row n (off+l*k) (h-l) (m-l) k))))
    |none=>False
  |x=>match x.fW,fb P T with
   |some xs,some (_,k)=>(∀c∈xs,c.length=k)/\ky ρ hi xs.length λh=>h<=xs.length/\ky ρ lo 0 λl=>l<=h/\K (.d (.sl ((xs.take h).drop l)))
   |_,_=>False
 |some m=>match lo,hi with
  |none,some y=>match x.fW,fb P T with
   |some xs,some (_,k)=>(∀c∈xs,c.length=k)/\ky ρ (some m) 0 λc=>c<=xs.length/\ky ρ (some y) 0 λh=>h=c/\K (.full (xs.take h))
   |_,_=>False
  |_,_=>False
def uy(h:aqP aq)(k:Nat)(x:AV)(K:aqP (aqP D)->Prop):Prop:=
 match x with
 | .row n off len _ k'=>match h[n]? with
   |some (.cells cs)=>match nw ((cs.drop off).take (len*k))with
    |some ds=>fQ (k'==k&&ct (off+len*k) cs.length&&((cs.drop off).take (len*k)).all AV.kH) (K (oJ k len ds))
    |none=>False
   |_=>False
 |x=>match x.fW with
  |some ys=>(∀c∈ys,c.length=k)/\K ys
  |none=>False
def ue(P:aqS)(T:TypeId)(h:aqP aq)(x y:AV)(K:AV->aqP aq->Prop):Prop:=
 match fb P T with
 |some (e,k)=>match iQ P e,rN P e with
  |some z,some c6=>fQ (ct 1 k&&z.cells.toList.length==k)<|uy h k y λys=>
   match x with
   | .own n xs=>match h[n]? with
     |some (.front e' k' len)=>fQ (e'==e&&k'==k)<|len=xs.length/\(∀c∈xs,c.length=k)/\xs.length+ys.length<=maxLen/\(xs.length+ys.length)*c6<=140737488355328/\K (.own n (xs++ys)) (h.set n (.front e k (xs.length+ys.length)))
     |_=>False
   | .d (.v (.slice none 0 0))=>ys.length<=maxLen/\ys.length*c6<=140737488355328/\K (.own h.length ys) (h++[.front e k ys.length])
   | .full xs=>(∀c∈xs,c.length=k)/\xs.length+ys.length<=maxLen/\(xs.length+ys.length)*c6<=140737488355328/\K (.own h.length (xs++ys)) (h++[.front e k (xs.length+ys.length)])
   |_=>False
  |_,_=>False
 |none=>False
def Oo(P:aqS)(T:TypeId):aqR (aqP (Nat×Nat)):=
 match P.underlying T with
 |some (.struct fs)=>C9 P fs.toList
 |_=>none
def yU(P:aqS)(T:TypeId)(ps:aqP (Nat×AV))(K:AV->Prop):Prop:=
 match Oo P T,iQ P T with
 |some places,some z=>match qh places (z.cells.toList.map λu=> .d (.v u)) ps with
  |some cs=>fQ ((ps.all λp=>p.2.jN)&&z.cells.toList.all Value.oneCell') (K (.agg cs))
  |none=>False
 |_,_=>False
def vU(k:Nat):Nat->Nat->aqP (Nat×Nat)
 |_,0=>[]
 |o,n+1=>(o,k)::vU k (o+k) n
def sX:Nat->aqP AV->aqP AV
 |0,_=>[]
 |n+1,l=>l++sX n l
def xc(P:aqS)(T:TypeId)(len:Nat)(ps:aqP (Nat×AV))(K:AV->Prop):Prop:=
 match fb P T with
 |some (e,k)=>match iQ P e with
  |some z=>match qh (vU k 0 len) (sX len (z.cells.toList.map λu=> .d (.v u))) ps with
   |some cs=>match nw cs with
    |some ds=>fQ (ct 1 k&&ct (len*k) 16777216&&z.cells.toList.length==k&&z.cells.toList.all Value.oneCell'&&(ps.all λp=>p.2.jN)) (K (.full (oJ k len ds)))
    |none=>False
   |none=>False
  |none=>False
 |none=>False
def Dv(P:aqS)(t:TypeId)(x y:AV):aqR Bool:=
 match x,y with
 | .d (.v (.int k a)), .d (.v (.int k' b))=>bif yC k k'&&(rk P t).isSome then some (a==b)else none
 | .d (.v (.string a)), .d (.v (.string b))=>bif iD P t then some (bL a==bL b)else none
 | .d (.v (.bool a)), .d (.v (.bool b))=>bif BW P t then some (a==b)else none
 |_,_=>none
def B3(P:aqS)(sub:TypeId->aqP AV->aqP AV->aqR Bool):aqP Field->aqP AV->aqP AV->aqR Bool
 |[],_,_=>some true
 |f::fs,xs,ys=>bif f.name== "_" then none else
  match mJ P f.type with
  |some false=>match xs[f.offset]?,ys[f.offset]? with
   |some x,some y=>match Dv P f.type x y,B3 P sub fs xs ys with
    |some a,some b=>some (a&&b)
    |_,_=>none
   |_,_=>none
  |some true=>match gx P f.type with
   |some k=>bif ct (f.offset+k) xs.length&&ct (f.offset+k) ys.length then match sub f.type ((xs.drop f.offset).take k) ((ys.drop f.offset).take k),B3 P sub fs xs ys with
    |some a,some b=>some (a&&b)
    |_,_=>none
    else none
   |none=>none
  |none=>none
def MF(P:aqS):Nat->TypeId->aqP AV->aqP AV->aqR Bool
 |0=>λ_ _ _=>none
 |d+1=>λT xs ys=>match P.underlying T with
  |some (.struct fs)=>bif P.stoodInHeld T then none else B3 P (MF P d) fs.toList xs ys
  |_=>none
def Kq(P:aqS)(T:TypeId)(xs ys:aqP AV):aqR Bool:=
 match P.underlying T with
 |some (.struct fs)=>bif P.stoodInHeld T||P.eqGuardType P.depth T then none else B3 P (MF P 4) fs.toList xs ys
 |_=>none
def x8(op:BinOp)(b:Bool):aqR aqT:=
 match op with
 | .eql=>some (.bool b)
 | .neq=>some (.bool (!b))
 |_=>none
def xI(P:aqS)(T:TypeId)(op:BinOp)(x y:AV)(K:AV->Prop):Prop:=
 match x,y with
 | .d (.v (.int k a)), .d (.v (.int k' b))=>
   match PQ op k a b with
   |some v=>fQ (yC k k') (b≠0/\K (.d (.v v)))
   |none=>match OP op k a b with
    |some v=>0<=b/\K (.d (.v v))
    |none=>match OL op k a b with
     |some v=>fQ (yC k k') (K (.d (.v v)))
     |none=>False
 | .d (.v (.string a)), .d (.v (.string b))=>match O7 op a b with
   |some v=>K (.d (.v v))
   |none=>match op with
    | .add=>a.size+b.size<=maxLen/\K (.d (.v (.string (a++b))))
    |_=>False
 | .d (.v (.bool a)), .d (.v (.bool b))=>match QK op a b with
   |some v=>fQ (BW P T) (K (.d (.v v)))
   |none=>False
 | .agg xs, .agg ys=>match Kq P T xs ys with
   |some b=>match x8 op b with
    |some v=>K (.d (.v v))
    |none=>False
   |none=>False
 |_,_=>False
def xB(op:UnOp)(x:AV)(K:AV->Prop):Prop:=
 match x with
 | .d (.v u)=>match J4 op u with
   |some v=>K (.d (.v v))
   |none=>False
 |_=>False
def xq(P:aqS)(src dst:TypeId)(x:AV)(K:AV->Prop):Prop:=
 match x with
 | .d (.v (.int _ n))=>match rk P src,rk P dst with
   |some _,some k=>K (.d (.v (.int k (k.wrap n))))
   |_,_=>False
 | .d (.v (.string b))=>fQ (iD P src&&iD P dst) (K (.d (.v (.string b))))
 |x=>match x.fW,fb P src with
  |some xs,some (e,_)=>fQ (Dw P e&&iD P dst) (∃ns:aqP Int,xs=ns.map (λn=>[.v (.int .u8 n)])/\K (.d (.v (.string ⟨(ns.map λn=>UInt8.ofNat n.toNat).toArray⟩))))
  |_,_=>False
def yK(P:aqS)(T:TypeId)(x:AV)(f:Nat)(K:AV->Prop):Prop:=
 match th P T f,x with
 |some (off,k,true), .agg cs=>fQ (ct (off+k) cs.length) (K (.agg ((cs.drop off).take k)))
 |some (off,_,false), .agg cs=>match cs[off]? with
  |some c=>K c
  |none=>False
 |_,_=>False
def vX(P:aqS)(T:TypeId):aqR (TypeId×TypeId):=
 match P.underlying T with
 |some (.map k e)=>some (k,e)
 |_=>none
inductive Sd
 |no
 |lt (n:Nat)
def Sd.ok:Sd->Prop
 | .no=>True
 | .lt n=>n<maxLen
def MG:D->AV
 | .ag ds=> .agg (ds.map .d)
 |d=> .d d
def B4:aqT->AV
 | .agg vs=> .agg (vs.toList.map λv=> .d (D.vD (.v v)))
 |v=> .d (.v v)
def sa(Vn:Bool)(z:aqT):aqR D->AV
 |some d=>bif Vn then .bj [MG d, .d (.v (.bool true))]else MG d
 |none=>bif Vn then .bj [B4 z, .d (.v (.bool false))]else B4 z
def AV.Pv:AV->aqR D
 | .agg cs=>(nw cs).map .ag
 |x=>x.xl
def qF(P:aqS)(op:Op)(ρ:Operand->AV)(h:aqP aq):aqR (AV×aqP aq×Sd):=
 match op with
 | .makeMap T none=>match vX P T with
   |some _=>some (.mp h.length,h++[.map []], .no)
   |none=>none
 | .lookup T m i ok=>match vX P T with
   |some (k,e)=>match iQ P e with
    |some z=>match ρ m,ρ i with
     | .mp n, .d (.v (.string s))=>match h[n]? with
       |some (.map kv)=>bif iD P k then some (sa ok z (lK kv s),h, .no)else none
       |_=>none
     |_,_=>none
    |none=>none
   |none=>none
 | .mapUpdate T m i x=>match vX P T with
   |some (k,_)=>match ρ m,ρ i,(ρ x).Pv with
    | .mp n, .d (.v (.string s)),some d=>match h[n]? with
      |some (.map kv)=>bif iD P k then some (.d (.v undef),h.set n (.map ((s,d)::kv)), .lt kv.length)else none
      |_=>none
    |_,_,_=>none
   |none=>none
 |_=>none
inductive VA
 |no
 |el (c:List AV)
 |st (c:List AV) (cs:List (List AV))
 |mk (cs:List (List AV)) (len m:Nat)
 |ap (cs ys:List (List AV)) (L len:Nat)
 |ix (i:Nat)
 |ol (o len:Nat)
def OG(P:aqS)(t:TypeId)(c:aqP AV)(j:Nat):aqR AV:=
 match mJ P t,gx P t with
 |some true,some k=>bif ct (j+k) c.length then some (.agg ((c.drop j).take k))else none
 |some false,some _=>c[j]?
 |_,_=>none
def cp(xs:aqP (aqP D)):aqP (aqP AV):=xs.map λc=>c.map AV.d
def Bk(h:aqP aq)(k:Nat)(y:AV)(ys:aqP (aqP AV)):Prop:=
 (∃xs,y.fW=some xs/\(∀c∈xs,c.length=k)/\ys=cp xs)\/(∃n o len L e cs,y= .vec n o len L k/\h[n]?=some (.vec e k cs)/\cs.length=L/\ys=(cs.drop o).take len/\∀c∈ys,c.all AV.kH=true)
def uq(ρ:Operand->AV)(d:Int):aqR Operand->aqR Int
 |none=>some d
 |some y=>(ρ y).int?
def iF(P:aqS)(op:Op)(ρ:Operand->AV)(h:aqP aq)(a:VA):aqR (AV×aqP aq×Prop):=
 match op with
 | .indexAddr T x i=>match ρ x,(ρ i).int?,fb P T,a with
   | .vec n o len L k,some z,some (_,k'), .ix i'=>match h[n]? with
     |some (.vec _ k2 cs)=>bif k'==k&&k2==k then some (.dB n i' 0 L k,h,cs.length=L/\0<=z/\z<len/\i'=o+z.toNat)else none
     |_=>none
   |_,_,_,_=>none
 | .fieldAddr S x f=>match ρ x,th P S f with
   | .dB n i j L k,some (fo,_,_)=>some (.dB n i (j+fo) L k,h,True)
   |_,_=>none
 | .nilCheck x=>match ρ x with
   | .dB n i j L k=>some (.dB n i j L k,h,True)
   |_=>none
 | .load t p=>match ρ p,a with
   | .dB n i j L k, .el c=>match h[n]?,OG P t c j with
     |some (.vec _ k' cs),some x=>bif k'==k then some (x,h,cs.length=L/\cs[i]?=some c)else none
     |_,_=>none
   |_,_=>none
 | .store t p x=>match ρ p,a with
   | .dB n i j L k, .st c cC=>match h[n]?,gx P t with
     |some (.vec e k' cs),some q=>bif k'==k&&q==(ρ x).cells.length&&(ρ x).jN&&ct (j+(ρ x).cells.length) k&&ct 1 k then some (.d (.v undef),h.set n (.vec e k cC),cs.length=L/\cs[i]?=some c/\cC=cs.set i (ji c j (ρ x).cells))else none
     |_,_=>none
   |_,_=>none
 | .slice T x lo hi none=>match ρ x,fb P T,a with
   | .vec n o len L k,some (_,k'), .ol o' hX=>match uq ρ 0 lo,uq ρ len hi with
     |some l,some u=>match h[n]? with
      |some (.vec _ k2 cs)=>bif k'==k&&k2==k then some (.vec n o' hX L k,h,cs.length=L/\0<=l/\l<=u/\u<=(L:Int)-o/\o'=o+l.toNat/\hX=u.toNat-l.toNat)else none
      |_=>none
     |_,_=>none
   |_,_,_=>none
 | .makeSlice T l c=>match fb P T,(ρ l).int?,(ρ c).int?,a with
   |some (e,k),some l,some c, .mk cs len m=>match iQ P e,rN P e with
    |some z,some c6=>bif ct 1 k&&z.cells.toList.length==k&&z.cells.toList.all Value.oneCell' then some (.vec h.length 0 len m k,h++[.vec e k cs],0<=l/\l<=c/\l.toNat=len/\c.toNat=m/\cs=List.replicate m (z.cells.toList.map λu=> .d (.v u))/\m<=maxLen/\c6*m<=281474976710656)else none
    |_,_=>none
   |_,_,_,_=>none
 | .call c=>match c.callee with
   | .builtin .len=>match c.args.toList,c.argTypes.toList with
     |[x],[T]=>match ρ x with
      | .vec n _ len L k=>match h[n]? with
        |some (.vec _ k2 cs)=>bif (fb P T).isSome&&k2==k then some (.d (.v (.int .i64 len)),h,cs.length=L)else none
        |_=>none
      |_=>none
     |_,_=>none
   | .builtin .append=>match c.args.toList,c.argTypes.toList with
     |[x,y],[T,U]=>match fb P T,fb P U,a with
      |some (e,k),some _, .ap cC ys L' hX=>match iQ P e,rN P e with
       |some z,some c6=>bif ct 1 k&&z.cells.toList.length==k then
        match ρ x with
        | .vec n o len L k1=>match h[n]? with
          |some (.vec e1 k2 cs)=>bif k1==k&&k2==k&&e1==e then some (.vec n o hX L' k,h.set n (.vec e k cC),cs.length=L/\Bk h k (ρ y) ys/\hX=len+ys.length/\
           ((o+len+ys.length<=L/\L'=L/\cC=cs.take (o+len)++ys++cs.drop (o+len+ys.length))\/(o=0/\len=L/\L'=L+ys.length/\cC=cs++ys/\L'<=maxLen/\L'*c6<=140737488355328)))else none
          |_=>none
        | .d (.v (.slice none 0 0))=>some (.vec h.length 0 hX L' k,h++[.vec e k cC],Bk h k (ρ y) ys/\cC=ys/\hX=ys.length/\L'=ys.length/\L'<=maxLen/\L'*c6<=140737488355328)
        | .full xs=>some (.vec h.length 0 hX L' k,h++[.vec e k cC],xs=[]/\Bk h k (ρ y) ys/\cC=ys/\hX=ys.length/\L'=ys.length/\L'<=maxLen/\L'*c6<=140737488355328)
        |_=>none
       else none
       |_,_=>none
      |_,_,_=>none
     |_,_=>none
   |_=>none
 |_=>none
def K4(mx:Bool)(k:IntKind):Int->aqP AV->aqR (IntKind×Int)
 |a,[]=>some (k,a)
 |a, .d (.v (.int _ b))::l=>K4 mx k (bif mx then(if b>a then b else a)else(if b<a then b else a)) l
 |_,_=>none
def Cs(mx:Bool):aqP AV->aqR (IntKind×Int)
 | .d (.v (.int k a))::l=>K4 mx k a l
 |_=>none
def cQ(P:aqS)(o:Oper)(ρ:Operand->AV)(h:aqP aq)(C:AV->aqP aq->Prop):Prop:=
 match o.op with
 | .move x| .assign x=>C (ρ x) h
 | .pick c a b=>match ρ c with
   | .d (.v (.bool t))=>(t=true->C (ρ a) h)/\(t=false->C (ρ b) h)
   |_=>False
 | .alloc e=>match iQ P e with
   |some z=>C (.ptr h.length 0) (h++[aq.cells (z.cells.toList.map λu=> .d (.v u))])
   |none=>False
 | .box _ x=>fQ (ρ x).jN<|C (.ptr h.length 0) (h++[aq.cells (ρ x).cells])
 | .load t a=>oO P t h (ρ a) λx=>C x h
 | .store t a x=>xP P t h (ρ a) (ρ x) λh'=>C (.d (.v undef)) h'
 | .nilCheck x=>match ρ x with
   | .ptr n off=>C (.ptr n off) h
   | .bk xs i off=>C (.bk xs i off) h
   | .fn f cs=>C (.fn f cs) h
   |_=>False
 | .fieldAddr S x f=>match th P S f with
   |some (fo,_,_)=>match ρ x with
    | .ptr n off=>C (.ptr n (off+fo)) h
    | .bk xs i off=>C (.bk xs i (off+fo)) h
    |_=>False
   |none=>False
 | .field T x f=>yK P T (ρ x) f λy=>C y h
 | .indexAddr T x i=>ua P T (ρ x) (ρ i) λy=>C y h
 | .index T x i=>match ρ x,(ρ i).int? with
   | .d (.v (.string b)),some z=>fQ (iD P T) (0<=z/\(match b[z.toNat]? with|some c=>C (.d (.v (.int .u8 c.toNat))) h|none=>False))
   |_,_=>False
 | .build T ps=>yU P T (ps.toList.map λp=>(p.1,ρ p.2)) λy=>C y h
 | .buildSlice T len ps=>xc P T len (ps.toList.map λp=>(p.1,ρ p.2)) λy=>C y h
 | .slice T x lo hi mx=>vf P T ρ (ρ x) lo hi mx λy=>C y h
 | .extract x i=>match ρ x with
   | .bj cs=>match cs[i]? with
     |some c=>C c h
     |none=>False
   |_=>False
 | .makeFunc (.func f) first db=>match QA f (first.toList.map ρ) (db.toList.map ρ)with
   |some x=>C x h
   |none=>False
 | .binOp op T x y _=>xI P T op (ρ x) (ρ y) λv=>C v h
 | .unOp op _ x=>xB op (ρ x) λv=>C v h
 | .convert a b x=>xq P a b (ρ x) λv=>C v h
 | .call c=>match c.callee with
   | .builtin .len=>match c.args.toList,c.argTypes.toList with
     |[x],[T]=>sZ P T (ρ x) λn=>C (.d (.v (.int .i64 n))) h
     |_,_=>False
   | .builtin .append=>match c.args.toList,c.argTypes.toList with
     |[x,y],[T,U]=>fQ (fb P U).isSome<|ue P T h (ρ x) (ρ y) λv h'=>C v h'
     |_,_=>False
   | .builtin .max=>match Cs true (c.args.toList.map ρ)with
     |some (k,a)=>C (.d (.v (.int k a))) h
     |none=>False
   | .builtin .min=>match Cs false (c.args.toList.map ρ)with
     |some (k,a)=>C (.d (.v (.int k a))) h
     |none=>False
   | .value f=>match ρ f with
     | .fn g db=>cV P g (c.args.toList.map ρ++db) h λr h'=>C r h'
     | .hid q=>∃g as,q.app (c.args.toList.map ρ)=some (g,as)/\cV P g as h λr h'=>C r h'
     |_=>False
   |_=>False
 |op=>match qF P op ρ h with
  |some (x,h',p)=>p.ok/\C x h'
  |none=>False
def GK(P:aqS)(o:Oper)(K:St->Prop)(s:St):Prop:=
 match o.op with
 | .binOp op T x y _=>match (ev s x).fW,ev s y,fb P T,x8 op true,x8 op false with
   |some xs, .d (.v (.slice none 0 0)),some _,some v1,some v2=>(xs=[]->K (s.put o.dst (.d (.v v1))))/\K (s.put o.dst (.d (.v v2)))
   |_,_,_,_,_=>False
 |_=>False
def KY(P:aqS)(o:Oper)(K:St->Prop)(s:St):Prop:=∃a x h' p,iF P o.op (ev s) s.h a=some (x,h',p)/\p/\K ((s.wh h').put o.dst x)
def rz(P:aqS)(o:Oper)(K:St->Prop)(s:St):Prop:=cQ P o (ev s) s.h λx h=>K ((s.wh h).put o.dst x)
def af0(P:aqS)(o:Oper)(K:St->Prop)(s:St):Prop:=KY P o K s\/GK P o K s\/rz P o K s
theorem mm(b o n:Nat):(⟨b,o,none⟩:Addr).add n=⟨b,o+n,none⟩:=by unfold Addr.add;split<;>simp_all
structure cY(G:Gh)(w:World)(a:Act)(s:St):Prop where
 size:a.tmps.size=s.n
 tmp:∀i,aH G w (a.tmps.getD i undef) (bp s.t i)
 inv:bW G w s.h
 df:sx G w a.defers
theorem nV.av{G:Gh}{w:aqU}{u:aqT}{c:fA}(h:nV G.S w u c):aH G w u c.av:=by
 cases h with
 |d h=>exact .d h
 |bk c off b o u J h2=>exact .bk [c] 0 off b o u c rfl J h2
 |fn f vs cs hl h=>exact .hid (.fn f vs cs hl h) rfl
 |ou f vs cs hl h=>exact .hid (.ou f vs cs hl h) rfl
theorem aH.kH{G:Gh}{w:aqU}{u:aqT}{x:AV}(h:aH G w u x)(hb:x.kH=true):u.oneCell'=true:=by
 cases h with
 |d hp=>cases hp with
  |v u=>exact hb
  |sl=>rfl
  |ag=>simp [AV.kH]at hb
 |agg=>simp [AV.kH]at hb
 |bj=>simp [AV.kH]at hb
 |own n xs _ hp=>cases hp;rfl
 |vec n o len L k _ hs=>obtain⟨A,l,c,rfl⟩:=hs;rfl
 |dB n i j L k _ hs=>obtain⟨b,q,rfl⟩:=hs;rfl
 |full xs hp=>cases hp;rfl
 |hid h J=>exact J
 |dead=>simp [AV.kH]at hb
 |_=>rfl
theorem aH.cells{G:Gh}{w:aqU}{u:aqT}{x:AV}(h:aH G w u x)(hb:x.jN=true):
 u.cells.size=x.cells.length/\∀(i:Nat)(v:aqT)(c:AV),u.cells[i]?=some v->x.cells[i]?=some c->aH G w v c/\v.oneCell'=true:=by
 have one:x.kH=true->x.cells=[x]->u.cells.size=x.cells.length/\∀(i:Nat)(v:aqT)(c:AV),u.cells[i]?=some v->x.cells[i]?=some c->aH G w v c/\v.oneCell'=true:=by
  intro hc hx;have ho:=h.kH hc;have hu:u.cells= #[u]:=by cases u<;>simp_all [Value.cells,Value.oneCell']
  rw[hu,hx];refine⟨rfl,λi v c J h2=> ?_⟩
  match i with
  |0=>simp at J h2;subst J;subst h2;exact⟨h,ho⟩
  |i+1=>simp at h2
 cases x with
 |agg cs=>
  cases h with
  |agg vs cs hl hr=>
   refine⟨hl,λi v c J h2=> ?_⟩;have hv:=hr i v c J h2;refine⟨hv,hv.kH ?_⟩;simp only[AV.jN,aqr]at hb;exact hb c (aqe h2)
 |bj cs=>simp [AV.jN,AV.kH]at hb
 |dead=>simp [AV.jN,AV.kH]at hb
 |_=>exact one hb rfl
theorem bW.lt{G:Gh}{w:aqU}{h:aqP aq}(hi:bW G w h){n:Nat}{B:aq}(hb:h[n]?=some B):n<G.N:=by
 rw[<-hi.len];exact(ap1.1 hb).1
theorem bW.ib{G:Gh}{w:aqU}{h:aqP aq}(hi:bW G w h){n b:Nat}(hb:bU h G n=some b):b<w.heap.size:=by
 obtain⟨B,hB,hb⟩:=nI hb;have hr:=hi.dc n B hB;cases B with
 |gone=>cases hb
 |cells cs=>
  obtain⟨_,_,vs,T,hh,_⟩:=hr;cases hb
  exact(aqg.1 hh).1
 |lp ls p as bd cs=>
  obtain⟨_,_,fn,vs,T,hh,_⟩:=hr;cases hb
  exact(aqg.1 hh).1
 |it sn cs=>
  obtain⟨_,_,fn,vs,T,hh,_⟩:=hr;cases hb
  exact(aqg.1 hh).1
 |e9 T0 cs=>
  obtain⟨_,_,fn,vs,T,hh,_⟩:=hr;cases hb
  exact(aqg.1 hh).1
 |map kv=>
  obtain⟨_,_,es,c,hh,_⟩:=hr;cases hb
  exact(aqg.1 hh).1
 |ja kv=>
  obtain⟨_,_,es,c,hh,_⟩:=hr;cases hb
  exact(aqg.1 hh).1
 |front e k len=>
  have hb:G.ow n=some b:=hb;obtain⟨_,_,J|⟨g,cap,cur,J,_,_,hh,_⟩⟩:=hr
  ·rw[J.1]at hb;cases hb
  ·rw[J]at hb;cases hb;exact(aqg.1 hh).1
 |iP e b2=>
  have hb:G.ow n=some b:=hb;obtain⟨_,_,J|⟨g,cap,cur,J,_,_,hh,_⟩⟩:=hr
  ·rw[J.1]at hb;cases hb
  ·rw[J]at hb;cases hb;exact(aqg.1 hh).1
 |vec e k cs=>
  have hb:G.ow n=some b:=hb;obtain⟨_,_,_,J|⟨g,cap,cur,J,_,_,hh,_⟩⟩:=hr
  ·rw[J.1]at hb;cases hb
  ·rw[J]at hb;cases hb;exact(aqg.1 hh).1
theorem eu.lH{G:Gh}{w:aqU}{n b:Nat}{B:aq}(hr:eu G w n B)(hb:B.ee G n=some b):¬G.Z b:=by
 cases B with
 |gone=>cases hb
 |cells cs=>cases hb;exact hr.1
 |lp ls p as bd cs=>cases hb;exact hr.1
 |it sn cs=>cases hb;exact hr.1
 |e9 T0 cs=>cases hb;exact hr.1
 |map kv=>cases hb;exact hr.1
 |ja kv=>cases hb;exact hr.1
 |front e k len=>
  have hb:G.ow n=some b:=hb;obtain⟨_,_,J|⟨g,cap,cur,J,_,hz,_⟩⟩:=hr
  ·rw[J.1]at hb;cases hb
  ·rw[J]at hb;cases hb;exact hz
 |iP e b2=>
  have hb:G.ow n=some b:=hb;obtain⟨_,_,J|⟨g,cap,cur,J,_,hz,_⟩⟩:=hr
  ·rw[J.1]at hb;cases hb
  ·rw[J]at hb;cases hb;exact hz
 |vec e k cs=>
  have hb:G.ow n=some b:=hb;obtain⟨_,_,_,J|⟨g,cap,cur,J,_,hz,_⟩⟩:=hr
  ·rw[J.1]at hb;cases hb
  ·rw[J]at hb;cases hb;exact hz
theorem ur.keep{S S':Nat->Nat->Prop}{w w':aqU}{es:Array MapEntry}{c:Nat}{kv:aqP (aqQ×D)}(h:ur S w es c kv)(hS:∀b o,S b o->S' b o)(hc:∀b o,S b o->w'.cell? ⟨b,o,none⟩=w.cell? ⟨b,o,none⟩):ur S' w' es c kv:=
 ⟨h.size,h.stamped,λe he=>let ⟨s,d,J,h2,h3⟩:=h.Ae e he;⟨s,d,J,h2,h3.keep hS hc⟩,h.all,h.len,h.born,h.Eh⟩
theorem xy.keep{S S':Nat->Nat->Prop}{w w':aqU}{es:Array MapEntry}{c:Nat}{kv:aqP (aqQ×D)}(h:xy S w es c kv)(hS:∀b o,S b o->S' b o)(hc:∀b o,S b o->w'.cell? ⟨b,o,none⟩=w.cell? ⟨b,o,none⟩):xy S' w' es c kv:=
 ⟨h.ok.keep hS hc,λi e he=>let ⟨p,J,h2,h3⟩:=h.ord i e he;⟨p,J,h2,h3.keep hS hc⟩,h.all⟩
theorem eu.keep{G G':Gh}{w w':aqU}{n:Nat}(hn:n<G.N)(hE:bV G.N G w G' w')(hN:G.N<=G'.N){B:aq}
 (hg:G'.fl n=G.fl n/\G'.sg n=G.sg n/\G'.ow n=G.ow n)
 (ho:∀b,B.ee G n=some b->w'.heap[b]?=w.heap[b]?/\∀o,¬G.S b o->¬G'.S b o)
 (h:eu G w n B):eu G' w' n B:=by
 obtain⟨f1,f2,f3⟩:=hg;cases B with
 |gone=>trivial
 |cells cs=>
  obtain⟨J,h2,vs,T,h3,h4,h5⟩:=h;obtain⟨c2,c1⟩:=ho _ rfl;refine⟨by rw[hE.aR n hn];exact hE.lH (aqg.1 h3).1 J,by rw[hE.aR n hn];exact λo=>c1 o (h2 o),vs,T,by rw[hE.aR n hn,c2];exact h3,h4,λi u c hu hc=>(h5 i u c hu hc).keep hE hN⟩
 |lp ls p as bd cs=>
  obtain⟨J,h2,fn,vs,T,h3,h4,h5⟩:=h;obtain⟨c2,c1⟩:=ho _ rfl;refine⟨by rw[hE.aR n hn];exact hE.lH (aqg.1 h3).1 J,by rw[hE.aR n hn];exact λo=>c1 o (h2 o),fn,vs,T,by rw[hE.aR n hn,c2];exact h3,h4,λi u c hu hc=>(h5 i u c hu hc).keep hE hN⟩
 |it sn cs=>
  obtain⟨J,h2,fn,vs,T,h3,h4,h5⟩:=h;obtain⟨c2,c1⟩:=ho _ rfl;refine⟨by rw[hE.aR n hn];exact hE.lH (aqg.1 h3).1 J,by rw[hE.aR n hn];exact λo=>c1 o (h2 o),fn,vs,T,by rw[hE.aR n hn,c2];exact h3,h4,λi u c hu hc=>(h5 i u c hu hc).keep hE hN⟩
 |e9 T0 cs=>
  obtain⟨J,h2,fn,vs,T,h3,h4,h5⟩:=h;obtain⟨c2,c1⟩:=ho _ rfl;refine⟨by rw[hE.aR n hn];exact hE.lH (aqg.1 h3).1 J,by rw[hE.aR n hn];exact λo=>c1 o (h2 o),fn,vs,T,by rw[hE.aR n hn,c2];exact h3,by rw[hE.aR n hn];exact h4,λi u c hu hc=>(h5 i u c hu hc).keep hE hN⟩
 |map kv=>
  obtain⟨J,h2,es,c,h3,h4⟩:=h;obtain⟨c2,c1⟩:=ho _ rfl;exact⟨by rw[hE.aR n hn];exact hE.lH (aqg.1 h3).1 J,by rw[hE.aR n hn];exact λo=>c1 o (h2 o),es,c,by rw[hE.aR n hn,c2];exact h3,h4.keep hE.S hE.cell⟩
 |ja kv=>
  obtain⟨J,h2,es,c,h3,h4⟩:=h;obtain⟨c2,c1⟩:=ho _ rfl;exact⟨by rw[hE.aR n hn];exact hE.lH (aqg.1 h3).1 J,by rw[hE.aR n hn];exact λo=>c1 o (h2 o),es,c,by rw[hE.aR n hn,c2];exact h3,h4.keep hE.S hE.cell⟩
 |iP e b=>
  obtain⟨J,hm,h2⟩:=h;refine⟨f1.trans J,hm,?_⟩;rcases h2 with⟨h2,h0,A,h3⟩|⟨g,cap,cur,h2,h3,h4,h5,h6,h7,h8,h9,bE⟩
  ·exact .inl ⟨f3.trans h2,h0,A,f2.trans h3⟩
  ·obtain⟨f5,f6⟩:=ho g h2;exact .inr ⟨g,cap,cur,f3.trans h2,f2.trans h3,hE.lH (aqg.1 h5).1 h4,f5.trans h5,h6,h7,h8,λo=>f6 o (h9 o),bE⟩
 |front e k len=>
  obtain⟨J,hm,h2⟩:=h;refine⟨f1.trans J,hm,?_⟩;rcases h2 with⟨h2,A,h3⟩|⟨g,cap,cur,h2,h3,h4,h5,h6,h7,h8,h9⟩
  ·exact .inl ⟨f3.trans h2,A,f2.trans h3⟩
  ·obtain⟨f5,f6⟩:=ho g h2;exact .inr ⟨g,cap,cur,f3.trans h2,f2.trans h3,hE.lH (aqg.1 h5).1 h4,f5.trans h5,h6,h7,h8,λo ho=>f6 o (h9 o ho)⟩
 |vec e k cs=>
  obtain⟨J,hm,hk,h2⟩:=h;refine⟨f1.trans J,hm,hk,?_⟩;rcases h2 with⟨h2,e2,A,h3⟩|⟨g,cap,cur,h2,h3,h4,h5,h6,h7,h8,h9,bE⟩
  ·exact .inl ⟨f3.trans h2,e2,A,f2.trans h3⟩
  ·obtain⟨f5,f6⟩:=ho g h2;exact .inr ⟨g,cap,cur,f3.trans h2,f2.trans h3,hE.lH (aqg.1 h5).1 h4,f5.trans h5,h6,h7,h8,λo=>f6 o (h9 o),λi j c x u hc hx hu=>(bE i j c x u hc hx hu).keep hE hN⟩
theorem cY.put{G:Gh}{w:aqU}{a:Act}{s:St}(h:cY G w a s){v:aqT}{x:AV}(hv:aH G w v x)(dst:aqR Nat):cY G w (a.put dst v) (s.put dst x):=by
 cases dst with
 |none=>exact h
 |some d=>
  by_cases hd:d<s.n
  ·have e1:s.put (some d) x={s with t:=(d,x)::s.t}:=qT hd x;rw[e1];refine⟨by simp [Act.put,h.size],λi=> ?_,h.inv,h.df⟩;by_cases hi:i=d
   ·subst hi;have:(a.tmps.setIfInBounds i v).getD i undef=v:=by simp [Array.getD,h.size,hd]
    simp only[Act.put,this,lI,if_true];exact hv
   ·have:(a.tmps.setIfInBounds d v).getD i undef=a.tmps.getD i undef:=by simp [Array.getElem?_setIfInBounds_ne (Ne.symm hi)]
    simp only[Act.put,this,lI,if_neg hi];exact h.tmp i
  ·have e1:s.put (some d) x=s:=Hb hd x;have e2:a.put (some d) v=a:=by
    have:a.tmps.setIfInBounds d v=a.tmps:=Array.setIfInBounds_eq_of_size_le (by rw[h.size];omega);simp [Act.put,this]
   rw[e1,e2];exact h
theorem cY.move{G G':Gh}{w w':aqU}{a:Act}{s:St}(h:cY G w a s)(hE:bV G.N G w G' w')(hN:G.N<=G'.N){h':aqP aq}(hi:bW G' w' h'):cY G' w' a {s with h:=h'}:=
 ⟨h.size,λi=>(h.tmp i).keep hE hN,hi,h.df.keep hE⟩
theorem cY.ev{G:Gh}{w:aqU}{a:Act}{s:St}(h:cY G w a s)(x:Operand):aH G w (a.eval x) (ev s x):=by
 cases x with
 |tmp t=>exact h.tmp t
 |const v=>
  show aH G w v (Rt v);unfold Rt;split
  ·rename_i vs
   exact .agg vs _ (by simp) λi u c hu hc=>by
    simp only[ap8,aqo,hu,Option.map_some,Option.some.injEq]at hc;subst hc;exact .d (.v u)
  ·rename_i vs
   exact .bj vs _ (by simp) λi u c hu hc=>by
    simp only[ap8,aqo,hu,Option.map_some,Option.some.injEq]at hc;subst hc;exact .d (.v u)
  ·exact .d (.v v)
 |global g=>
  show aH G w (.pointer (some ⟨g,0,none⟩)) (match zT Bf g with|some l=> .bk [l.map .v] 0 0|none=> .dead);split
  ·next l hl=>
   have hg:=h.inv.gl.1 g l (V7 hl);have:=aH.bk (G:=G) (w:=w) [l.map .v] 0 0 g 0 (λj=>l.getD j undef) (l.map .v) rfl (λj hj=> ?_) (λj d hd=> ?_)
   ·exact this
   ·rw[ap6]at hj;have e:l[j]?=some l[j]:=ap5 hj;rw[aql];refine⟨(hg j _ e).1,?_⟩;rw[(hg j _ e).2];simp [hj]
   ·rw[ap8]at hd;cases e:l[j]? with
    |none=>rw[e]at hd;cases hd
    |some v=>
     rw[e]at hd;cases hd
     have:l.getD j undef=v:=by simp [List.getD,e]
     rw[this];exact .v v
  ·exact .dead _
 |func f=>exact .fn f #[] [] rfl λi u c hu=>by simp at hu
def Gh.c7(G:Gh)(b:Nat):Gh:={G with N:=G.N+1,aR:=λn=>if n=G.N then b else G.aR n}
theorem tP(G:Gh)(w:aqU)(hz:∀b,G.Z b->b<w.heap.size)(hS:∀b o,G.S b o->b<w.heap.size)(o:Obj):bV G.N G w (G.c7 w.heap.size) (w.alloc o):=
 ⟨by simp,λ_ _ h=>h,λb _ h=>World.cell?_alloc_lt _ _ _ (hS _ _ h),λn hn=>by simp [Gh.c7,Nat.ne_of_lt hn],λ_ _=> .inl ⟨rfl,rfl⟩,im rfl,
  λb hb=>Below.heap_alloc w o b (hz b hb),rfl,rfl,rfl,λ_ _ h=> .inl h⟩
theorem ZX{G:Gh}{w:aqU}{h:aqP aq}(hi:bW G w h)(vs:Array aqT)(T:TypeId)(cs:aqP AV)(hl:vs.size=cs.length)
 (hr:∀(i:Nat)(u:aqT)(c:AV),vs[i]?=some u->cs[i]?=some c->aH G w u c):
 bW (G.c7 w.heap.size) (w.alloc (.cells vs T)) (h++[.cells cs])/\aH (G.c7 w.heap.size) (w.alloc (.cells vs T)) (.pointer (some ⟨w.heap.size,0,none⟩)) (.ptr h.length 0):=by
 have hE:=tP G w hi.z hi.S (.cells vs T);have hN:G.N<=(G.c7 w.heap.size).N:=Nat.le_succ _;have gy:(G.c7 w.heap.size).aR h.length=w.heap.size:=by simp [Gh.c7,hi.len]
 have lG:∀n(B:aq),n<G.N->B.ee (G.c7 w.heap.size) n=B.ee G n:=λn B hn=>by
  cases B<;>simp [aq.ee,Gh.c7,Nat.ne_of_lt hn]
 have fD:∀n,n<G.N->bU (h++[.cells cs]) (G.c7 w.heap.size) n=bU h G n:=λn hn=>by
  have aN:n<h.length:=by rw[hi.len];exact hn
  unfold bU;rw[aqb aN,ap5 aN];exact lG n _ hn
 have tt:bU (h++[.cells cs]) (G.c7 w.heap.size) h.length=some w.heap.size:=by
  rw[dJ (B:= .cells cs) (by simp)];exact congrArg some gy
 refine⟨⟨by simp [Gh.c7,hi.len],λb hb=>aqp (hi.z b hb) hE.size,λb o hs=>aqp (hi.S b o hs) hE.size,λn B hB=> ?_,λm n b hm hn=> ?_,hi.gl.keep hE⟩,?_⟩
 ·by_cases hn:n<h.length
  ·rw[aqb hn]at hB;have eX:n<G.N:=hi.len▸hn;exact eu.keep eX hE hN ⟨rfl,rfl,rfl⟩ (λb hb=>⟨Below.heap_alloc w _ _ (hi.ib (n:=n) ((dJ hB).trans hb)),λo h=>h⟩) (hi.dc n B hB)
  ·have kM:n=h.length:=by
    have:=(ap1.1 hB).1;simp at this;omega
   subst kM;simp at hB;subst hB;exact⟨by rw[gy];exact λhz=>aqF _ (hi.z _ hz),λo hs=>by rw[gy]at hs;exact aqF _ (hi.S _ _ hs),vs,T,by rw[gy];exact World.alloc_heap_new w _,hl,λi u c hu hc=>(hr i u c hu hc).keep hE hN⟩
 ·have key:∀n b,bU (h++[.cells cs]) (G.c7 w.heap.size) n=some b->(n<G.N/\bU h G n=some b)\/(n=h.length/\b=w.heap.size):=λn b hn=>by
   by_cases aN:n<G.N
   ·exact .inl ⟨aN,by rw[<-fD n aN];exact hn⟩
   ·by_cases e:n=h.length
    ·subst e;rw[tt]at hn;cases hn;exact .inr ⟨rfl,rfl⟩
    ·rw[vw (aqx (by simp;have:=hi.len;omega))]at hn;cases hn
  rcases key m b hm with⟨_,gu⟩|⟨rfl,rfl⟩<;>rcases key n _ hn with⟨_,eX⟩|⟨rfl,hb⟩
  ·exact hi.inj m n b gu eX
  ·have:=hi.ib gu;omega
  ·have:=hi.ib eX;omega
  ·rfl
 ·have:=aH.ptr (G:=G.c7 w.heap.size) (w:=w.alloc (.cells vs T)) h.length 0 (by simp [Gh.c7,hi.len])
  rwa [gy]at this
theorem Nn(w:aqU)(g:Nat)(cs:Array aqT):(w.setRow g cs).heap.size=w.heap.size:=by simp [World.setRow]
theorem aid(w:aqU)(g:Nat)(cs:Array aqT)(b o:Nat)(h:b≠g):(w.setRow g cs).cell? ⟨b,o,none⟩=w.cell? ⟨b,o,none⟩:=World.cell?_of_block (setRow_other w g b cs h)
theorem aiF{G:Gh}{w:aqU}{g:Nat}(cs:Array aqT)(hg:¬G.Z g)(hS:∀b o,G.S b o->(w.setRow g cs).cell? ⟨b,o,none⟩=w.cell? ⟨b,o,none⟩):bV G.N G w G (w.setRow g cs):=
 ⟨by rw[Nn];exact aqc _,λ_ _ h=>h,hS,λ_ _=>rfl,λ_ _=> .inl ⟨rfl,rfl⟩,im rfl,λb hb=>setRow_other w g b cs (λe=>hg (e▸hb)),rfl,rfl,rfl,λ_ _ h=> .inl h⟩
theorem DU(cs ys:aqP AV)(off:Nat)(h:off+ys.length<=cs.length):(ji cs off ys).length=cs.length:=by
 simp [ji];omega
theorem aj1{R:aqT->AV->Prop}(vs us:Array aqT)(cs ys:aqP AV)(off:Nat)(hl:vs.size=cs.length)(hu:us.size=ys.length)(hb:off+ys.length<=cs.length)
 (hr:∀(i:Nat)(u:aqT)(c:AV),vs[i]?=some u->cs[i]?=some c->R u c) (qo:∀(i:Nat)(u:aqT)(c:AV),us[i]?=some u->ys[i]?=some c->R u c):
 ∀(i:Nat)(u:aqT)(c:AV),(vs.toList.take off++us.toList++vs.toList.drop (off+us.toList.length)).toArray[i]?=some u->(ji cs off ys)[i]?=some c->R u c:=by
 intro i u c J h2;have pk:us.toList.length=ys.length:=by rw[aqy,hu]
 rw[pk]at J;rw[List.getElem?_toArray]at J;unfold ji at h2;simp only[aqi]at J h2;have yG:vs.toList.length=cs.length:=by rw[aqy,hl]
 by_cases h:i<off
 ·rw[aqb (by simp;omega),List.getElem?_take_of_lt h]at J;rw[aqb (by simp;omega),List.getElem?_take_of_lt h]at h2;exact hr i u c (by rw[<-aqo];exact J) h2
 ·rw[aqh (by simp;omega)]at J h2;simp only[List.length_take,yG]at J h2;rw[Nat.min_eq_left (by omega)]at J h2;by_cases h':i-off<ys.length
  ·rw[aqb (by rw[pk];exact h')]at J;rw[aqb h']at h2;exact qo (i-off) u c (by rw[<-aqo];exact J) h2
  ·rw[aqh (by rw[pk];omega),List.getElem?_drop]at J;rw[aqh (by omega),List.getElem?_drop]at h2;rw[pk]at J;rw[show off+ys.length+(i-off-ys.length)=i by omega]at J h2;exact hr i u c (by rw[<-aqo];exact J) h2
theorem aiY{P:aqS}{G:Gh}{w:aqU}{h:aqP aq}(hi:bW G w h){n off:Nat}{cs:aqP AV}(hn:h[n]?=some (.cells cs)){t:TypeId}{v:aqT}{x:AV}
 (hv:aH G w v x) (hb:x.jN=true) (ht:gx P t=some x.cells.length) (ho:off+x.cells.length<=cs.length):
 ∃w',(storeVar t ⟨G.aR n,off,none⟩ v).run P w= .ok () w'/\bV G.N G w G w'/\bW G w' (h.set n (.cells (ji cs off x.cells))):=by
 obtain⟨hz,hS,vs,T,hh,hl,hr⟩:=hi.dc n _ hn;obtain⟨Au,Sz⟩:=hv.cells hb;obtain⟨i,jD,jQ⟩:∃i,P.info? t=some i/\i.size=x.cells.length:=by
  unfold gx at ht;cases hq:P.info? t with
  |none=>rw[hq]at ht;cases ht
  |some i=>rw[hq]at ht;exact⟨i,rfl,by simpa using ht⟩
 have lT:=run_storeCells_at P (G.aR n) off T v.cells.toList 0 vs w hh (by rw[aqy,Au,hl];simpa using ho) (λu hu=>by
  obtain⟨j,hj⟩:=List.mem_iff_getElem?.1 hu;have iM:v.cells[j]?=some u:=by rw[<-aqo];exact hj
  have zl:j<x.cells.length:=by rw[<-Au];exact(aqg.1 iM).1
  exact(Sz j u _ iM (ap5 zl)).2)
 simp only[Nat.add_zero]at lT;obtain⟨w',fe⟩:∃w',w'=w.setRow (G.aR n) (vs.toList.take off++v.cells.toList++vs.toList.drop (off+v.cells.toList.length)).toArray:=⟨_,rfl⟩;rw[<-fe]at lT;have hE:bV G.N G w G w':=by
  rw[fe];exact aiF _ hz λb o hs=>aid w _ _ b o (λe=>hS o (e▸hs))
 have fp:∀m,m≠n->(h.set n (.cells (ji cs off x.cells)))[m]?=h[m]?:=λm hm=>by rw[aqz (Ne.symm hm)]
 have m6:(h.set n (.cells (ji cs off x.cells)))[n]?=some (.cells (ji cs off x.cells)):=by
  rw[aqu (ap1.1 hn).1]
 have eJ:∀m,bU (h.set n (.cells (ji cs off x.cells))) G m=bU h G m:=λm=>by
  by_cases e:m=n
  ·subst e;rw[dJ m6,dJ hn];rfl
  ·unfold bU;rw[fp m e]
 have mf:bU h G n=some (G.aR n):=dJ hn;refine⟨w',?_,hE,⟨by rw[List.length_set];exact hi.len,λb hb=>aqp (hi.z b hb) hE.size,λb o hs=>aqp (hi.S b o hs) hE.size,λm B hB=> ?_,λm m' b J h2=>hi.inj m m' b (by rw[<-eJ];exact J) (by rw[<-eJ];exact h2),hi.gl.keep hE⟩⟩
 ·unfold storeVar;simp only[sizeOf,typeInfo,Sem.run_bind,Au];simp [jD,jQ,lT]
 ·by_cases e:m=n
  ·subst e;rw[m6]at hB;cases hB
   refine⟨hz,hS,_,T,by rw[fe];exact setRow_heap w _ vs _ T _ hh,?_,λi u c hu hc=> ?_⟩
   ·rw[DU _ _ _ ho];have:v.cells.toList.length=x.cells.length:=by rw[aqy];exact Au
    simp only[List.size_toArray,ap2,List.length_take,List.length_drop,aqy,hl,Au];omega
   ·exact(aj1 (R:=aH G w) vs v.cells cs x.cells off hl Au ho hr (λi u c J h2=>(Sz i u c J h2).1) i u c hu hc).keep hE (aqc _)
  ·rw[fp m e]at hB;have cG:∀b,bU h G m=some b->b≠G.aR n:=λb hb eb=>e (hi.inj m n b hb (by rw[eb];exact mf));refine eu.keep (hi.lt hB) hE (aqc _) ⟨rfl,rfl,rfl⟩ (λb hb=>⟨?_,λo h=>h⟩) (hi.dc m B hB);rw[fe];exact setRow_other w _ _ _ (cG _ ((dJ hB).trans hb))
theorem dw.qt{S:Nat->Nat->Prop}{w:aqU}{v:aqT}{xs:aqP (aqP D)}(h:dw S w v (.sl xs)):
 ∃(A:aqR Addr)(b o c k:Nat)(u:Nat->Nat->aqT),v= .slice A xs.length c/\(xs≠ []->A=some ⟨b,o,none⟩)/\xs.length<=c/\c<=maxLen/\(∀x∈xs,x.length=k)/\
  (∀i j,i<xs.length->j<k->S b (o+i*k+j)/\w.cell? ⟨b,o+i*k+j,none⟩=some (u i j)/\(u i j).oneCell'=true)/\
  (∀(i j:Nat)(x:aqP D)(d:D),xs[i]?=some x->x[j]?=some d->dw S w (u i j) d):=by
 cases h with
 |sl A b o c k xs u hA hc hm hk hS hu=>exact⟨A,b,o,c,k,u,rfl,hA,hc,hm,hk,hS,hu⟩
structure Rd(S:Nat->Nat->Prop)(w:World)(k:Nat)(xs:List (List D))(us:List Value):Prop where
 len:us.length=xs.length*k
 wid:∀x∈xs,x.length=k
 one:∀u∈us,u.oneCell'=true
 rel:∀(i j:Nat)(x:List D)(d:D),xs[i]?=some x->x[j]?=some d->∃u,us[i*k+j]?=some u/\dw S w u d
theorem Rd.keep{S S':Nat->Nat->Prop}{w w':aqU}{k:Nat}{xs:aqP (aqP D)}{us:aqP aqT}(h:Rd S w k xs us)(hS:∀b o,S b o->S' b o)(hc:∀b o,S b o->w'.cell? ⟨b,o,none⟩=w.cell? ⟨b,o,none⟩):Rd S' w' k xs us:=
 ⟨h.len,h.wid,h.one,λi j x d hx hd=>let ⟨u,J,h2⟩:=h.rel i j x d hx hd;⟨u,J,h2.keep hS hc⟩⟩
theorem Rd.append{S:Nat->Nat->Prop}{w:aqU}{k:Nat}{xs ys:aqP (aqP D)}{us vs:aqP aqT}(h:Rd S w k xs us)(h':Rd S w k ys vs):Rd S w k (xs++ys) (us++vs):=by
 refine⟨by rw[ap2,ap2,h.len,h'.len,Nat.add_mul],λx hx=> ?_,λu hu=> ?_,λi j x d hx hd=> ?_⟩
 ·rcases aqD.1 hx with hx|hx
  ·exact h.wid x hx
  ·exact h'.wid x hx
 ·rcases aqD.1 hu with hu|hu
  ·exact h.one u hu
  ·exact h'.one u hu
 ·by_cases hi:i<xs.length
  ·rw[aqb hi]at hx;obtain⟨u,J,h2⟩:=h.rel i j x d hx hd;exact⟨u,by rw[aqb (ap1.1 J).1];exact J,h2⟩
  ·rw[aqh (by omega)]at hx;obtain⟨u,J,h2⟩:=h'.rel (i-xs.length) j x d hx hd;refine⟨u,?_,h2⟩;have e:i*k+j=xs.length*k+((i-xs.length)*k+j):=by rw[Nat.sub_mul];have:=Nat.mul_le_mul_right k (Nat.le_of_not_lt hi);omega
   rw[e,aqh (by rw[h.len];omega),h.len,Nat.add_sub_cancel_left];exact J
theorem Rd.Ft{S:Nat->Nat->Prop}{w:aqU}{k:Nat}{xs:aqP (aqP D)}{us:aqP aqT}(h:Rd S w k xs us)(b c:Nat)(hc:xs.length<=c)(hm:c<=maxLen)
 (hS:∀o,o<xs.length*k->S b o) (iu:∀(o:Nat)(u:aqT),us[o]?=some u->w.cell? ⟨b,o,none⟩=some u):dw S w (.slice (some ⟨b,0,none⟩) xs.length c) (.sl xs):=by
 refine .sl _ b 0 c k xs (λi j=>us.getD (i*k+j) undef) (λ_=>rfl) hc hm h.wid (λi j hi hj=> ?_) (λi j x d hx hd=> ?_)
 ·have aN:i*k+j<xs.length*k:=by
   have:(i+1)*k<=xs.length*k:=Nat.mul_le_mul_right k hi;rw[Nat.add_mul]at this;omega
  have hg:us[i*k+j]?=some (us[i*k+j]'(by rw[h.len];exact aN)):=ap5 (by rw[h.len];exact aN);rw[aql];refine⟨hS _ aN,?_,?_⟩
  ·rw[iu _ _ hg];simp [hg]
  ·simp only[List.getD_eq_getElem?_getD,hg,Option.getD_some];exact h.one _ (List.getElem_mem _)
 ·obtain⟨u,J,h2⟩:=h.rel i j x d hx hd;simp only[List.getD_eq_getElem?_getD,J,Option.getD_some];exact h2
theorem dw.rd{S:Nat->Nat->Prop}{w:aqU}{v:aqT}{xs:aqP (aqP D)}{k:Nat}(h:dw S w v (.sl xs))(gP:0<k)(hk:∀x∈xs,x.length=k):
 ∃us,Rd S w k xs us/\∃A c,v= .slice A xs.length c/\xs.length<=c/\c<=maxLen/\(xs≠ []->∃b o,A=some ⟨b,o,none⟩/\∀(j:Nat)(u:aqT),us[j]?=some u->S b (o+j)/\w.cell? ⟨b,o+j,none⟩=some u):=by
 obtain⟨A,b,o,c,k',u,rfl,hA,hc,hm,hJ,hS,hu⟩:=h.qt;by_cases hx:xs=[]
 ·subst hx;exact⟨[],⟨by simp,(λ_ h=>by cases h),(λ_ h=>by cases h),λi j x d hx=>by simp at hx⟩,A,c,rfl,hc,hm,λh=>absurd rfl h⟩
 ·have ek:k'=k:=by
   obtain⟨x,nx⟩:=List.exists_mem_of_ne_nil xs hx;rw[<-hJ x nx,hk x nx]
  subst ek;refine⟨(List.range (xs.length*k')).map λt=>u (t / k') (t%k'),⟨by simp,hk,λv hv=> ?_,λi j x d hx hd=> ?_⟩,A,c,rfl,hc,hm,λcG=>⟨b,o,hA cG,λj v hv=> ?_⟩⟩
  ·obtain⟨t,ht,rfl⟩:=List.mem_map.1 hv;have rW:=List.mem_range.1 ht;exact(hS (t / k') (t%k') (Nat.div_lt_of_lt_mul (by rw[Nat.mul_comm];exact rW)) (Nat.mod_lt _ gP)).2.2
  ·have hj:j<k':=by rw[<-hk x (aqe hx)];exact(ap1.1 hd).1
   have hi:i<xs.length:=(ap1.1 hx).1;refine⟨u i j,?_,hu i j x d hx hd⟩;have aN:i*k'+j<xs.length*k':=by
    have:(i+1)*k'<=xs.length*k':=Nat.mul_le_mul_right k' hi;rw[Nat.add_mul]at this;omega
   rw[ap8,List.getElem?_range aN];simp only[Option.map_some,Option.some.injEq];rw[show(i*k'+j)/ k'=i by rw[Nat.add_comm,Nat.add_mul_div_right _ _ gP,Nat.div_eq_of_lt hj,aql],show(i*k'+j)%k'=j by rw[Nat.add_comm,Nat.add_mul_mod_self_right,Nat.mod_eq_of_lt hj]]
  ·rw[ap8]at hv;by_cases hj:j<xs.length*k'
   ·rw[List.getElem?_range hj]at hv;simp only[Option.map_some,Option.some.injEq]at hv;subst hv;have:=hS (j / k') (j%k') (Nat.div_lt_of_lt_mul (by rw[Nat.mul_comm];exact hj)) (Nat.mod_lt _ gP);have e:o+j / k'*k'+j%k'=o+j:=by have:=Nat.div_add_mod j k';rw[Nat.mul_comm]at this;omega
    rw[e]at this;exact⟨this.1,this.2.1⟩
   ·rw[aqx (by simp;omega)]at hv;cases hv
theorem dw.src{P:aqS}{S:Nat->Nat->Prop}{w:aqU}{v:aqT}{xs:aqP (aqP D)}{k:Nat}(h:dw S w v (.sl xs))(gP:0<k)(hk:∀x∈xs,x.length=k){tx e':TypeId}(ht:P.underlying tx=some (.slice e')):
 ∃us,Rd S w k xs us/\Src P k tx v xs.length us w:=by
 obtain⟨us,hr,A,c,rfl,_,_,hA⟩:=h.rd gP hk;refine⟨us,hr,?_⟩;by_cases hx:xs=[]
 ·subst hx;have mR:us=[]:=List.eq_nil_of_length_eq_zero (by rw[hr.len];simp);subst mR;cases A with
  |none=>exact Src.ofNil w ht c
  |some a=>exact Src.ofSlice w ht a 0 c [] (by simp) (λj u hu=>by simp at hu) (λu hu=>by cases hu)
 ·obtain⟨b,o,rfl,hc⟩:=hA hx;exact Src.ofSlice w ht _ _ c us hr.len (λj u hu=>by rw[mm];exact(hc j u hu).2) hr.one
def Gh.iC(G:Gh)(v:aqT)(len:Nat):Gh:=
 {G with N:=G.N+1,sg:=λn=>if n=G.N then v else G.sg n,fl:=λn=>if n=G.N then len else G.fl n,ow:=λn=>if n=G.N then none else G.ow n}
theorem Oi{G:Gh}{w:aqU}{h:aqP aq}(hi:bW G w h){v:aqT}{xs:aqP (aqP D)}(hv:dw G.S w v (.sl xs))(hf:∃A,v= .slice A xs.length xs.length)(e:TypeId)(k:Nat):
 bV G.N G w (G.iC v xs.length) w/\G.N<=(G.iC v xs.length).N/\bW (G.iC v xs.length) w (h++[.front e k xs.length])/\aH (G.iC v xs.length) w v (.own h.length xs):=by
 have cG:∀n,n<G.N->n≠G.N:=λn hn=>Nat.ne_of_lt hn;have hE:bV G.N G w (G.iC v xs.length) w:=⟨aqc _,λ_ _ h=>h,λ_ _ _=>rfl,λ_ _=>rfl,λn hn=> .inl ⟨by simp [Gh.iC,cG n hn],by simp [Gh.iC,cG n hn]⟩,im rfl,λ_ _=>rfl,rfl,rfl,rfl,λ_ _ h=> .inl h⟩;have hN:G.N<=(G.iC v xs.length).N:=Nat.le_succ _;have Wj:xs.length<=maxLen:=by
  obtain⟨A,b,o,c,k',u,_,_,J,h2,_⟩:=hv.qt;exact aqj J h2
 have lG:∀n(B:aq),n<G.N->B.ee (G.iC v xs.length) n=B.ee G n:=λn B hn=>by
  cases B<;>simp [aq.ee,Gh.iC,Nat.ne_of_lt hn]
 have hold:∀n b,bU (h++[.front e k xs.length]) (G.iC v xs.length) n=some b->bU h G n=some b:=λn b hb=>by
  by_cases hn:n<h.length
  ·unfold bU at hb ⊢;rw[aqb hn,ap5 hn]at hb;rw[ap5 hn];rw[<-hb];exact(lG n _ (hi.len▸hn)).symm
  ·by_cases en:n=h.length
   ·subst en;rw[dJ (B:= .front e k xs.length) (by simp)]at hb;simp [aq.ee,Gh.iC,hi.len]at hb
   ·rw[vw (aqx (by simp;omega))]at hb;cases hb
 refine⟨hE,hN,⟨by simp [Gh.iC,hi.len],hi.z,hi.S,λn B hB=> ?_,λm n b hm hn=>hi.inj m n b (hold m b hm) (hold n b hn),hi.gl.keep hE⟩,?_⟩
 ·by_cases hn:n<h.length
  ·rw[aqb hn]at hB;have eX:n<G.N:=hi.len▸hn;exact eu.keep eX hE hN ⟨by simp [Gh.iC,cG n eX],by simp [Gh.iC,cG n eX],by simp [Gh.iC,cG n eX]⟩ (λb hb=>⟨rfl,λo h=>h⟩) (hi.dc n B hB)
  ·have kM:n=h.length:=by
    have:=(ap1.1 hB).1;simp at this;omega
   subst kM;simp at hB;subst hB;obtain⟨A,hA⟩:=hf;exact⟨by simp [Gh.iC,hi.len],Wj, .inl ⟨by simp [Gh.iC,hi.len],A,by simp [Gh.iC,hi.len,hA]⟩⟩
 ·exact .own h.length xs (by simp [Gh.iC,hi.len]) hv (by simp [Gh.iC,hi.len]) (λ_=>by simp [Gh.iC,hi.len])
theorem Rk{P:aqS}{e k b:Nat}(hk:gx P e=some k)(hb:rN P e=some b):∃i,P.info? e=some i/\i.size=k/\i.bytes=b:=by
 unfold gx at hk;unfold rN at hb;cases hq:P.info? e with
 |none=>rw[hq]at hk;cases hk
 |some i=>rw[hq]at hk hb;exact⟨i,rfl,by simpa using hk,by simpa using hb⟩
def Gh.grow(G:Gh)(n:Nat)(S:Nat->Nat->Prop)(v:aqT)(len:Nat)(ow:aqR Nat):Gh:=
 {G with S:=S,sg:=λm=>if m=n then v else G.sg m,fl:=λm=>if m=n then len else G.fl m,ow:=λm=>if m=n then ow else G.ow m}
theorem Y4{G:Gh}{w w':aqU}{h:aqP aq}(hi:bW G w h){n e k len hX:Nat}(hn:h[n]?=some (.front e k len))(S:Nat->Nat->Prop)(v:aqT)(g:Nat)
 (hE:bV G.N G w (G.grow n S v hX (some g)) w') (hg:g=w.heap.size\/G.ow n=some g) (hgw:g<w'.heap.size)
 (hS:∀b o,S b o->G.S b o\/b=g) (jt:∀b,b<w.heap.size->b≠g->w'.heap[b]?=w.heap[b]?)
 (hB:eu (G.grow n S v hX (some g)) w' n (.front e k hX)):bW (G.grow n S v hX (some g)) w' (h.set n (.front e k hX)):=by
 have fp:∀m,m≠n->(h.set n (.front e k hX))[m]?=h[m]?:=λm hm=>by rw[aqz (Ne.symm hm)]
 have m6:(h.set n (.front e k hX))[n]?=some (.front e k hX):=by rw[aqu (ap1.1 hn).1]
 have lG:∀m(B:aq),m≠n->B.ee (G.grow n S v hX (some g)) m=B.ee G m:=λm B hm=>by
  cases B<;>simp [aq.ee,Gh.grow,hm]
 have eJ:∀m,m≠n->bU (h.set n (.front e k hX)) (G.grow n S v hX (some g)) m=bU h G m:=λm hm=>by
  unfold bU;rw[fp m hm];cases h[m]? with
  |none=>rfl
  |some B=>exact lG m B hm
 have xX:∀m,m≠n->bU h G m≠some g:=λm hm hb=>by
  rcases hg with hg|hg
  ·have:=hi.ib hb;omega
  ·exact hm (hi.inj m n g hb ((dJ hn).trans hg))
 refine⟨by rw[List.length_set];exact hi.len,λb hb=>aqp (hi.z b hb) hE.size,λb o hs=> ?_,λm B hm=> ?_,λm m' b J h2=> ?_,hi.gl.keep hE⟩
 ·rcases hS b o hs with hs|hs
  ·exact aqp (hi.S b o hs) hE.size
  ·rw[hs];exact hgw
 ·by_cases em:m=n
  ·subst em;rw[m6]at hm;cases hm;exact hB
  ·rw[fp m em]at hm;refine eu.keep (hi.lt hm) hE (aqc _) ⟨by simp [Gh.grow,em],by simp [Gh.grow,em],by simp [Gh.grow,em]⟩ (λb hb=> ?_) (hi.dc m B hm);have hr:bU h G m=some b:=(dJ hm).trans hb;have cG:b≠g:=λe'=>xX m em (by rw[hr,e']);refine⟨jt _ (hi.ib hr) cG,λo jX hs=> ?_⟩;rcases hS _ o hs with hs|hs
   ·exact jX hs
   ·exact cG hs
 ·by_cases e1:m=n<;>by_cases e2:m'=n
  ·rw[e1,e2]
  ·subst e1;rw[eJ m' e2]at h2;have:bU (h.set m (.front e k hX)) (G.grow m S v hX (some g)) m=some g:=by rw[dJ m6];simp [aq.ee,Gh.grow]
   rw[this]at J;cases J;exact absurd h2 (xX m' e2)
  ·subst e2;rw[eJ m e1]at J;have:bU (h.set m' (.front e k hX)) (G.grow m' S v hX (some g)) m'=some g:=by rw[dJ m6];simp [aq.ee,Gh.grow]
   rw[this]at h2;cases h2;exact absurd J (xX m e1)
  ·rw[eJ m e1]at J;rw[eJ m' e2]at h2;exact hi.inj m m' b J h2
set_option maxHeartbeats 1000000 in
theorem aaU{P:aqS}{G:Gh}{w:aqU}{h:aqP aq}(hi:bW G w h){T tx ty e k c6:Nat}{i:TypeInfo}{z:aqT}(hT:P.underlying T=some (.slice e))(lP:P.info? e=some i)(hz:i.zero=some z)(oD:i.size=k)(yI:i.bytes=c6)(kE:z.cells.size=k)
 (gP:0<k) {n:Nat} {xs ys:aqP (aqP D)} (hn:h[n]?=some (.front e k xs.length)) {u v:aqT} (hu:aH G w u (.own n xs)) (nS:∀x∈xs,x.length=k)
 {us:aqP aqT} (hr:Rd G.S w k ys us) (hs:Src P k tx v ys.length us w) (wO:xs.length+ys.length<=maxLen) (qQ:(xs.length+ys.length)*c6<=140737488355328):
 ∃r w' G',(Builtin.append_ #[T,tx] ty #[u,v]).run P w= .ok r w'/\bV G.N G w G' w'/\G.N<=G'.N/\bW G' w' (h.set n (.front e k (xs.length+ys.length)))/\aH G' w' r (.own n (xs++ys)):=by
 subst oD;subst yI;have oS:=hi.lt hn;obtain⟨m5,Wj,hbr⟩:=hi.dc n _ hn;obtain⟨hp,Wu⟩:dw G.S w u (.sl xs)/\u=G.sg n:=by
  cases hu with
  |own _ _ _ hp hle hf=>exact⟨hp,hf m5.symm⟩
 obtain⟨olds,Bp,A,c,Ao,lC,yk,hA⟩:=hp.rd gP nS;have Oh:h.set n (.front e i.size (xs.length+0))=h:=by
  rw[Nat.add_zero];refine List.ext_getElem? λm=> ?_;by_cases em:m=n
  ·subst em;rw[aqu (ap1.1 hn).1,hn]
  ·rw[aqz (Ne.symm em)]
 by_cases hy:ys.length=0
 ·have jW:ys=[]:=List.eq_nil_of_length_eq_zero hy;subst jW;have mR:us=[]:=List.eq_nil_of_length_eq_zero (by rw[hr.len];simp);subst mR;have:=run_append_nothing (P:=P) w T tx ty e i hT lP A xs.length c lC v hs;refine⟨u,w,G,by rw[Ao];exact this,bV.refl _ _ _,aqc _,?_,by rw[aqm];exact hu⟩;simp only[aqd];rw[Oh];exact hi
 ·have Zm:0<ys.length:=Nat.pos_of_ne_zero hy;have RF:xs.length+ys.length<=9223372036854775807:=by simp only[maxLen]at wO;omega
  have Ss:Rd G.S w i.size (xs++ys) (olds++us):=Bp.append hr;have grow:c<xs.length+ys.length->∃r w' G',(Builtin.append_ #[T,tx] ty #[u,v]).run P w= .ok r w'/\bV G.N G w G' w'/\G.N<=G'.N/\bW G' w' (h.set n (.front e i.size (xs.length+ys.length)))/\aH G' w' r (.own n (xs++ys)):=by
   intro hg;have hold:(Builtin.firstCells i.size xs.length (.slice A xs.length c)).run P w.drew= .ok olds.toArray w.drew:=by
    by_cases hx:xs=[]
    ·subst hx;have:olds=[]:=List.eq_nil_of_length_eq_zero (by rw[Bp.len];simp);subst this;cases A with
     |none=>exact run_firstCells_none _ _ _ _ _
     |some a=>exact run_firstCells_some _ _ _ _ _ _ [] (by simp) (λj u hu=>by simp at hu)
    ·obtain⟨b,o,rfl,hc⟩:=hA hx;exact run_firstCells_some _ _ _ _ _ _ olds Bp.len (λj u hu=>by rw[mm];exact(hc j u hu).2)
   have dL:=run_append_grow_src (P:=P) w T tx ty e i z hT lP hz A xs.length c olds hold v ys.length us hs hg (by omega) (growslice_fits hg qQ);obtain⟨cap,kr⟩:∃cap,cap=grownCap w (xs.length+ys.length) c e:=⟨_,rfl⟩;have kf:xs.length+ys.length<=cap:=by rw[kr];exact grownCap_ge _ _ _ _
   have hle:cap<=maxLen:=by rw[kr];exact grownCap_le_maxLen _ _ _ _ wO
   rw[<-kr]at dL;obtain⟨cur,kQ⟩:∃cur,cur=(olds++us).toArray++Builtin.zeroCells z.cells (cap-(xs.length+ys.length)):=⟨_,rfl⟩;rw[<-kQ]at dL;obtain⟨w',fe⟩:∃w',w'=w.drew.alloc (.cells cur e):=⟨_,rfl⟩;rw[<-fe]at dL;have gX:cur.size=cap*i.size:=by
     have:=size_zeroCells z.cells (cap-(xs.length+ys.length));rw[kQ,Array.size_append,this,List.size_toArray,Ss.len,kE,ap2,<-Nat.add_mul]
     congr 1
     omega
   have fD:w'.heap[w.heap.size]?=some (.cells cur e (0,0)):=by rw[fe];exact World.alloc_heap_new w.drew _
   have NH:∀b,b<w.heap.size->w'.heap[b]?=w.heap[b]?:=λb hb=>by rw[fe];exact Below.heap_alloc w.drew _ b hb
   have iA:w'.heap.size=w.heap.size+1:=by rw[fe];simp
   obtain⟨S,hS⟩:∃S:Nat->Nat->Prop,S=λb o=>G.S b o\/(b=w.heap.size/\o<(xs.length+ys.length)*i.size):=⟨_,rfl⟩;have iu:∀b o,G.S b o->w'.cell? ⟨b,o,none⟩=w.cell? ⟨b,o,none⟩:=λb o hs=>World.cell?_of_block (NH b (hi.S b o hs));have hE:bV G.N G w (G.grow n S (.slice (some ⟨w.heap.size,0,none⟩) (xs.length+ys.length) cap) (xs.length+ys.length) (some w.heap.size)) w':=
    ⟨by rw[iA];exact Nat.le_succ _,λb o h=>by show S b o;rw[hS];exact .inl h,iu,λ_ _=>rfl,
     λm _=>by
      by_cases em:m=n
      ·right;subst em;simp only[Gh.grow,if_true,m5];omega
      ·left;exact⟨by simp [Gh.grow,em],by simp [Gh.grow,em]⟩,
     im rfl,λb hb=>NH b (hi.z b hb),by rw[fe];rfl,by rw[fe];rfl,by rw[fe];rfl,λb o hs=>by
      have cE:S b o:=hs;rw[hS]at cE;rcases cE with h|⟨rfl,_⟩
      ·exact .inl h
      ·exact .inr λhz=>aqF _ (hi.z _ hz)⟩
   have hP:dw S w' (.slice (some ⟨w.heap.size,0,none⟩) (xs++ys).length cap) (.sl (xs++ys)):=by
    refine(Ss.keep (S':=S) (w':=w') (λb o h=>by rw[hS];exact .inl h) iu).Ft w.heap.size cap (by rw[ap2];exact kf) hle (λo ho=>by rw[hS];exact .inr ⟨rfl,by rw[ap2]at ho;exact ho⟩) (λo x ho=> ?_);rw[cell_of_row w' w.heap.size o cur e (0,0) fD,kQ,Array.getElem?_append_left (by simp only[List.size_toArray];exact(ap1.1 ho).1),List.getElem?_toArray];exact ho
   rw[ap2]at hP;refine⟨_,w',_,by rw[Ao];exact dL,hE,aqc _,Y4 hi hn S _ w.heap.size hE (.inl rfl) (by rw[iA];exact aqN _) (λb o hs=> ?_) (λb hb _=>NH b hb) ?_,?_⟩
   ·rw[hS]at hs;exact hs.imp id And.left
   ·refine⟨by simp [Gh.grow],wO, .inr ⟨w.heap.size,cap,cur,by simp [Gh.grow],by simp [Gh.grow],λhz=>aqF _ (hi.z _ hz),fD,kf,hle,gX,λo ho hs=> ?_⟩⟩;have cE:S w.heap.size o:=hs;rw[hS]at cE;rcases cE with cE|⟨_,cE⟩
    ·have:=hi.S _ _ cE;omega
    ·omega
   ·exact .own n (xs++ys) oS hP (by simp [Gh.grow]) (λ_=>by simp [Gh.grow])
  rcases hbr with⟨iS,A',kh⟩|⟨g,cap,cur,iS,kh,H5,sb,Sk,NA,Vc,hb8⟩
  ·refine grow ?_;rw[Wu,kh]at Ao;cases Ao
   omega
  ·have ac9:=Ao;rw[Wu,kh]at ac9;injection ac9 with eA0 _ e1;have e2:=e1.symm;subst e2;subst eA0;by_cases sc:xs.length+ys.length<=c
   ·
    have mG:xs.length*i.size+us.length<=cur.size:=by rw[hr.len,Vc,<-Nat.add_mul];exact Nat.mul_le_mul_right _ sc
    have Fk:∀o,w.cell? ⟨g,o,none⟩=cur[o]?:=λo=>cell_of_row w g o cur e (0,0) sb;have Cb:∀j,j<us.length->(w.cell? ⟨g,0+xs.length*i.size+j,none⟩).isSome=true:=λj hj=>by
     rw[Fk,aql,aqn (by omega)];rfl
    have dL:=run_append_room_src (P:=P) w T tx ty e i hT lP g 0 xs.length c v ys.length us hs sc Cb
     (λj hj=>by unfold World.frozen?;rw[sb];simp)
    rw[aql]at dL Cb;obtain⟨w',fe⟩:∃w',w'=w.setCells g (xs.length*i.size) us:=⟨_,rfl⟩;rw[<-fe]at dL;have aec:g<w.heap.size:=(aqg.1 sb).1;have lT:=run_storeCells_at P g (xs.length*i.size) e us 0 cur w sb (by simpa using mG) hs.one;have yS:=run_storeCells_cells (P:=P) g (xs.length*i.size) us 0 w (by simpa using Cb) (λj hj=>by unfold World.frozen?;rw[sb];simp) hs.one;simp only[Nat.add_zero]at lT yS;rw[lT]at yS;have xH:w'=w.setRow g (cur.toList.take (xs.length*i.size)++us++cur.toList.drop (xs.length*i.size+us.length)).toArray:=by
      rw[fe];injection yS with _ e2;exact e2.symm
    obtain⟨qI,Oj⟩:∃qI:Array aqT,qI=(cur.toList.take (xs.length*i.size)++us++cur.toList.drop (xs.length*i.size+us.length)).toArray:=⟨_,rfl⟩;rw[<-Oj]at xH;have o9:w'.heap[g]?=some (.cells qI e (0,0)):=by rw[xH];exact setRow_heap w g cur qI e _ sb
    have jt:∀b,b≠g->w'.heap[b]?=w.heap[b]?:=λb hb=>by rw[xH];exact setRow_other w g b qI hb
    have iA:w'.heap.size=w.heap.size:=by rw[xH];exact Nn w g qI
    have gg:∀o,qI[o]?=if o<xs.length*i.size then cur[o]? else if o<xs.length*i.size+us.length then us[o-xs.length*i.size]? else cur[o]?:=λo=>by
     rw[Oj,List.getElem?_toArray,aqi];have hl:cur.toList.length=cur.size:=aqy;by_cases J:o<xs.length*i.size
     ·rw[if_pos J,aqb (by simp;omega),List.getElem?_take_of_lt J,aqo]
     ·rw[if_neg J,aqh (by simp;omega)];simp only[List.length_take,hl];rw[Nat.min_eq_left (by omega)];by_cases h2:o<xs.length*i.size+us.length
      ·rw[if_pos h2,aqb (by omega)]
      ·rw[if_neg h2,aqh (by omega),List.getElem?_drop,show xs.length*i.size+us.length+(o-xs.length*i.size-us.length)=o by omega,aqo]
    have anL:qI.size=cur.size:=by
     rw[Oj];simp only[List.size_toArray,ap2,List.length_take,List.length_drop,aqy];omega
    have iu:∀b o,G.S b o->w'.cell? ⟨b,o,none⟩=w.cell? ⟨b,o,none⟩:=λb o hs=>by
     by_cases eb:b=g
     ·subst eb;have ho:o<xs.length*i.size:=Nat.lt_of_not_le λhle=>hb8 o hle hs;rw[Fk,cell_of_row w' b o qI e (0,0) o9,gg,if_pos ho]
     ·exact World.cell?_of_block (jt b eb)
    obtain⟨S,hS⟩:∃S:Nat->Nat->Prop,S=λb o=>G.S b o\/(b=g/\o<(xs.length+ys.length)*i.size):=⟨_,rfl⟩;have hE:bV G.N G w (G.grow n S (.slice (some ⟨g,0,none⟩) (xs.length+ys.length) c) (xs.length+ys.length) (some g)) w':=
     ⟨by rw[iA];exact aqc _,λb o h=>by show S b o;rw[hS];exact .inl h,iu,λ_ _=>rfl,
      λm _=>by
       by_cases em:m=n
       ·right;subst em;simp only[Gh.grow,if_true,m5];omega
       ·left;exact⟨by simp [Gh.grow,em],by simp [Gh.grow,em]⟩,
      im rfl,λb hb=>jt b (λe=>H5 (e▸hb)),by rw[xH];rfl,by rw[xH];rfl,by rw[xH];rfl,λb o hs=>by
       have cE:S b o:=hs;rw[hS]at cE;rcases cE with h|⟨rfl,_⟩
       ·exact .inl h
       ·exact .inr H5⟩
    have hP:dw S w' (.slice (some ⟨g,0,none⟩) (xs++ys).length c) (.sl (xs++ys)):=by
     refine(Ss.keep (S':=S) (w':=w') (λb o h=>by rw[hS];exact .inl h) iu).Ft g c (by rw[ap2];exact sc) NA (λo ho=>by rw[hS];exact .inr ⟨rfl,by rw[ap2]at ho;exact ho⟩) (λo x ho=> ?_);rw[cell_of_row w' g o qI e (0,0) o9,gg];have kF:olds.length=xs.length*i.size:=Bp.len;by_cases J:o<xs.length*i.size
     ·rw[if_pos J];rw[aqb (by omega)]at ho;have hx:xs≠ []:=λe=>by subst e;simp at J
      obtain⟨b,o',eA,hc⟩:=hA hx;cases eA
      have:=(hc o x ho).2;rw[aql,Fk]at this;exact this
     ·rw[if_neg J];rw[aqh (by omega),kF]at ho;have:=(ap1.1 ho).1;rw[if_pos (by omega)];exact ho
    rw[ap2]at hP;refine⟨_,w',_,by rw[Ao];exact dL,hE,aqc _,Y4 hi hn S _ g hE (.inr iS) (by rw[iA];exact aec) (λb o hs=> ?_) (λb _ hb=>jt b hb) ?_,?_⟩
    ·rw[hS]at hs;exact hs.imp id And.left
    ·refine⟨by simp [Gh.grow],wO, .inr ⟨g,c,qI,by simp [Gh.grow],by simp [Gh.grow],H5,o9,sc,NA,by rw[anL,Vc],λo ho hs=> ?_⟩⟩;have cE:S g o:=hs;rw[hS]at cE;rcases cE with cE|⟨_,cE⟩
     ·exact hb8 o (aqj (Nat.mul_le_mul_right _ (aqG _ _)) ho) cE
     ·omega
    ·exact .own n (xs++ys) oS hP (by simp [Gh.grow]) (λ_=>by simp [Gh.grow])
   ·exact grow (by omega)
def WF(r:aqR Nat):Fence:={Fence.wide with round:=r}
def jr(N0:Nat)(G:Gh)(w:aqU)(K:St->Prop)(a':Act)(w':aqU):Prop:=∃G' s',bV N0 G w G' w'/\N0<=G'.N/\cY G' w' a' s'/\K s'
section
variable {P:aqS} {r:aqR Nat} {n N0:Nat} {G:Gh} {w:aqU} {a:Act} {s:St} {o:Oper} {K:St->Prop} {Q:Exit->Act->aqU->Prop}
theorem mA(ia:∀c,o.op≠ .defer c)(hs:cY G w a s)(cy:N0<=G.N){v:aqT}{x:AV}{w':aqU}{G':Gh}{h':aqP aq}(hr:(execOp a.eval o).run P w= .ok (.value v) w')
 (hE:bV G.N G w G' w') (hN:G.N<=G'.N) (hi:bW G' w' h') (hv:aH G' w' v x) (hK:K ((s.wh h').put o.dst x)):o.wpIn (WF r) n P a w (jr N0 G w K) Q:=by
 refine⟨λ_ _=>trivial,?_⟩;rw[Oper.semAt_eq _ _ _ ia,hr];exact⟨G',_,hE.less cy,aqj cy hN,((hs.move hE hN hi).put hv o.dst),hK⟩
theorem fI(ia:∀c,o.op≠ .defer c)(hs:cY G w a s)(cy:N0<=G.N){v:aqT}{x:AV}(hr:(execOp a.eval o).run P w= .ok (.value v) w)(hv:aH G w v x)(hK:K (s.put o.dst x)):
 o.wpIn (WF r) n P a w (jr N0 G w K) Q:=
 mA ia hs cy hr (bV.refl _ _ _) (aqc _) hs.inv hv hK
theorem PY(ia:∀c,o.op≠ .defer c)(hs:cY G w a s)(cy:N0<=G.N){w':aqU}{G':Gh}{h':aqP aq}(hr:(execOp a.eval o).run P w= .ok .skip w')
 (hE:bV G.N G w G' w') (hN:G.N<=G'.N) (hi:bW G' w' h') (hK:K ((s.wh h').put o.dst (.d (.v undef)))):o.wpIn (WF r) n P a w (jr N0 G w K) Q:=by
 refine⟨λ_ _=>trivial,?_⟩;rw[Oper.semAt_eq _ _ _ ia,hr];exact⟨G',_,hE.less cy,aqj cy hN,((hs.move hE hN hi).put (.d (.v undef)) o.dst),hK⟩
theorem ZG{t k:Nat}(h:gx P t=some k):∃i,P.info? t=some i/\i.size=k:=by
 unfold gx at h;cases hq:P.info? t with
 |none=>rw[hq]at h;cases h
 |some i=>rw[hq]at h;exact⟨i,rfl,by simpa using h⟩
theorem Mx{t:Nat}{z:aqT}(h:iQ P t=some z):∃i,P.info? t=some i/\i.zero=some z:=by
 unfold iQ at h;cases hq:P.info? t with
 |none=>rw[hq]at h;cases h
 |some i=>rw[hq]at h;exact⟨i,rfl,by simpa using h⟩
theorem EZ{t:Nat}{z:aqT}(h:iQ P t=some z)(w:aqU):(zeroValue t).run P w= .ok z w:=by
 obtain⟨i,J,h2⟩:=Mx h;simp [zeroValue,typeInfo,J,h2]
theorem mN{t k:Nat}(h:gx P t=some k)(w:aqU):(sizeOf t).run P w= .ok k w:=by
 obtain⟨i,J,h2⟩:=ZG h;simp [sizeOf,typeInfo,J,h2]
theorem EJ{t:Nat}{g:Bool}(h:mJ P t=some g)(w:aqU):(isAgg t).run P w= .ok g w:=by
 unfold mJ at h;cases hq:P.underlying t with
 |none=>rw[hq]at h;cases h
 |some d=>
  rw[hq]at h;unfold isAgg;rw[Sem.run_bind,run_underlying hq w];simp only[Option.map_some,Option.some.injEq]at h;subst h;cases d<;>rfl
theorem aep{t:Nat}(h:mJ P t=some true):∃d,P.underlying t=some d/\d.isRow=true:=by
 unfold mJ at h;cases hq:P.underlying t with
 |none=>rw[hq]at h;cases h
 |some d=>rw[hq]at h;refine⟨d,rfl,?_⟩;cases d<;>simp_all [TypeDesc.isRow]
theorem aci{t:Nat}{C:AV->Prop}:∀(b o:Nat)(cs:aqP AV)(off:Nat)(us:Nat->aqT),(∀j,j<cs.length->w.cell? ⟨b,o+j,none⟩=some (us j))->(∀(j:Nat)(c:AV),cs[j]?=some c->aH G w (us j) c)->
 (match mJ P t,gx P t with
  |some true,some k=>fQ (ct (off+k) cs.length) (C (.agg ((cs.drop off).take k)))
  |some false,some _=>match cs[off]? with
   |some c=>C c
   |none=>False
  |_,_=>False)->∃u x,(loadVar t ⟨b,o+off,none⟩).run P w= .ok u w/\aH G w u x/\C x:=by
 intro b o cs off us J h2 h3;split at h3
 ·rename_i k hg hk
  obtain⟨hlen,hC⟩:=bX.1 h3;rw[dh]at hlen;obtain⟨d,ry,mE⟩:=aep hg;have MV:((List.range k).map λj=>us (off+j)).length=k:=by simp
  have dL:=run_loadVar_mid (P:=P) w b (o+off) t ((List.range k).map λj=>us (off+j)) d (λj u hu=>by
   rw[ap8]at hu;by_cases hj:j<k
   ·rw[List.getElem?_range hj]at hu;simp only[Option.map_some,Option.some.injEq]at hu;subst hu;have:=J (off+j) (by omega)
    rwa [<-Nat.add_assoc]at this
   ·rw[aqx (by simp;omega)]at hu;cases hu) ry mE (by rw[MV];exact hk)
  refine⟨_,_,dL, .agg _ _ (by simp;omega) λi u c hu hc=> ?_,hC⟩;rw[List.getElem?_toArray,ap8]at hu;rw[List.getElem?_take]at hc;split at hc
  ·rename_i oD
   rw[List.getElem?_range oD]at hu;simp only[Option.map_some,Option.some.injEq]at hu;subst hu;rw[List.getElem?_drop]at hc;exact h2 (off+i) c hc
  ·cases hc
 ·rename_i k hg hk
  split at h3
  ·rename_i c hc
   refine⟨us off,c,?_,h2 off c hc,h3⟩;unfold loadVar;rw[Sem.run_bind,EJ hg w];simp only[Result.andThen_ok,Bool.false_eq_true,if_false];unfold load;simp only[Sem.run,J off (ap1.1 hc).1]
  ·exact h3.elim
 ·exact h3.elim
theorem abJ{t:Nat}{p:AV}{v:aqT}{C:AV->Prop}(hi:bW G w s.h)(hv:aH G w v p)(h:oO P t s.h p C):∃u x,(Instr.loadAt t v).run P w= .ok u w/\aH G w u x/\C x:=by
 have key:=aci (P:=P) (G:=G) (w:=w) (t:=t) (C:=C);unfold oO tG at h;cases p with
 |ptr m off=>
  simp only at h;split at h
  ·rename_i cs hm
   obtain⟨_,_,vs,T,hh,hl,hr⟩:=hi.dc m _ hm;cases hv with
   |ptr _ _ xg=>
    obtain⟨u,x,J,h2,h3⟩:=key (G.aR m) 0 cs off (λj=>vs.getD j undef) (λj hj=>by
     have iM:j<vs.size:=by rw[hl];exact hj
     rw[aql,cell_of_row w (G.aR m) j vs T (0,0) hh];simp [Array.getD,iM]) (λj c hc=>by
     have iM:j<vs.size:=by rw[hl];exact(ap1.1 hc).1
     exact hr j _ c (by simp [Array.getD,iM]) hc) h
    rw[aql]at J;exact⟨u,x,by simp [Instr.loadAt,Instr.sureAddr,J],h2,h3⟩
  ·exact h.elim
 |bk xs i off=>
  simp only at h;split at h
  ·rename_i cs gX
   cases hv with
   |bk _ _ _ b o us x hx hS hu=>
    rw[hx]at gX;cases gX
    obtain⟨u,y,J,h2,h3⟩:=key b o (cs.map .d) off us (λj hj=>(hS j (by simpa using hj)).2) (λj c hc=>by
     rw[ap8]at hc;cases hd:cs[j]? with
     |none=>rw[hd]at hc;cases hc
     |some d=>rw[hd]at hc;cases hc;exact .d (hu j d hd)) h
    exact⟨u,y,by simp [Instr.loadAt,Instr.sureAddr,J],h2,h3⟩
  ·exact h.elim
 |_=>exact h.elim
theorem aH.list{u:aqT}{x:AV}{xs:aqP (aqP D)}(h:aH G w u x)(hx:x.fW=some xs):dw G.S w u (.sl xs):=by
 unfold AV.fW at hx;split at hx
 ·cases hx;cases h with|d h=>exact h
 ·cases hx;cases h with|own _ _ _ h=>exact h
 ·cases hx;cases h with|full _ h=>exact h
 ·cases hx
  cases h with
  |d h=>
   cases h with
   |v=>exact .sl none 0 0 0 0 [] (λ_ _=>undef) (λh=>absurd rfl h) (aqc _) (by simp) (λ_ h=>by cases h) (λi j hi=>by simp at hi) (λi j x d hx=>by simp at hx)
 ·cases hx
theorem aH.int{u:aqT}{x:AV}{z:Int}(h:aH G w u x)(hx:x.int?=some z):∃k,u= .int k z:=by
 unfold AV.int? at hx;split at hx
 ·rename_i k m
  cases hx
  cases h with
  |d h=>cases h with|v=>exact⟨k,rfl⟩
 ·cases hx
theorem aH.bool{u:aqT}{t:Bool}(h:aH G w u (.d (.v (.bool t)))):u= .bool t:=by
 cases h with|d h=>cases h with|v=>rfl
theorem aH.val{u v:aqT}(h:aH G w u (.d (.v v))):u=v:=by
 cases h with|d h=>cases h with|v=>rfl
theorem j9{T e k:Nat}(h:fb P T=some (e,k)):P.underlying T=some (.slice e)/\gx P e=some k:=by
 unfold fb at h;split at h
 ·rename_i e' he
  cases hq:gx P e' with
  |none=>rw[hq]at h;cases h
  |some k'=>rw[hq]at h;simp at h;obtain⟨rfl,rfl⟩:=h;exact⟨he,hq⟩
 ·cases h
theorem PO{T m e k:Nat}(h:ud P T=some (m,e,k)):P.underlying T=some (.array m e)/\gx P e=some k:=by
 unfold ud at h;split at h
 ·rename_i m' e' he
  cases hq:gx P e' with
  |none=>rw[hq]at h;cases h
  |some k'=>rw[hq]at h;simp at h;obtain⟨rfl,rfl,rfl⟩:=h;exact⟨he,hq⟩
 ·cases h
theorem amJ{T:Nat}{x i:AV}{u v:aqT}{C:AV->Prop}(hu:aH G w u x)(hv:aH G w v i)(h:ua P T x i C):∃p y,(Instr.indexAt T u v).run P w= .ok p w/\aH G w p y/\C y:=by
 unfold ua at h;split at h
 ·rename_i e k hT
  obtain⟨fU,gk⟩:=j9 hT;split at h
  ·rename_i m off len cap k'
   split at h
   ·rename_i z hz
    obtain⟨uF,h0,aN,hC⟩:=bX.1 h;rw[beq_iff_eq]at uF;subst uF;obtain⟨kz,rfl⟩:=hv.int hz;cases hu with
    |row _ _ _ _ _ hm hl pW=>
     have hN:(z.toNat:Int)=z:=Int.toNat_of_nonneg h0;refine⟨_,_,?_, .ptr m (off+z.toNat*k') hm,hC⟩;simp [Instr.indexAt,asIntOf,run_underlying fU,h0,aN,mN gk,mm]
   ·exact h.elim
  ·split at h
   ·rename_i xs z mr hz
    obtain⟨h0,h⟩:=h;obtain⟨kz,rfl⟩:=hv.int hz;split at h
    ·rename_i c hc
     obtain⟨hk,hC⟩:=h;obtain⟨A,b,o,cc,k',us,rfl,hA,lC,yk,hJ,hS,mR⟩:=(hu.list mr).qt;have aN:z.toNat<xs.length:=(ap1.1 hc).1;have cG:xs≠ []:=λe=>by subst e;simp at aN
     have ek:k'=k:=by rw[<-hJ c (aqe hc),hk]
     subst ek;rw[hA cG];have PK:z<(xs.length:Int):=by omega
     refine⟨_, .bk [c] 0 0,?_, .bk [c] 0 0 b (o+z.toNat*k') (us z.toNat) c rfl (λj hj=> ?_) (λj d hd=>mR _ _ _ _ hc hd),hC⟩
     ·simp [Instr.indexAt,asIntOf,run_underlying fU,h0,PK,mN gk,mm]
     ·have:=hS z.toNat j aN (by rw[hk]at hj;exact hj);exact⟨this.1,this.2.1⟩
    ·exact h.elim
   ·exact h.elim
 ·split at h
  ·rename_i m e k b off z hT hz
   obtain⟨h0,aN,hC⟩:=h;obtain⟨fU,gk⟩:=PO hT;obtain⟨kz,rfl⟩:=hv.int hz;cases hu with
   |ptr _ _ hb=>
    refine⟨_,_,?_, .ptr b (off+z.toNat*k) hb,hC⟩;simp [Instr.indexAt,Instr.sureAddr,asIntOf,run_underlying fU,h0,aN,mN gk,mm]
  ·rename_i m e k xs i' off z hT hz
   obtain⟨j5,h0,aN,h9⟩:=bX.1 h;rw[beq_iff_eq]at j5;subst j5;obtain⟨fU,gk⟩:=PO hT;obtain⟨kz,rfl⟩:=hv.int hz;split at h9
   ·rename_i c hc
    split at h9
    ·rename_i d hd
     cases hu with
     |bk _ _ _ b o us c' gg hS mR=>
      rw[hc]at gg;cases gg
      have aoe:=(ap1.1 hd).1;refine⟨_, .bk [[d]] 0 0,?_, .bk [[d]] 0 0 b (o+(off+z.toNat)) (λ_=>us (off+z.toNat)) [d] rfl (λj hj=> ?_) (λj d' jf=> ?_),h9⟩
      ·simp [Instr.indexAt,Instr.sureAddr,asIntOf,run_underlying fU,h0,aN,mN gk,mm,Nat.add_assoc]
      ·simp at hj;subst hj;exact hS _ aoe
      ·match j with
       |0=>simp at jf;subst jf;exact mR _ _ hd
       |j+1=>simp at jf
    ·exact h9.elim
   ·exact h9.elim
  ·exact h.elim
theorem sN{T:Nat}(h:iD P T=true):P.underlying T=some .string:=by
 unfold iD at h;split at h
 ·assumption
 ·cases h
theorem amv{T:Nat}{x:AV}{u:aqT}{ty:Nat}{C:Nat->Prop}(hu:aH G w u x)(h:sZ P T x C):∃m:Nat,(Builtin.len_ #[T] ty #[u]).run P w= .ok (.int .i64 m) w/\C m:=by
 have Yt:∀(A:aqR Addr)(l c:Nat),(fb P T).isSome=true->(Builtin.len_ #[T] ty #[.slice A l c]).run P w= .ok (.int .i64 l) w:=by
  intro A l c hT;obtain⟨⟨e,k⟩,hT⟩:=Option.isSome_iff_exists.1 hT;simp [Builtin.len_,run_underlying (j9 hT).1,goInt]
 unfold sZ at h;split at h
 ·rename_i b
  have:=hu.val;subst this;obtain⟨hT,hC⟩:=bX.1 h;exact⟨b.size,by simp [Builtin.len_,run_underlying (sN hT),goInt],hC⟩
 ·cases hu with
  |row=>exact⟨_,Yt _ _ _ (bX.1 h).1,(bX.1 h).2⟩
 ·split at h
  ·rename_i xs mr
   obtain⟨A,b,o,c,k,us,rfl,_⟩:=(hu.list mr).qt;exact⟨_,Yt _ _ _ (bX.1 h).1,(bX.1 h).2⟩
  ·exact h.elim
def Cu(a:Act)(x:aqR Operand)(d m:Nat):Prop:=match x with|none=>m=d|some y=>∃k z,a.eval y= .int k z/\0<=z/\m=z.toNat
theorem uG{x:aqR Operand}{d:Nat}{C:Nat->Prop}(hs:cY G w a s)(h:ky (ev s) x d C):∃m,C m/\Cu a x d m:=by
 cases x with
 |none=>exact⟨_,h,rfl⟩
 |some y=>
  unfold ky at h;simp only at h;split at h
  ·rename_i z hz
   obtain⟨k,hk⟩:=(hs.ev y).int hz;exact⟨_,h.2,k,z,hk,h.1,rfl⟩
  ·exact h.elim
theorem BI{k:IntKind}{z:Int}{y:Nat}{code:BoundsCode}(h0:0<=z)(h:z.toNat<=y)(w:aqU):(Instr.sliceBound (.int k z) y code).run P w= .ok z.toNat w:=by
 have:z<=(y:Int):=by omega
 simp [Instr.sliceBound,asIntOf,h0,this]
theorem D4{lo hi:aqR Operand}{len cap l h:Nat}{Aj:Bool}(kF:Cu a lo 0 l)(rf:Cu a hi len h)(hl:l<=h)(hh:h<=cap)(w:aqU):
 (Instr.sliceBounds Aj len cap (lo.map a.eval) (hi.map a.eval) none).run P w= .ok (l,h,cap) w:=by
 unfold Cu at kF rf;cases lo with
 |none=>
  subst kF;cases hi with
  |none=>subst rf;simp [Instr.sliceBounds]
  |some y=>
   obtain⟨k,z,e,h0,rfl⟩:=rf;simp [Instr.sliceBounds,e,BI h0 hh]
 |some x=>
  obtain⟨k',z',e',XS,rfl⟩:=kF;cases hi with
  |none=>subst rf;simp [Instr.sliceBounds,e',BI XS hl]
  |some y=>
   obtain⟨k,z,e,h0,rfl⟩:=rf;simp [Instr.sliceBounds,e,e',BI h0 hh,BI XS hl]
theorem dw.part{S:Nat->Nat->Prop}{v:aqT}{xs:aqP (aqP D)}{k:Nat}(hp:dw S w v (.sl xs))(hk:∀c∈xs,c.length=k){l h:Nat}(hl:l<=h)(hh:h<=xs.length):
 ∃A c,v= .slice A xs.length c/\xs.length<=c/\dw S w (.slice (if c=l then A else A.map (·.add (l*k))) (h-l) (c-l)) (.sl ((xs.take h).drop l)):=by
 obtain⟨A,b,o,c,k',us,rfl,hA,lC,yk,hJ,hS,mR⟩:=hp.qt;refine⟨A,c,rfl,lC,?_⟩;have hlen:((xs.take h).drop l).length=h-l:=by simp;omega
 rw[<-hlen];by_cases hx:xs=[]
 ·subst hx;have e:((([]:aqP (aqP D)).take h).drop l)=[]:=by simp
  rw[e];exact .sl _ 0 0 (c-l) 0 [] (λ_ _=>undef) (λh=>absurd rfl h) (Nat.zero_le _) (by omega) (λ_ h=>by cases h) (λi j hi=>by simp at hi) (λi j x d hx=>by simp at hx)
 ·have ek:k'=k:=by
   obtain⟨x,nx⟩:=List.exists_mem_of_ne_nil xs hx;rw[<-hJ x nx,hk x nx]
  subst ek;have fp:∀i,i<h-l->((xs.take h).drop l)[i]?=xs[l+i]?:=λi hi=>by
   rw[List.getElem?_drop,List.getElem?_take_of_lt (by omega)]
  refine .sl _ b (o+l*k') (c-l) k' _ (λi j=>us (l+i) j) (λcG=> ?_) (by rw[hlen];omega) (by omega) (λx hx=>hk x (List.mem_of_mem_take (List.mem_of_mem_drop hx))) (λi j hi hj=> ?_) (λi j x d hx hd=> ?_)
  ·have M3:0<((xs.take h).drop l).length:=List.length_pos_iff.2 cG;rw[hlen]at M3;rw[if_neg (by omega),hA hx];simp [mm]
  ·rw[hlen]at hi;have:=hS (l+i) j (by omega) hj;rw[Nat.add_mul,<-Nat.add_assoc]at this;exact this
  ·have hi:=(ap1.1 hx).1;rw[hlen]at hi;rw[fp i hi]at hx;exact mR _ _ _ _ hx hd
theorem alT{T:Nat}{x:AV}{u:aqT}{lo hi mx:aqR Operand}{C:AV->Prop}(hs:cY G w a s)(hu:aH G w u x)(h:vf P T (ev s) x lo hi mx C):
 ∃p y,(Instr.sliceAt T u (lo.map a.eval) (hi.map a.eval) (mx.map a.eval)).run P w= .ok p w/\aH G w p y/\C y:=by
 unfold vf at h;split at h
 ·split at h
  ·rename_i b
   obtain⟨hT,h⟩:=bX.1 h;have hT:=sN hT;have:=hu.val;subst this;obtain⟨m,h,hm⟩:=uG hs h;obtain⟨x9,h⟩:=h;obtain⟨l,h,hl⟩:=uG hs h;obtain⟨sM,h⟩:=h;refine⟨_,_,?_, .d (.v _),h⟩;have hb:=D4 (P:=P) (Aj:=false) hl hm sM x9 w;simp [Instr.sliceAt,Instr.slice,run_underlying hT,hb]
  ·rename_i m off
   split at h
   ·rename_i c e k hT
    rw[bX,dh]at h;obtain⟨yk,h⟩:=h;have yk:c<=maxLen:=by unfold maxLen;omega
    obtain⟨fU,gk⟩:=PO hT;obtain⟨hh,h,hm⟩:=uG hs h;obtain⟨x9,h⟩:=bX.1 h;rw[dh]at x9;obtain⟨l,h,hl⟩:=uG hs h;obtain⟨sM,h⟩:=bX.1 h;simp only[ap3,dh,Bool.not_eq_true',<-Bool.not_eq_true,Nat.not_le]at sM;obtain⟨sM,lC⟩:=sM;have hb:=D4 (P:=P) (Aj:=false) hl hm sM x9 w;cases hu with
    |ptr _ _ xg=>
     refine⟨_,_,?_, .row m (off+l*k) (hh-l) (c-l) k xg (by omega) (by omega),h⟩;simp [Instr.sliceAt,Instr.sureAddr,run_underlying fU,hb,mN gk,mm,Nat.ne_of_gt lC]
   ·exact h.elim
  ·split at h
   ·rename_i xs e k mr hT
    obtain⟨hk,h⟩:=h;obtain⟨fU,gk⟩:=j9 hT;obtain⟨hh,h,hm⟩:=uG hs h;obtain⟨x9,h⟩:=h;obtain⟨l,h,hl⟩:=uG hs h;obtain⟨sM,h⟩:=h;obtain⟨A,c,rfl,lC,hp⟩:=(hu.list mr).part hk sM x9;have hb:=D4 (P:=P) (Aj:=true) hl hm sM (aqj x9 lC) w;refine⟨_,_,?_, .d hp,h⟩;simp [Instr.sliceAt,Instr.slice,run_underlying fU,hb,mN gk]
   ·exact h.elim
 ·rename_i y
  split at h
  case h_2=>exact h.elim
  rename_i yh
  split at h
  ·rename_i xs e k mr hT
   obtain⟨hk,h⟩:=h;obtain⟨fU,gk⟩:=j9 hT;obtain⟨c',h3,hc⟩:=uG hs h;obtain⟨gp,h3⟩:=h3;obtain⟨hh,h4,hm⟩:=uG hs h3;obtain⟨rfl,h5⟩:=h4;clear h h3;obtain⟨k1,z1,e1,p1,q1⟩:=hc;obtain⟨k2,z2,e2,p2,q2⟩:=hm;obtain⟨A,c,rfl,lC,hp⟩:=(hu.list mr).part hk (Nat.zero_le hh) gp;have hp':dw G.S w (.slice A hh hh) (.sl (xs.take hh)):=by
    have J:(if c=0 then A else A.map (·.add (0*k)))=A:=by
     split
     ·rfl
     ·cases A<;>simp [Addr.add]
    rw[J,aqA]at hp;obtain⟨A',b,o,c2,k',us,e,r1,r2,r3,r4,r5,r6⟩:=hp.qt;have hl:(xs.take hh).length=hh:=by simp;omega
    injection e with eA e3 e4;subst eA;have:=dw.sl (S:=G.S) (w:=w) A b o hh k' (xs.take hh) us r1 (by omega) (by omega) r4 r5 r6
    rwa [hl]at this
   refine⟨.slice A hh hh, .full (xs.take hh),?_, .full _ hp' ⟨A,by simp;omega⟩,h5⟩;have b1:(Instr.sliceBound (.int k1 z1) c .slice3Acap).run P w= .ok hh w:=by rw[BI p1 (by omega),q1]
   have b2:(Instr.sliceBound (.int k2 z2) hh .slice3B).run P w= .ok hh w:=by rw[BI p2 (by omega),<-q2]
   simp only[Option.map_some,Option.map_none,e1,e2];have hA:A.map (·.add 0)=A:=by cases A<;>simp [Addr.add]
   simp [Instr.sliceAt,Instr.slice,Instr.sliceBounds,run_underlying fU,b1,b2,mN gk,hA]
  ·exact h.elim
theorem Mq:∀{cs:aqP AV}{ds:aqP D},nw cs=some ds->ds.length=cs.length/\∀(i:Nat)(c:AV)(d:D),cs[i]?=some c->ds[i]?=some d->c.xl=some d
 |[],ds,h=>by simp [nw]at h;subst h;simp
 |c::cs,ds,h=>by
  unfold nw at h;split at h
  ·rename_i d l hd hl
   cases h
   obtain⟨J,h2⟩:=Mq hl;refine⟨by simp [J],λi c' d' hc jf=> ?_⟩
   match i with
   |0=>simp at hc jf;subst hc;subst jf;exact hd
   |i+1=>exact h2 i c' d' (by simpa using hc) (by simpa using jf)
  ·cases h
theorem dw.vD{S:Nat->Nat->Prop}{w:aqU}{u:aqT}{x:D}(h:dw S w u x):dw S w u x.vD:=by
 unfold D.vD;split
 ·cases h with
  |v=>exact .sl none 0 0 0 0 [] (λ_ _=>undef) (λh=>absurd rfl h) (aqc _) (Nat.zero_le _) (λ_ h=>absurd h aqH) (λi j hi=>absurd hi (aqt _)) (λi j x d hx=>by simp at hx)
 ·exact h
theorem aH.K6{u:aqT}{x:AV}{d:D}(h:aH G w u x)(hx:x.xl=some d):dw G.S w u d:=by
 unfold AV.xl at hx;split at hx
 ·cases hx;cases h with|d h=>exact h.vD
 ·cases hx;cases h with|own _ _ _ h=>exact h
 ·cases hx;cases h with|full _ h=>exact h
 ·cases hx
theorem sG(k:Nat):∀(m:Nat)(l:aqP D),(oJ k m l).length=m
 |0,_=>rfl
 |m+1,l=>by simp [oJ,sG k m]
theorem OM(k:Nat):∀(m:Nat)(l:aqP D)(i:Nat),i<m->(oJ k m l)[i]?=some ((l.drop (i*k)).take k)
 |0,_,_,h=>by omega
 |m+1,l,0,_=>by simp [oJ]
 |m+1,l,i+1,h=>by
  have:=OM k m (l.drop k) i (by omega);rw[oJ,aqC,this,List.drop_drop,Nat.add_mul,Nat.one_mul,Nat.add_comm k]
theorem abC{k m:Nat}{us:aqP aqT}{ds:aqP D}(hl:ds.length=m*k)(hu:us.length=m*k)(J:∀u∈us,u.oneCell'=true)
 (hr:∀(i:Nat)(u:aqT)(d:D),us[i]?=some u->ds[i]?=some d->dw G.S w u d):Rd G.S w k (oJ k m ds) us:=by
 have hb:∀i,i<m->(i+1)*k<=m*k:=λi hi=>Nat.mul_le_mul_right k hi;refine⟨by rw[sG,hu],λx hx=> ?_,J,λi j x d hx hd=> ?_⟩
 ·obtain⟨i,hi⟩:=List.mem_iff_getElem?.1 hx;have Hx:i<m:=by have:=(ap1.1 hi).1;rwa [sG]at this
  rw[OM k m ds i Hx]at hi;cases hi
  have:=hb i Hx;rw[Nat.add_mul]at this;simp;omega
 ·have Hx:i<m:=by have:=(ap1.1 hx).1;rwa [sG]at this
  rw[OM k m ds i Hx]at hx;cases hx
  rw[List.getElem?_take]at hd;split at hd
  ·rw[List.getElem?_drop]at hd;have:=(ap1.1 hd).1;have aN:i*k+j<us.length:=by omega
   exact⟨us[i*k+j],ap5 aN,hr _ _ _ (ap5 aN) hd⟩
  ·cases hd
theorem aj9{k U e':Nat}{y:AV}{v:aqT}{C:aqP (aqP D)->Prop}(hi:bW G w s.h)(hv:aH G w v y)(hk:0<k)(hU:P.underlying U=some (.slice e'))(h:uy s.h k y C):
 ∃ys us,Rd G.S w k ys us/\Src P k U v ys.length us w/\C ys:=by
 unfold uy at h;split at h
 ·rename_i m off len cap k'
  split at h
  ·rename_i cs hm
   split at h
   ·rename_i ds sq
    obtain⟨fO,hC⟩:=bX.1 h;simp only[ap3,beq_iff_eq,dh]at fO;obtain⟨⟨rfl,hlen⟩,jK⟩:=fO;obtain⟨J,h2⟩:=Mq sq;obtain⟨_,_,vs,T,hh,hl,hr⟩:=hi.dc m _ hm;cases hv with
    |row _ _ _ _ _ xg lC pW=>
     have Ab:ds.length=len*k':=by rw[J];simp;omega
     have pk:((vs.toList.drop off).take (len*k')).length=len*k':=by simp;omega
     have Aa:∀(i:Nat)(u:aqT)(c:AV),((vs.toList.drop off).take (len*k'))[i]?=some u->((cs.drop off).take (len*k'))[i]?=some c->aH G w u c:=λi u c hu hc=>by
      rw[List.getElem?_take]at hu hc;split at hu
      ·rename_i oD
       rw[if_pos oD]at hc;rw[List.getElem?_drop]at hu hc;exact hr _ u c (by rw[<-aqo];exact hu) hc
      ·cases hu
     have gp:((cs.drop off).take (len*k')).length=len*k':=by simp;omega
     have WM:∀u∈(vs.toList.drop off).take (len*k'),u.oneCell'=true:=λu hu=>by
      obtain⟨i,hi⟩:=List.mem_iff_getElem?.1 hu;have j0:i<len*k':=by rw[<-pk];exact(ap1.1 hi).1
      have E1:=ap5 (l:=(cs.drop off).take (len*k')) (i:=i) (by rw[gp];exact j0);exact(Aa i u _ hi E1).kH (aqr.1 jK _ (aqe E1))
     have wY:=abC (G:=G) (w:=w) (k:=k') (m:=len) Ab pk WM (λi u d hu hd=>by
      have j0:i<len*k':=by rw[<-pk];exact(ap1.1 hu).1
      have E1:=ap5 (l:=(cs.drop off).take (len*k')) (i:=i) (by rw[gp];exact j0);exact(Aa i u _ hu E1).K6 (h2 i _ d E1 hd))
     refine⟨_,_,wY,?_,hC⟩;rw[sG];refine Src.ofSlice w hU _ len cap _ pk (λj u hu=> ?_) WM;rw[List.getElem?_take]at hu;split at hu
     ·rw[List.getElem?_drop,aqo]at hu;rw[mm,cell_of_row w _ _ vs T (0,0) hh];exact hu
     ·cases hu
   ·exact h.elim
  ·exact h.elim
 ·split at h
  ·rename_i ys jW
   obtain⟨us,J,h2⟩:=(hv.list jW).src (P:=P) hk h.1 hU;exact⟨ys,us,J,h2,h.2⟩
  ·exact h.elim
theorem Fe:dw G.S w (.slice none 0 0) (.sl []):=
 .sl none 0 0 0 0 [] (λ_ _=>undef) (λh=>absurd rfl h) (aqc _) (by simp) (λ_ h=>by cases h) (λi j hi=>by simp at hi) (λi j x d hx=>by simp at hx)
theorem ae7(h:aqP aq)(x y:aq):(h++[x]).set h.length y=h++[y]:=by simp
theorem amp{T U ty e':Nat}{x y:AV}{u v:aqT}{C:AV->aqP aq->Prop}(hi:bW G w s.h)(hu:aH G w u x)(hv:aH G w v y)(hU:P.underlying U=some (.slice e'))(h:ue P T s.h x y C):
 ∃p w' G' q h',(Builtin.append_ #[T,U] ty #[u,v]).run P w= .ok p w'/\bV G.N G w G' w'/\G.N<=G'.N/\bW G' w' h'/\aH G' w' p q/\C q h':=by
 unfold ue at h;split at h
 ·rename_i e k hT
  obtain⟨fU,gk⟩:=j9 hT;split at h
  ·rename_i z c6 hz qQ
   obtain⟨fO,h⟩:=bX.1 h;simp only[ap3,beq_iff_eq,dh,aqy]at fO;obtain⟨hk,kE⟩:=fO;obtain⟨i,jD,jQ,CI⟩:=Rk gk qQ;have VO:i.zero=some z:=by
    obtain⟨i',J,h2⟩:=Mx hz;rw[jD]at J;cases J;exact h2
   obtain⟨ys,us,hr,hs,h2⟩:=aj9 hi hv hk hU h;clear h;have fresh:∀(xs:aqP (aqP D)),dw G.S w u (.sl xs)->(∃A,u= .slice A xs.length xs.length)->(∀c∈xs,c.length=k)->xs.length+ys.length<=maxLen->(xs.length+ys.length)*c6<=140737488355328->
    C (.own s.h.length (xs++ys)) (s.h++[.front e k (xs.length+ys.length)])->
    ∃p w' G' q h',(Builtin.append_ #[T,U] ty #[u,v]).run P w= .ok p w'/\bV G.N G w G' w'/\G.N<=G'.N/\bW G' w' h'/\aH G' w' p q/\C q h':=by
    intro xs hp hf nS hm hb hC;obtain⟨a1,a2,a3,a4⟩:=Oi hi hp hf e k;obtain⟨p,w',G',r1,r2,r3,r4,r5⟩:=aaU (P:=P) (ty:=ty) a3 fU jD VO jQ CI kE hk (n:=s.h.length) (xs:=xs) (ys:=ys) (by simp) a4 nS (hr.keep a1.S a1.cell) hs hm hb;rw[ae7]at r4;exact⟨p,w',G',_,_,r1,a1.trans (r2.less a2),aqj a2 r3,r4,r5,hC⟩
   split at h2
   ·rename_i m xs
    split at h2
    ·rename_i e2 k2 len hm
     obtain⟨fO,rfl,nS,pW,hb,hC⟩:=bX.1 h2;simp only[ap3,beq_iff_eq]at fO;obtain⟨rfl,rfl⟩:=fO;obtain⟨p,w',G',r1,r2,r3,r4,r5⟩:=aaU (P:=P) (ty:=ty) hi fU jD VO jQ CI kE hk hm hu nS hr hs pW hb;exact⟨p,w',G',_,_,r1,r2,r3,r4,r5,hC⟩
    ·exact h2.elim
   ·have:=hu.val;subst this;obtain⟨pW,hb,hC⟩:=h2;exact fresh [] Fe ⟨none,rfl⟩ (λ_ h=>by cases h) (by simpa using pW) (by simpa using hb) (by simpa using hC)
   ·rename_i xs
    obtain⟨nS,pW,hb,hC⟩:=h2;cases hu with
    |full _ hp hf=>exact fresh xs hp hf nS pW hb hC
   ·exact h2.elim
  ·exact h.elim
 ·exact h.elim
end
theorem U1(off:Nat):∀(l:aqP aqT)(k:Nat)(cs:Array aqT),((l.zipIdx k).foldl (λcs(p:aqT×Nat)=>cs.setIfInBounds (off+p.2) p.1) cs).size=cs.size/\
 ∀i,off+k+l.length<=cs.size->((l.zipIdx k).foldl (λcs(p:aqT×Nat)=>cs.setIfInBounds (off+p.2) p.1) cs)[i]?=if off+k<=i/\i<off+k+l.length then l[i-(off+k)]? else cs[i]?
 |[],k,cs=>⟨rfl,λi _=>by
    have h:¬(off+k<=i/\i<off+k+([]:aqP aqT).length):=by simp
    rw[if_neg h];rfl⟩
 |u::l,k,cs=>by
  obtain⟨J,h2⟩:=U1 off l (k+1) (cs.setIfInBounds (off+k) u);simp only[List.zipIdx_cons,List.foldl_cons];refine⟨by rw[J];simp,λi hi=> ?_⟩;simp only[ap4]at hi ⊢;rw[h2 i (by simp;omega)];by_cases ha:off+(k+1)<=i/\i<off+(k+1)+l.length
  ·rw[if_pos ha,if_pos ⟨by omega,by omega⟩];rw[show i-(off+k)=i-(off+(k+1))+1 by omega,aqC]
  ·rw[if_neg ha];by_cases hb:i=off+k
   ·subst hb;rw[if_pos ⟨aqc _,by omega⟩,Nat.sub_self,List.getElem?_cons_zero,Array.getElem?_setIfInBounds_self_of_lt (by omega)]
   ·rw[if_neg (by omega),Array.getElem?_setIfInBounds_ne (Ne.symm hb)]
section
variable {P:aqS} {G:Gh} {w:aqU}
structure Row(G:Gh)(w:World)(vs:Array Value)(cs:List AV):Prop where
 len:vs.size=cs.length
 rel:∀(i:Nat)(u:Value)(c:AV),vs[i]?=some u->cs[i]?=some c->aH G w u c
 one:∀(i:Nat)(u:Value),vs[i]?=some u->u.oneCell'=true
theorem amt{vs us:Array aqT}{cs ys:aqP AV}(h:Row G w vs cs)(h':Row G w us ys){off:Nat}(hb:off+ys.length<=cs.length):
 Row G w (us.zipIdx.foldl (λcs(p:aqT×Nat)=>cs.setIfInBounds (off+p.2) p.1) vs) (ji cs off ys):=by
 have e:us.zipIdx.foldl (λcs(p:aqT×Nat)=>cs.setIfInBounds (off+p.2) p.1) vs=(us.toList.zipIdx 0).foldl (λcs(p:aqT×Nat)=>cs.setIfInBounds (off+p.2) p.1) vs:=by
  rw[<-Array.foldl_toList,Array.toList_zipIdx]
 obtain⟨J,h2⟩:=U1 off us.toList 0 vs;rw[<-e]at J h2;have hl:us.toList.length=ys.length:=by rw[aqy,h'.len]
 have hle:off+0+us.toList.length<=vs.size:=by rw[hl,h.len];omega
 have hs:∀i,(ji cs off ys)[i]?=if off+0<=i/\i<off+0+us.toList.length then ys[i-off]? else cs[i]?:=λi=>by
  unfold ji;rw[aqi];by_cases ha:i<off
  ·rw[aqb (by simp;omega),List.getElem?_take_of_lt ha,if_neg (by omega)]
  ·rw[aqh (by simp;omega)];simp only[List.length_take];rw[Nat.min_eq_left (by omega)];by_cases hb:i-off<ys.length
   ·rw[aqb hb,if_pos (by omega)]
   ·rw[aqh (by omega),List.getElem?_drop,if_neg (by omega),show off+ys.length+(i-off-ys.length)=i by omega]
 refine⟨by rw[J,DU _ _ _ hb,h.len],λi u c hu hc=> ?_,λi u hu=> ?_⟩
 ·rw[h2 i hle]at hu;rw[hs]at hc;split at hu
  ·rename_i hp
   rw[if_pos hp]at hc;exact h'.rel _ _ _ (by rw[<-aqo];exact hu) hc
  ·rename_i hp
   rw[if_neg hp]at hc;exact h.rel _ _ _ hu hc
 ·rw[h2 i hle]at hu;split at hu
  ·exact h'.one _ _ (by rw[<-aqo];exact hu)
  ·exact h.one _ _ hu
theorem aH.ab6{u:aqT}{x:AV}(h:aH G w u x)(hb:x.jN=true):Row G w u.cells x.cells:=by
 obtain⟨J,h2⟩:=h.cells hb;refine⟨J,λi v c hv hc=>(h2 i v c hv hc).1,λi v hv=> ?_⟩;have aN:i<x.cells.length:=by rw[<-J];exact(aqg.1 hv).1
 exact(h2 i v _ hv (ap5 aN)).2
theorem TO(place:Nat->aqR (Nat×Nat))(places:aqP (Nat×Nat))(hp:∀i pl,places[i]?=some pl->place i=some pl):∀(ps:aqP (Nat×AV))(qs:aqP (Nat×aqT))(cs cC:aqP AV)(vs:Array aqT),Row G w vs cs->
 qs.length=ps.length->(∀(i:Nat)(p:Nat×AV)(q:Nat×aqT),ps[i]?=some p->qs[i]?=some q->q.1=p.1/\aH G w q.2 p.2)->(ps.all λp=>p.2.jN)=true->qh places cs ps=some cC->
 ∃gh,Instr.fill place vs qs=some gh/\Row G w gh cC
 |[],[],cs,cC,vs,h,_,_,_,hf=>by
  simp only[qh,Option.some.injEq]at hf;subst hf;exact⟨vs,rfl,h⟩
 |[],_::_,_,_,_,_,hl,_,_,_=>by simp at hl
 |_::_,[],_,_,_,_,hl,_,_,_=>by simp at hl
 |(j,x)::ps,(j',u)::qs,cs,cC,vs,h,hl,hr,hb,hf=>by
  obtain⟨e1,e2⟩:=hr 0 (j,x) (j',u) rfl rfl;simp only at e1 e2;subst e1;simp only[aqL,ap3]at hb;unfold qh at hf;split at hf
  ·rename_i off k FK
   rw[cond_eq_ite]at hf;split at hf
   ·rename_i hc
    simp only[ap3,beq_iff_eq,dh]at hc;have o9:=e2.ab6 hb.1;obtain⟨gh,J,h2⟩:=TO place places hp ps qs _ cC _ (amt h o9 (by rw[hc.1];exact hc.2)) (by simpa using hl) (λi p q hp hq=>hr (i+1) p q (by simpa using hp) (by simpa using hq)) hb.2 hf;refine⟨gh,?_,h2⟩;unfold Instr.fill;rw[hp _ _ FK];have h3:¬(u.cells.size≠k||decide (off+u.cells.size>vs.size))=true:=by
     rw[o9.len,hc.1,h.len];simp;exact hc.2
    simp only[h3];exact J
   ·cases hf
  ·cases hf
theorem adI{z:Array aqT}(h:z.toList.all Value.oneCell'=true):z.all (·.oneCell')=true:=by
 rw[aqr]at h;exact Array.all_eq_true_iff_forall_mem.2 λu hu=>h u (Array.mem_toList_iff.2 hu)
theorem anF(z:aqT)(h:z.cells.all (·.oneCell')=true):Row G w z.cells (z.cells.toList.map λu=> .d (.v u)):=by
 refine⟨by simp,λi u c hu hc=> ?_,λi u hu=>Array.all_eq_true_iff_forall_mem.1 h u (Array.mem_of_getElem? hu)⟩;rw[ap8,aqo,hu]at hc;cases hc
 exact .d (.v u)
theorem acj:∀(fs:aqP Field)(ps:aqP (Nat×Nat))(w:aqU),C9 P fs=some ps->(fs.mapM (m:=Sem) λf=>do pure (f.offset,<-sizeOf f.type)).run P w= .ok ps w
 |[],ps,w,h=>by simp [C9]at h;subst h;simp
 |f::fs,ps,w,h=>by
  unfold C9 at h;simp only[List.mapM_cons,Option.bind_eq_bind,Option.bind_eq_some_iff,Option.map_eq_some_iff,Option.pure_def,Option.some.injEq]at h;obtain⟨p,⟨k,hk,rfl⟩,qs,hq,rfl⟩:=h;have ih:=acj fs qs w hq;simp only[List.mapM_cons,Sem.run_bind,mN hk,Sem.run_pure,Result.andThen_ok,ih]
theorem ai8{T:Nat}{ps:aqP (Nat×AV)}{qs:Array (Nat×aqT)}{C:AV->Prop}(hl:qs.toList.length=ps.length)
 (hr:∀(i:Nat)(p:Nat×AV)(q:Nat×aqT),ps[i]?=some p->qs.toList[i]?=some q->q.1=p.1/\aH G w q.2 p.2) (h:yU P T ps C):∃u y,(Instr.build T qs).run P w= .ok u w/\aH G w u y/\C y:=by
 unfold yU at h;split at h
 ·rename_i places z LZ hz
  obtain⟨fs,hT,FK⟩:∃fs,P.underlying T=some (.struct fs)/\C9 P fs.toList=some places:=by
   unfold Oo at LZ;split at LZ
   ·exact⟨_,by assumption,LZ⟩
   ·cases LZ
  ·split at h
   ·rename_i cs hf
    obtain⟨fO,hC⟩:=bX.1 h;simp only[ap3]at fO;obtain⟨hb,jK⟩:=fO;have jK:=adI jK;have m5:(fs.mapM (m:=Sem) λf=>do pure (f.offset,<-sizeOf f.type)).run P w= .ok places.toArray w:=by
     rw[Array.mapM_eq_mapM_toList];have:=acj fs.toList places w FK;have e:(Functor.map List.toArray (fs.toList.mapM (m:=Sem) λf=>do pure (f.offset,<-sizeOf f.type)):Sem _)=(fs.toList.mapM (m:=Sem) λf=>do pure (f.offset,<-sizeOf f.type))>>=λl=>pure l.toArray:=rfl;rw[e,Sem.run_bind,this];rfl
    obtain⟨gh,J,h2⟩:=TO (λi=>places.toArray[i]?) places (λi pl h=>by simpa using h) ps qs.toList _ cs z.cells (anF (G:=G) (w:=w) z jK) hl hr hb hf;refine⟨.agg gh, .agg cs,?_, .agg gh cs h2.len h2.rel,hC⟩;unfold Instr.build;simp only[Sem.run_bind,EZ hz,Result.andThen_ok,run_underlying hT,m5,J,Sem.run_pure]
   ·exact h.elim
 ·exact h.elim
theorem UE{T:Nat}(h:BW P T=true):P.underlying T=some .bool:=by
 unfold BW at h;split at h
 ·assumption
 ·cases h
theorem IK{T:Nat}{k:IntKind}(h:rk P T=some k):P.underlying T=some (.int k):=by
 unfold rk at h;split at h
 ·cases h;assumption
 ·cases h
theorem aaL{t off:Nat}{vs:Array aqT}{u:aqT}(ha:mJ P t=some false)(hu:vs[off]?=some u):(part t vs off).run P w= .ok u w:=by
 unfold part;rw[Sem.run_bind,EJ ha w];simp [hu]
theorem am0{t:Nat}{u v:aqT}{x y:AV}{b:Bool}(d:Nat)(hu:aH G w u x)(hv:aH G w v y)(h:Dv P t x y=some b):(Op.equalIn (d+1) t u v).run P w= .ok b w:=by
 unfold Dv at h;split at h
 ·have e1:=hu.val;have e2:=hv.val;subst e1;subst e2
  rename_i k a k' b'
  cases hc:yC k k'&&(rk P t).isSome with
  |false=>rw[hc]at h;cases h
  |true=>
   rw[hc]at h;cases h;rw[ap3,NL]at hc;obtain⟨rfl,hc⟩:=hc;obtain⟨k2,hk⟩:=Option.isSome_iff_exists.1 hc;exact run_equalIn_int w d t k k2 a b' (IK hk)
 ·have e1:=hu.val;have e2:=hv.val;subst e1;subst e2;cases hc:iD P t with
  |false=>rw[hc]at h;cases h
  |true=>rw[hc]at h;cases h;rw[<-Sx,<-Sx];exact run_equalIn_string w d t _ _ (sN hc)
 ·have e1:=hu.val;have e2:=hv.val;subst e1;subst e2;cases hc:BW P t with
  |false=>rw[hc]at h;cases h
  |true=>rw[hc]at h;cases h;exact run_equalIn_bool w d t _ _ (UE hc)
 ·cases h
theorem adO{t off k:Nat}{vs:Array aqT}(ha:mJ P t=some true)(hk:gx P t=some k):(part t vs off).run P w= .ok (.agg (vs.extract off (off+k))) w:=by
 unfold part;rw[Sem.run_bind,EJ ha w];simp [mN hk]
theorem abd{us:Array aqT}{xs:aqP AV}{off k:Nat}(hx:us.size=xs.length)(hb:off+k<=xs.length)(hu:∀(i:Nat)(u:aqT)(c:AV),us[i]?=some u->xs[i]?=some c->aH G w u c):
 (us.extract off (off+k)).size=((xs.drop off).take k).length/\∀(i:Nat)(u:aqT)(c:AV),(us.extract off (off+k))[i]?=some u->((xs.drop off).take k)[i]?=some c->aH G w u c:=by
 refine⟨by simp;omega,λi u c J h2=> ?_⟩;rw[List.getElem?_take]at h2;split at h2
 ·next hi=>
  rw[List.getElem?_drop]at h2;rw[Array.getElem?_extract]at J;split at J
  ·exact hu _ _ _ J h2
  ·cases J
 ·cases h2
theorem MX{sub:TypeId->aqP AV->aqP AV->aqR Bool}(d:Nat)
 (vQ:∀(T:Nat)(us vs:Array aqT)(xs ys:aqP AV)(b:Bool),us.size=xs.length->vs.size=ys.length->(∀(i:Nat)(u:aqT)(c:AV),us[i]?=some u->xs[i]?=some c->aH G w u c)->(∀(i:Nat)(u:aqT)(c:AV),vs[i]?=some u->ys[i]?=some c->aH G w u c)->sub T xs ys=some b->(Op.equalIn (d+1) T (.agg us) (.agg vs)).run P w= .ok b w)
 {us vs:Array aqT} {xs ys:aqP AV} (hx:us.size=xs.length) (hy:vs.size=ys.length)
 (hu:∀(i:Nat)(u:aqT)(c:AV),us[i]?=some u->xs[i]?=some c->aH G w u c) (hv:∀(i:Nat)(u:aqT)(c:AV),vs[i]?=some u->ys[i]?=some c->aH G w u c):
 ∀(fs:aqP Field)(b:Bool),B3 P sub fs xs ys=some b->(Op.eqFields (d+1) us vs fs).run P w= .ok b w
 |[],b,h=>by cases h;simp [Op.eqFields]
 |f::fs,b,h=>by
  unfold B3 at h;cases hn:f.name== "_" with
  |true=>rw[hn]at h;cases h
  |false=>
   rw[hn]at h;simp only[cond_false]at h;have cG:f.name≠ "_" :=by simpa using hn
   split at h
   ·next e1=>
    split at h
    ·next x y e2 e3=>
     split at h
     ·next a c e4 e5=>
      cases h
      have l1:f.offset<us.size:=by rw[hx];exact(ap1.1 e2).1
      have l2:f.offset<vs.size:=by rw[hy];exact(ap1.1 e3).1
      have g1:=aqn l1;have g2:=aqn l2;simp only[Op.eqFields,if_pos cG,Sem.run_bind,aaL (w:=w) e1 g1,aaL (w:=w) e1 g2,Result.andThen_ok,am0 d (hu _ _ _ g1 e2) (hv _ _ _ g2 e3) e4];cases a with
      |true=>simp only[Bool.not_true,Bool.false_eq_true,if_false,Bool.true_and];exact MX d vQ hx hy hu hv fs c e5
      |false=>simp
     ·cases h
    ·cases h
   ·next e1=>
    split at h
    ·next k e2=>
     cases nk:ct (f.offset+k) xs.length&&ct (f.offset+k) ys.length with
     |false=>rw[nk]at h;cases h
     |true=>
      rw[nk]at h;rw[ap3,dh,dh]at nk;simp only[cond_true]at h;split at h
      ·next a c e4 e5=>
       cases h
       obtain⟨p1,p2⟩:=abd hx nk.1 hu;obtain⟨q1,q2⟩:=abd hy nk.2 hv;simp only[Op.eqFields,if_pos cG,Sem.run_bind,adO (w:=w) e1 e2,Result.andThen_ok,vQ _ _ _ _ _ a p1 q1 p2 q2 e4];cases a with
       |true=>simp only[Bool.not_true,Bool.false_eq_true,if_false,Bool.true_and];exact MX d vQ hx hy hu hv fs c e5
       |false=>simp
      ·cases h
    ·cases h
   ·cases h
theorem Xj:∀(n d:Nat)(T:Nat)(us vs:Array aqT)(xs ys:aqP AV)(b:Bool),us.size=xs.length->vs.size=ys.length->(∀(i:Nat)(u:aqT)(c:AV),us[i]?=some u->xs[i]?=some c->aH G w u c)->(∀(i:Nat)(u:aqT)(c:AV),vs[i]?=some u->ys[i]?=some c->aH G w u c)->MF P n T xs ys=some b->(Op.equalIn (d+n+1) T (.agg us) (.agg vs)).run P w= .ok b w
 |0,_,_,_,_,_,_,_,_,_,_,_,h=>by cases h
 |n+1,d,T,us,vs,xs,ys,b,hx,hy,hu,hv,h=>by
  unfold MF at h;split at h
  ·next fs hT=>
   cases hc:P.stoodInHeld T with
   |true=>rw[hc]at h;cases h
   |false=>
    rw[hc]at h;have hf:P.fieldsOf T=fs:=by unfold Program.fieldsOf;rw[hT]
    rw[show d+(n+1)+1=(d+n+1)+1 by omega,run_equalIn_struct w (d+n+1) T us vs (by rw[hf];exact hT) hc,hf];exact MX (d+n) (λT' Qu gh Qi Qc b'=>Xj n d T' Qu gh Qi Qc b') hx hy hu hv _ b h
  ·cases h
theorem alA{T:Nat}{us vs:Array aqT}{xs ys:aqP AV}{b:Bool}(hx:us.size=xs.length)(hy:vs.size=ys.length)
 (hu:∀(i:Nat)(u:aqT)(c:AV),us[i]?=some u->xs[i]?=some c->aH G w u c) (hv:∀(i:Nat)(u:aqT)(c:AV),vs[i]?=some u->ys[i]?=some c->aH G w u c) (h:Kq P T xs ys=some b):
 P.eqGuardType P.depth T=false/\(Op.equalIn 10000 T (.agg us) (.agg vs)).run P w= .ok b w:=by
 unfold Kq at h;split at h
 ·next fs hT=>
  cases hc:P.stoodInHeld T||P.eqGuardType P.depth T with
  |true=>rw[hc]at h;cases h
  |false=>
   rw[hc]at h;rw[aqO]at hc;refine⟨hc.2,?_⟩;have hf:P.fieldsOf T=fs:=by unfold Program.fieldsOf;rw[hT]
   rw[run_equalIn_struct w 9999 T us vs (by rw[hf];exact hT) hc.1,hf];exact MX 9998 (λT' Qu gh Qi Qc b'=>Xj 4 9994 T' Qu gh Qi Qc b') hx hy hu hv _ b h
 ·cases h
theorem ajF{op:BinOp}{x y:AV}{u v:aqT}{T:Nat}{X Y:Operand}{C:AV->Prop}(hu:aH G w u x)(hv:aH G w v y)(h:xI P T op x y C):
 ∃r z,(do eqGuard op T X Y u v;binOp op T u v:Sem aqT).run P w= .ok r w/\aH G w r z/\C z:=by
 unfold xI at h;split at h
 ·rename_i k a k' b
  have e1:=hu.val;have e2:=hv.val;subst e1;subst e2;have hg:(eqGuard op T X Y (.int k a) (.int k' b)).run P w= .ok () w:=by unfold eqGuard;cases op<;>simp
  rw[Sem.run_bind,hg];simp only[Result.andThen_ok];split at h
  ·rename_i z hq
   obtain⟨uF,hp,hC⟩:=bX.1 h;rw[NL]at uF;subst uF;refine⟨z,_,?_, .d (.v z),hC⟩;cases op<;>simp [PQ]at hq<;>subst hq<;>simp [binOp,Op.intDiv,hp]
  ·split at h
   ·rename_i z hq
    refine⟨z,_,?_, .d (.v z),h.2⟩;have hb:¬b<0:=by omega
    cases op<;>simp [OP]at hq<;>subst hq<;>simp [binOp,Op.shift,hb]
   ·split at h
    ·rename_i z hq
     obtain⟨uF,hC⟩:=bX.1 h;rw[NL]at uF;subst uF;refine⟨z,_,?_, .d (.v z),hC⟩;cases op<;>simp [OL]at hq<;>subst hq<;>simp [binOp,Op.intArith,Op.intCmp,Op.intBits]
    ·exact h.elim
 ·rename_i a b
  have e1:=hu.val;have e2:=hv.val;subst e1;subst e2;have hg:(eqGuard op T X Y (.string a) (.string b)).run P w= .ok () w:=by unfold eqGuard;cases op<;>simp
  rw[Sem.run_bind,hg];simp only[Result.andThen_ok];split at h
  ·rename_i z hq
   refine⟨z,_,?_, .d (.v z),h⟩;cases op<;>simp [O7]at hq<;>subst hq<;>simp [binOp,Op.stringOp,Sx]
  ·split at h
   ·refine⟨_,_,?_, .d (.v _),h.2⟩;have hm:¬(((a.size+b.size:Nat):Int)>IntKind.i64.max):=by
     have:=h.1;unfold maxLen at this;have e:IntKind.i64.max=9223372036854775807:=by decide
     rw[e];omega
    simp only[binOp,Op.stringOp];rw[if_neg hm];rfl
   ·exact h.elim
 ·rename_i a b
  have e1:=hu.val;have e2:=hv.val;subst e1;subst e2;have hg:(eqGuard op T X Y (.bool a) (.bool b)).run P w= .ok () w:=by unfold eqGuard;cases op<;>simp
  rw[Sem.run_bind,hg];simp only[Result.andThen_ok];split at h
  ·rename_i z hq
   obtain⟨hT,hC⟩:=bX.1 h;have hT:=UE hT;refine⟨z,_,?_, .d (.v z),hC⟩;have hb:=run_equalIn_bool (P:=P) w 9999 T a b hT;cases op<;>simp [QK]at hq<;>subst hq<;>simp [binOp,Op.equal,Op.maxDepth,hb]
  ·exact h.elim
 ·rename_i xs ys
  cases hu with
  |agg us _ FD DH=>
   cases hv with
   |agg vs _ zo Ez=>
    split at h
    ·next b hb=>
     obtain⟨hg,he⟩:=alA FD zo DH Ez hb;rw[Sem.run_bind,run_eqGuard_agg w op T X Y us vs hg];simp only[Result.andThen_ok];split at h
     ·next z hz=>
      refine⟨z,_,?_, .d (.v z),h⟩;cases op<;>simp [x8]at hz<;>subst hz
      ·rw[run_eql_struct,he];rfl
      ·rw[run_neq_struct,he];rfl
     ·exact h.elim
    ·exact h.elim
 ·exact h.elim
theorem ao3{op:UnOp}{x:AV}{u:aqT}{C:AV->Prop}(hu:aH G w u x)(h:xB op x C):∃r z,(Op.unary op u).run P w= .ok r w/\aH G w r z/\C z:=by
 unfold xB at h;split at h
 ·rename_i v
  have e:=hu.val;subst e;split at h
  ·rename_i z hq
   refine⟨z,_,?_, .d (.v z),h⟩;unfold J4 at hq;split at hq
   ·cases hq;simp [Op.unary]
   ·cases hq;simp [Op.unary,Op.intArith]
   ·cases hq;simp [Op.unary,Op.intBits]
   ·cases hq
  ·exact h.elim
 ·exact h.elim
theorem ain{T:Nat}(h:Dw P T=true):P.underlying T=some (.int .u8):=by
 unfold Dw at h;split at h
 ·assumption
 ·cases h
theorem aj7{a b:Nat}{x:AV}{u:aqT}{C:AV->Prop}(hu:aH G w u x)(h:xq P a b x C):∃r z,(convert a b u).run P w= .ok r w/\aH G w r z/\C z:=by
 unfold xq at h;split at h
 ·rename_i k2 m
  have e:=hu.val;subst e;split at h
  ·rename_i k1 k J h2
   refine⟨_,_,?_, .d (.v _),h⟩;simp [convert,run_underlying (IK J),run_underlying (IK h2),Conv.intToInt]
  ·exact h.elim
 ·rename_i s
  have e:=hu.val;subst e;obtain⟨fO,hC⟩:=bX.1 h;rw[ap3]at fO;refine⟨_,_,?_, .d (.v _),hC⟩;simp [convert,run_underlying (sN fO.1),run_underlying (sN fO.2)]
 ·split at h
  ·rename_i xs e k mr hT
   obtain⟨fO,ns,rfl,hC⟩:=bX.1 h;rw[ap3]at fO;refine⟨_,_,?_, .d (.v _),hC⟩;obtain⟨A,bb,o,cc,k',us,rfl,hA,lC,yk,hJ,hS,mR⟩:=(hu.list mr).qt;rw[run_convert_bytes_string w a b e A _ cc (j9 hT).1 (ain fO.1) (sN fO.2)];simp only[ap6]at hA lC hS ⊢;cases ns with
   |nil=>
    cases A with
    |none=>rfl
    |some ad=>
     have hl:=run_loadCells_list (P:=P) w ad (([]:aqP Int).map (Value.int .u8)) (λj v hj=>by simp at hj);simp only[List.map_nil,aqd]at hl;have:=run_bytesToString (P:=P) w ad 0 cc [] (by simpa using hl);exact this
   |cons n0 ns=>
    have JX:=hA (by simp);subst JX;have j5:k'=1:=(hJ [.v (.int .u8 n0)] (by simp)).symm;subst j5;have hl:=run_loadCells_list (P:=P) w ⟨bb,o,none⟩ ((n0::ns).map (Value.int .u8)) (λj v hj=>by
     have aN:=(ap1.1 hj).1;rw[ap6]at aN;have J:=(hS j 0 aN (by omega)).2.1;rw[ap8,ap5 aN]at hj;cases hj
     have h2:=mR j 0 [.v (.int .u8 ((n0::ns)[j]))] (.v (.int .u8 ((n0::ns)[j]))) (by rw[ap8,ap5 aN];rfl) rfl;have h3:us j 0= .int .u8 ((n0::ns)[j]):=by
      generalize us j 0=q at h2;cases h2;rfl
     rw[mm];rw[h3]at J
     simpa using J)
    rw[ap6]at hl;rw[run_bytesToString w _ _ cc _ hl];have key:∀(l:aqP Int)(r:aqQ),l.foldl (λr n=>r.push (UInt8.ofNat n.toNat)) r=⟨r.data++(l.map λn=>UInt8.ofNat n.toNat).toArray⟩:=by
      intro l
      induction l with
      |nil=>intro r;simp
      |cons x l ih=>intro r;rw[List.foldl_cons,ih];simp [ByteArray.push]
    rw[key];have CR:ByteArray.empty.data= #[]:=rfl;rw[CR];simp
  ·exact h.elim
theorem TW{T f off k:Nat}{g:Bool}(h:th P T f=some (off,k,g)):∃fs fd,P.underlying T=some (.struct fs)/\fs[f]?=some fd/\gx P fd.type=some k/\0<k/\mJ P fd.type=some g/\fd.offset=off:=by
 unfold th at h;split at h
 ·rename_i fs hT
  split at h
  ·rename_i fd hf
   split at h
   ·rename_i k' g' J h2
    cases h
    exact⟨fs,fd,hT,hf,J,Nat.succ_pos _,h2,rfl⟩
   ·cases h
  ·cases h
 ·cases h
theorem NU{T f off k o b:Nat}{g:Bool}(h:th P T f=some (off,k,g)):(Instr.fieldAt T (.pointer (some ⟨b,o,none⟩)) f).run P w= .ok (.pointer (some ⟨b,o+off,none⟩)) w:=by
 obtain⟨fs,fd,J,h2,h3,h4,h5,rfl⟩:=TW h;simp [Instr.fieldAt,run_underlying J,h2,Instr.sureAddr,fieldPlace,mN h3,Nat.ne_of_gt h4,mm]
theorem amV{T f:Nat}{x:AV}{u:aqT}{C:AV->Prop}(hu:aH G w u x)(h:yK P T x f C):∃r z,(Instr.field T u f).run P w= .ok r w/\aH G w r z/\C z:=by
 unfold yK at h;split at h
 ·rename_i off k cs hT
  obtain⟨hl,hC⟩:=bX.1 h;rw[dh]at hl;obtain⟨fs,fd,J,h2,h3,h4,h5,rfl⟩:=TW hT;cases hu with
  |agg vs _ hlen hr=>
   refine⟨.agg (vs.extract fd.offset (fd.offset+k)),_,?_, .agg _ _ ?_ λi u c hu hc=> ?_,hC⟩
   ·simp [Instr.field,run_underlying J,h2,asAgg,part,EJ h5,mN h3]
   ·simp;omega
   ·rw[Array.getElem?_extract]at hu;rw[List.getElem?_take]at hc;split at hc
    ·rw[List.getElem?_drop]at hc;split at hu
     ·exact hr _ u c hu hc
     ·cases hu
    ·cases hc
 ·rename_i off k cs hT
  obtain⟨fs,fd,J,h2,h3,h4,h5,rfl⟩:=TW hT;split at h
  ·rename_i c hc
   cases hu with
   |agg vs _ hlen hr=>
    have aN:fd.offset<vs.size:=by rw[hlen];exact(ap1.1 hc).1
    refine⟨vs[fd.offset],c,?_,hr _ _ c (aqn aN) hc,h⟩;simp [Instr.field,run_underlying J,h2,asAgg,part,EJ h5,aqn aN]
  ·exact h.elim
 ·exact h.elim
end
def Gh.pZ(G:Gh)(b m:Nat):Gh:={G with S:=λc o=>G.S c o\/(c=b/\o<m)}
theorem XJ{G:Gh}{w:aqU}{h:aqP aq}(hi:bW G w h)(ob:Obj)(m:Nat):bV G.N G w (G.pZ w.heap.size m) (w.alloc ob)/\bW (G.pZ w.heap.size m) (w.alloc ob) h:=by
 have hE:bV G.N G w (G.pZ w.heap.size m) (w.alloc ob):=
  ⟨by simp,λ_ _ h=> .inl h,λb _ h=>World.cell?_alloc_lt _ _ _ (hi.S _ _ h),λ_ _=>rfl,λ_ _=> .inl ⟨rfl,rfl⟩,im rfl,λb hb=>Below.heap_alloc w ob b (hi.z b hb),rfl,rfl,rfl,λb o hs=>hs.imp id fun⟨e,_⟩ hz=>aqF _ (hi.z _ (e▸hz))⟩
 refine⟨hE,hi.len,λb hb=>aqp (hi.z b hb) hE.size,λb o hs=> ?_,λn B hB=> ?_,λm n b J h2=>hi.inj m n b J h2,hi.gl.keep hE⟩
 ·rcases hs with hs|⟨rfl,_⟩
  ·exact aqp (hi.S b o hs) hE.size
  ·simp
 ·refine eu.keep (hi.lt hB) hE (aqc _) ⟨rfl,rfl,rfl⟩ (λb hb=> ?_) (hi.dc n B hB);have aN:=hi.ib (n:=n) (b:=b) ((dJ hB).trans hb);refine⟨Below.heap_alloc w _ _ aN,λo jX hs=> ?_⟩;rcases hs with hs|⟨e,_⟩
  ·exact jX hs
  ·omega
theorem Yh(k:Nat):∀(n o i:Nat)(pl:Nat×Nat),(vU k o n)[i]?=some pl->pl=(o+i*k,k)
 |0,_,_,_,h=>by simp [vU]at h
 |n+1,o,0,pl,h=>by simp [vU]at h;rw[<-h];simp
 |n+1,o,i+1,pl,h=>by
  have:=Yh k n (o+k) i pl (by simpa [vU]using h);rw[this,Nat.add_mul];simp;omega
theorem aau(l:aqP AV):∀n,(sX n l).length=n*l.length
 |0=>by simp [sX]
 |n+1=>by rw[sX,ap2,aau l n,Nat.add_mul];omega
theorem Wa(l:aqP AV):∀(n i:Nat),i<n*l.length->(sX n l)[i]?=l[i%l.length]?
 |0,i,h=>by omega
 |n+1,i,h=>by
  rw[sX];by_cases hi:i<l.length
  ·rw[aqb hi,Nat.mod_eq_of_lt hi]
  ·rw[aqh (by omega),Wa l n _ (by rw[Nat.add_mul]at h;omega),<-Nat.mod_eq_sub_mod (by omega)]
theorem amj(z:aqT){k:Nat}(hz:z.cells.size=k)(n:Nat):sX n (z.cells.toList.map λu=> .d (.v u))=(List.range (n*k)).map λi=> .d (.v (z.cells[i%z.cells.size]!)):=by
 have hl:(z.cells.toList.map λu=>AV.d (.v u)).length=k:=by simp [hz]
 refine List.ext_getElem? λi=> ?_;by_cases hi:i<n*k
 ·rw[Wa _ _ _ (by rw[hl];exact hi),ap8,ap8,List.getElem?_range hi,hl,hz,aqo];have hk:0<k:=Nat.pos_of_ne_zero λe=>by subst e;simp at hi
  have aN:i%k<z.cells.size:=by rw[hz];exact Nat.mod_lt _ hk
  rw[aqn aN];simp only[Option.map_some];rw[getElem!_pos z.cells (i%k) aN]
 ·rw[aqx (by rw[aau,hl];omega),aqx (by simp;omega)]
theorem YF:∀{ps:aqP (Nat×AV)}{places:aqP (Nat×Nat)}{cs cC:aqP AV},qh places cs ps=some cC->cC.length=cs.length
 |[],_,_,_,h=>by simp only[qh,Option.some.injEq]at h;rw[h]
 |(i,x)::ps,places,cs,cC,h=>by
  unfold qh at h;split at h
  ·rw[cond_eq_ite]at h;split at h
   ·rename_i hc
    simp only[ap3,beq_iff_eq,dh]at hc;rw[YF h,DU _ _ _ (by rw[hc.1];exact hc.2)]
   ·cases h
  ·cases h
section
variable {P:aqS} {r:aqR Nat} {n N0:Nat} {G:Gh} {w:aqU} {a:Act} {s:St} {o:Oper} {K:St->Prop} {Q:Exit->Act->aqU->Prop}
theorem apB{T len:Nat}{h:aqP aq}{ps:aqP (Nat×AV)}{qs:Array (Nat×aqT)}{C:AV->Prop}(hi:bW G w h)(hl:qs.toList.length=ps.length)
 (hr:∀(i:Nat)(p:Nat×AV)(q:Nat×aqT),ps[i]?=some p->qs.toList[i]?=some q->q.1=p.1/\aH G w q.2 p.2) (hC:xc P T len ps C):
 ∃u w' G' y,(Instr.buildSlice T len qs).run P w= .ok u w'/\bV G.N G w G' w'/\G.N<=G'.N/\bW G' w' h/\aH G' w' u y/\C y:=by
 unfold xc at hC;split at hC
 ·rename_i e k hT
  obtain⟨fU,gk⟩:=j9 hT;split at hC
  ·rename_i z hz
   split at hC
   ·rename_i cs hf
    split at hC
    ·rename_i ds sq
     obtain⟨fO,hC⟩:=bX.1 hC;simp only[ap3,beq_iff_eq,dh,aqy]at fO;obtain⟨⟨⟨⟨hk,YI⟩,kE⟩,jK⟩,hb⟩:=fO;have jK:=adI jK;rw[amj z kE]at hf;have FK:=Yh k;obtain⟨z0,yX⟩:∃z0:Array aqT,z0=if len*k=0 then #[]else z.cells:=⟨_,rfl⟩
     obtain⟨zr,EP⟩:∃zr:Array aqT,zr=(Array.range (len*k)).map (z0[·%z0.size]!):=⟨_,rfl⟩;have o9:Row G w zr ((List.range (len*k)).map λi=> .d (.v (z.cells[i%z.cells.size]!))):=by
      have F1:∀i,i<len*k->z0[i%z0.size]! =z.cells[i%z.cells.size]! :=λi hi=>by rw[yX,if_neg (by omega)]
      refine⟨by rw[EP];simp,λi u c hu hc=> ?_,λi u hu=> ?_⟩
      ·rw[EP,Array.getElem?_map]at hu;rw[ap8]at hc;by_cases hi:i<len*k
       ·rw[List.getElem?_range hi]at hc;rw[Array.getElem?_range,if_pos hi]at hu;simp only[Option.map_some,Option.some.injEq]at hu hc;subst hu;subst hc;rw[F1 i hi];exact .d (.v _)
       ·rw[aqx (by simp;omega)]at hc;cases hc
      ·rw[EP,Array.getElem?_map]at hu;by_cases hi:i<len*k
       ·rw[Array.getElem?_range,if_pos hi]at hu;simp only[Option.map_some,Option.some.injEq]at hu;subst hu;rw[F1 i hi];have aN:i%z.cells.size<z.cells.size:=Nat.mod_lt _ (by omega);rw[getElem!_pos z.cells _ aN];exact Array.all_eq_true_iff_forall_mem.1 jK _ (Array.getElem_mem _)
       ·rw[Array.getElem?_eq_none (by simp;omega)]at hu;cases hu
     obtain⟨gh,J,h2⟩:=TO (λi=>some (i*k,k)) (vU k 0 len) (λi pl h=>by
      have:=FK len 0 i pl h;rw[this];simp) ps qs.toList _ cs zr o9 hl hr hb hf
     obtain⟨d1,d2⟩:=Mq sq;have gp:cs.length=len*k:=by
      have:=YF hf;rw[this];simp
     have yG:gh.size=len*k:=by rw[h2.len,gp]
     obtain⟨i1,i2⟩:=XJ hi (.cells gh e) (len*k);have wY:Rd G.S w k (oJ k len ds) gh.toList:=abC (by rw[d1,gp]) (by rw[aqy,yG]) (λu hu=>by
      obtain⟨j,hj⟩:=List.mem_iff_getElem?.1 hu;exact h2.one j u (by rw[<-aqo];exact hj)) (λi u d hu hd=>by
      have aN:i<cs.length:=by rw[<-d1];exact(ap1.1 hd).1
      exact(h2.rel i u _ (by rw[<-aqo];exact hu) (ap5 aN)).K6 (d2 i _ d (ap5 aN) hd))
     have hp:dw (G.pZ w.heap.size (len*k)).S (w.alloc (.cells gh e)) (.slice (some ⟨w.heap.size,0,none⟩) len len) (.sl (oJ k len ds)):=by
      have:=(wY.keep i1.S i1.cell).Ft w.heap.size len (by rw[sG];exact aqc _) (by have:=Nat.le_mul_of_pos_right len hk;simp only[maxLen];omega) (λo ho=> .inr ⟨rfl,by rw[sG]at ho;exact ho⟩) (λo u hu=>by
       rw[World.cell?_alloc_new];rw[<-aqo];exact hu)
      rwa [sG]at this
     refine⟨_,_,_,_,?_,i1,aqc _,i2, .full _ hp ⟨some ⟨w.heap.size,0,none⟩,by rw[sG]⟩,hC⟩;have jX:¬(len*k>2^24):=by omega
     unfold Instr.buildSlice;simp only[Sem.run_bind,run_underlying fU,Result.andThen_ok,mN gk,jX,if_false];by_cases h0:len*k=0
     ·rw[if_pos h0]at yX;subst yX;subst EP;simp [h0]at J;simp [h0,J,newRow]
     ·rw[if_neg h0]at yX;subst yX;subst EP;simp [h0,EZ hz,J,newRow]
    ·exact hC.elim
   ·exact hC.elim
  ·exact hC.elim
 ·exact hC.elim
end
section
variable {P:aqS} {G:Gh} {w:aqU} {h:aqP aq}
theorem B9(k s:aqQ)(d:D)(l:aqP (aqQ×D)):lK ((k,d)::l) s=if k=s then some d else lK l s:=by
 have e1:lK ((k,d)::l) s=bif bL k==bL s then some d else lK l s:=rfl;rw[e1];by_cases e:k=s
 ·subst e;rw[if_pos rfl];simp
 ·rw[if_neg e];have:(bL k==bL s)=false:=by rw[beq_eq_false_iff_ne];exact λhe=>e (JO he)
  rw[this];rfl
theorem Dc{T k e:TypeId}(h:vX P T=some (k,e)):P.underlying T=some (.map k e):=by
 unfold vX at h;split at h
 ·next k' e' hT=>cases h;exact hT
 ·cases h
theorem agI(hi:bW G w h):bV G.N G w (G.c7 w.heap.size) (w.alloc (.map #[] 0))/\bW (G.c7 w.heap.size) (w.alloc (.map #[] 0)) (h++[.map []])/\aH (G.c7 w.heap.size) (w.alloc (.map #[] 0)) (.map (some w.heap.size)) (.mp h.length):=by
 have hE:=tP G w hi.z hi.S (.map #[] 0);have hN:G.N<=(G.c7 w.heap.size).N:=Nat.le_succ _;have gy:(G.c7 w.heap.size).aR h.length=w.heap.size:=by simp [Gh.c7,hi.len]
 have lG:∀n(B:aq),n<G.N->B.ee (G.c7 w.heap.size) n=B.ee G n:=λn B hn=>by
  cases B<;>simp [aq.ee,Gh.c7,Nat.ne_of_lt hn]
 have fD:∀n,n<G.N->bU (h++[.map []]) (G.c7 w.heap.size) n=bU h G n:=λn hn=>by
  have aN:n<h.length:=by rw[hi.len];exact hn
  unfold bU;rw[aqb aN,ap5 aN];exact lG n _ hn
 have tt:bU (h++[.map []]) (G.c7 w.heap.size) h.length=some w.heap.size:=by
  rw[dJ (B:= .map []) (by simp)];exact congrArg some gy
 refine⟨hE,⟨by simp [Gh.c7,hi.len],λb hb=>aqp (hi.z b hb) hE.size,λb o hs=>aqp (hi.S b o hs) hE.size,λn B hB=> ?_,λm n b hm hn=> ?_,hi.gl.keep hE⟩,?_⟩
 ·by_cases hn:n<h.length
  ·rw[aqb hn]at hB;have eX:n<G.N:=hi.len▸hn;exact eu.keep eX hE hN ⟨rfl,rfl,rfl⟩ (λb hb=>⟨Below.heap_alloc w _ _ (hi.ib (n:=n) ((dJ hB).trans hb)),λo h=>h⟩) (hi.dc n B hB)
  ·have kM:n=h.length:=by
    have:=(ap1.1 hB).1;simp at this;omega
   subst kM;simp at hB;subst hB;exact⟨by rw[gy];exact λhz=>aqF _ (hi.z _ hz),λo hs=>by rw[gy]at hs;exact aqF _ (hi.S _ _ hs), #[],0,by rw[gy];exact World.alloc_heap_new w _,
    ⟨by simp,MapKept.stamped_empty 0,λe he=>(by simp at he),λs d hs=>(by cases hs),by simp,λi e he=>(by simp at he),rfl⟩⟩
 ·have key:∀n b,bU (h++[.map []]) (G.c7 w.heap.size) n=some b->(n<G.N/\bU h G n=some b)\/(n=h.length/\b=w.heap.size):=λn b hn=>by
   by_cases aN:n<G.N
   ·exact .inl ⟨aN,by rw[<-fD n aN];exact hn⟩
   ·by_cases e:n=h.length
    ·subst e;rw[tt]at hn;cases hn;exact .inr ⟨rfl,rfl⟩
    ·rw[vw (aqx (by simp;have:=hi.len;omega))]at hn;cases hn
  rcases key m b hm with⟨_,gu⟩|⟨rfl,rfl⟩<;>rcases key n _ hn with⟨_,eX⟩|⟨rfl,hb⟩
  ·exact hi.inj m n b gu eX
  ·have:=hi.ib gu;omega
  ·have:=hi.ib eX;omega
  ·rfl
 ·have:=aH.mp (G:=G.c7 w.heap.size) (w:=w.alloc (.map #[] 0)) h.length (by simp [Gh.c7,hi.len])
  rwa [gy]at this
theorem akG{v:aqT}{d:D}(h:dw G.S w v d):aH G w v (MG d):=by
 cases d with
 |v x=>exact .d h
 |sl xs=>exact .d h
 |ag ds=>
  cases h with
  |ag vs _ hl h=>
   refine .agg vs _ (by rw[ap6];exact hl) λi u c hu hc=> ?_;rw[ap8]at hc;obtain⟨d,hd,rfl⟩:=Option.map_eq_some_iff.1 hc;exact .d (h i u d hu hd)
theorem aen(z:aqT):aH G w z (B4 z):=by
 unfold B4;split
 ·next vs=>
  refine .agg vs _ (by rw[ap6];exact aqy.symm) λi u c hu hc=> ?_;rw[ap8,aqo,hu]at hc;cases hc
  exact .d (dw.v u).vD
 ·exact .d (.v _)
theorem aH.toM{u:aqT}{x:AV}{d:D}(h:aH G w u x)(hx:x.Pv=some d):dw G.S w u d:=by
 unfold AV.Pv at hx;split at hx
 ·next cs=>
  obtain⟨ds,sq,rfl⟩:=Option.map_eq_some_iff.1 hx;obtain⟨J,h2⟩:=Mq sq;cases h with
  |agg vs _ hl hc=>
   refine .ag vs ds (hl.trans J.symm) λi v e hv he=> ?_;have hi:i<cs.length:=by rw[<-J];exact(ap1.1 he).1
   exact(hc i v _ hv (ap5 hi)).K6 (h2 i _ e (ap5 hi) he)
 ·exact h.K6 hx
theorem tB{s:aqQ}:MapKept.IsKey .string (.string s):=trivial
theorem afm{T k e:TypeId}{z:aqT}{n:Nat}{kv:aqP (aqQ×D)}{s:aqQ}{ok:Bool}(hi:bW G w h)(hT:vX P T=some (k,e))(hz:iQ P e=some z)(hk:iD P k=true)(hn:h[n]?=some (.map kv)):
 ∃v,(Instr.lookup T (.map (some (G.aR n))) (.string s) ok).run P w= .ok v w/\aH G w v (sa ok z (lK kv s)):=by
 obtain⟨_,_,es,clock,hh,hm⟩:=hi.dc n _ hn;have o6:∀x∈es.toList,MapKept.IsKey .string x.key:=λx hx=>by
  obtain⟨s',d,J,_⟩:=hm.Ae x hx;rw[J];exact tB
 have qp:=sN hk;have one:∀(v:aqT)(d:AV)(b:Bool),aH G w v d->aH G w (if ok then .tuple #[v, .bool b]else v) (bif ok then .bj [d, .d (.v (.bool b))]else d):=λv d b hp=>by
  cases ok with
  |false=>exact hp
  |true=>
   refine .bj #[v, .bool b] _ rfl λi u c hu hc=> ?_
   match i with
   |0=>simp at hu hc;subst hu;subst hc;exact hp
   |1=>simp at hu hc;subst hu;subst hc;exact .d (.v _)
   |i+2=>simp at hu
 rcases MapKept.findNow_spec (tB (s:=s)) es.toList 0 o6 with⟨J,h2⟩|⟨j,e0,J,h2,h3⟩
 ·have agb:lK kv s=none:=by
   cases hq:lK kv s with
   |none=>rfl
   |some d=>
    obtain⟨x,hx,nS⟩:=hm.all s d hq;exact absurd nS (h2 x hx)
  refine⟨if ok then .tuple #[z, .bool false]else z,?_,?_⟩
  ·simp [Instr.lookup,run_underlying (Dc hT),MapKept.run_getObj_map hh,MapKept.run_checkKey qp tB,MapKept.run_findKey qp J,EZ hz,Result.andThen]
  ·rw[agb];have:=one z _ false (aen z);unfold sa;exact this
 ·have jY:e0∈es.toList:=aqe h2;obtain⟨s',d,k1,k2,k3⟩:=hm.Ae e0 jY;rw[h3]at k1;cases k1
  refine⟨if ok then .tuple #[e0.val, .bool true]else e0.val,?_,?_⟩
  ·simp [Instr.lookup,run_underlying (Dc hT),MapKept.run_getObj_map hh,MapKept.run_checkKey qp tB,MapKept.run_findKey qp J,Result.andThen]
  ·rw[k2];have:=one e0.val _ true (akG k3);unfold sa;exact this
theorem adZ{T k e:TypeId}{n:Nat}{kv:aqP (aqQ×D)}{s:aqQ}{v:aqT}{d:D}(hi:bW G w h)(hT:vX P T=some (k,e))(hk:iD P k=true)(hn:h[n]?=some (.map kv))(hv:dw G.S w v d)(hlen:kv.length<maxLen):
 ∃w',(Instr.mapUpdate T (.map (some (G.aR n))) (.string s) v).run P w= .ok () w'/\bV G.N G w G w'/\bW G w' (h.set n (.map ((s,d)::kv))):=by
 obtain⟨hZ,hS,es,clock,hh,hm⟩:=hi.dc n _ hn;have o6:∀x∈es.toList,MapKept.IsKey .string x.key:=λx hx=>by
  obtain⟨s',d,J,_⟩:=hm.Ae x hx;rw[J];exact tB
 have qp:=sN hk;have fin:∀(xb:Array MapEntry)(CS:Nat)(w':aqU),w'=ChangeMaps.setBlock w (G.aR n) (.map xb CS)->ur G.S w xb CS ((s,d)::kv)->bV G.N G w G w'/\bW G w' (h.set n (.map ((s,d)::kv))):=by
  intro xb CS w' fe gu;have jt:∀b,b≠G.aR n->w'.heap[b]?=w.heap[b]?:=λb hb=>by rw[fe];exact ChangeMaps.heap_setBlock_other hh _ hb
  have Oh:w'.heap[G.aR n]?=some (.map xb CS):=by rw[fe];exact ChangeMaps.heap_setBlock_same hh _
  have iA:w'.heap.size=w.heap.size:=by rw[fe];simp [ChangeMaps.setBlock]
  have iu:∀b o,G.S b o->w'.cell? ⟨b,o,none⟩=w.cell? ⟨b,o,none⟩:=λb o hs=>World.cell?_of_block (jt b (λe=>hS o (e▸hs)));have hE:bV G.N G w G w':=⟨by rw[iA];exact aqc _,λ_ _ h=>h,iu,λ_ _=>rfl,λ_ _=> .inl ⟨rfl,rfl⟩,im rfl,λb hb=>jt b (λe=>hZ (e▸hb)),by rw[fe];rfl,by rw[fe];rfl,by rw[fe];rfl,λ_ _ h=> .inl h⟩;refine⟨hE,?_⟩;have mf:bU h G n=some (G.aR n):=dJ hn;have m6:(h.set n (.map ((s,d)::kv)))[n]?=some (.map ((s,d)::kv)):=by rw[aqu (ap1.1 hn).1]
  have fp:∀m,m≠n->(h.set n (.map ((s,d)::kv)))[m]?=h[m]?:=λm hm=>by rw[aqz (Ne.symm hm)]
  have eJ:∀m,bU (h.set n (.map ((s,d)::kv))) G m=bU h G m:=λm=>by
   by_cases e:m=n
   ·subst e;rw[dJ m6,dJ hn];rfl
   ·unfold bU;rw[fp m e]
  refine⟨by rw[List.length_set];exact hi.len,λb hb=>aqp (hi.z b hb) hE.size,λb o hs=>aqp (hi.S b o hs) hE.size,λm B hB=> ?_,λm m' b J h2=>hi.inj m m' b (by rw[<-eJ];exact J) (by rw[<-eJ];exact h2),hi.gl.keep hE⟩;by_cases e:m=n
  ·subst e;rw[m6]at hB;cases hB
   exact⟨hZ,hS,xb,CS,Oh,gu.keep (λ_ _ h=>h) iu⟩
  ·rw[fp m e]at hB;have cG:∀b,bU h G m=some b->b≠G.aR n:=λb hb eb=>e (hi.inj m n b hb (by rw[eb];exact mf));exact eu.keep (hi.lt hB) hE (aqc _) ⟨rfl,rfl,rfl⟩ (λb hb=>⟨jt b (cG _ ((dJ hB).trans hb)),λo h=>h⟩) (hi.dc m B hB)
 rcases MapKept.findNow_spec (tB (s:=s)) es.toList 0 o6 with⟨J,h2⟩|⟨j,e0,J,h2,h3⟩
 ·have gu:ur G.S w (es.push ⟨.string s,v,clock⟩) (clock+1) ((s,d)::kv):=by
   refine⟨by have:=hm.len;simp;omega,MapKept.stamped_push hm.stamped h2,λx hx=> ?_,λs' d' cE=> ?_,by have:=hm.len;simp;omega,λi e he=> ?_,by rw[hm.Eh];simp⟩
   ·simp only[Array.toList_push,aqD,List.mem_singleton]at hx;rcases hx with hx|rfl
    ·obtain⟨s',d',k1,k2,k3⟩:=hm.Ae x hx;refine⟨s',d',k1,?_,k3⟩;rw[B9,if_neg (λe=>h2 x hx (by rw[k1,e]))];exact k2
    ·exact⟨s,d,rfl,by rw[B9,if_pos rfl],hv⟩
   ·rw[B9]at cE;simp only[Array.toList_push,aqD,List.mem_singleton];split at cE
    ·next e=>subst e;exact⟨_, .inr rfl,rfl⟩
    ·obtain⟨x,hx,hk⟩:=hm.all s' d' cE;exact⟨x, .inl hx,hk⟩
   ·rw[Array.getElem?_push]at he;split at he
    ·next ei=>cases he;rw[ei];exact hm.Eh
    ·exact hm.born i e he
  obtain⟨f1,f2⟩:=fin _ _ _ rfl gu;refine⟨_,?_,f1,f2⟩;simp [Instr.mapUpdate,run_underlying (Dc hT),MapKept.run_getObj_map hh,MapKept.run_checkKey qp tB,MapKept.run_findKey qp J,MapKept.run_setObj_map _ hh,Result.andThen,ChangeMaps.setBlock]
 ·have hj:es[j]?=some e0:=by simpa using h2
  have zl:j<es.toList.length:=(ap1.1 h2).1;have ahB:∀e',es[j]?=some e'->({e' with key:= .string s,val:=v}:MapEntry).key=e'.key:=λe' pV=>by rw[hj]at pV;cases pV;exact h3.symm
  have MV:(es.modify j (λe'=>{e' with key:= .string s,val:=v})).toList=es.toList.set j {e0 with key:= .string s,val:=v}:=by
   rw[Array.toList_modify];exact ChangeMaps.modify_eq_set _ _ _ _ h2
  have ku:(es.toList.map (·.key)).Nodup:=hm.stamped.2.2;have gu:ur G.S w (es.modify j (λe'=>{e' with key:= .string s,val:=v})) clock ((s,d)::kv):=by
   refine⟨by simpa using hm.size,MapKept.stamped_modify hm.stamped _ _ (λ_ _=>rfl) (λe' _ pV=>ahB e' pV),λx hx=> ?_,λs' d' cE=> ?_,by have:=hm.len;simp;omega,λi e he=> ?_,by rw[hm.Eh];simp⟩
   ·rw[MV]at hx;obtain⟨i,dY,ex⟩:=List.getElem_of_mem hx;rw[List.getElem_set]at ex;split at ex
    ·rw[<-ex];exact⟨s,d,rfl,by rw[B9,if_pos rfl],hv⟩
    ·next cG=>
     have jQ:i<es.toList.length:=by simpa using dY
     have nx:x∈es.toList:=by rw[<-ex];exact List.getElem_mem jQ
     obtain⟨s',d',k1,k2,k3⟩:=hm.Ae x nx;refine⟨s',d',k1,?_,k3⟩;rw[B9,if_neg ?_]
     ·exact k2
     ·intro xb;have a1:(es.toList.map (·.key))[i]?=some (.string s):=by rw[ap8,ap5 jQ,ex];simp [k1,xb]
      have a2:(es.toList.map (·.key))[j]?=some (.string s):=by rw[ap8,h2];simp [h3]
      have hii:i<(es.toList.map (·.key)).length:=by simpa using jQ
      exact cG ((List.getElem?_inj hii ku).1 (a1.trans a2.symm)).symm
   ·rw[MV];rw[B9]at cE;split at cE
    ·next e=>subst e;exact⟨_,List.mem_iff_getElem?.2 ⟨j,aqu zl⟩,rfl⟩
    ·next cG=>
     obtain⟨x,hx,hk⟩:=hm.all s' d' cE;obtain⟨i,dY,ex⟩:=List.getElem_of_mem hx;refine⟨x,List.mem_iff_getElem.2 ⟨i,by simpa using dY,?_⟩,hk⟩;rw[List.getElem_set];split
     ·next e=>
      subst e;exfalso;have:es.toList[j]?=some x:=by rw[ap5 dY,ex]
      rw[this]at h2;cases h2
      rw[h3]at hk;injection hk with hk;exact cG hk
     ·exact ex
   ·rw[Array.getElem?_modify]at he;split at he
    ·next ei=>
     subst ei;rw[hj]at he;cases he
     exact hm.born _ e0 hj
    ·exact hm.born i e he
  obtain⟨f1,f2⟩:=fin _ _ _ rfl gu;refine⟨_,?_,f1,f2⟩;simp [Instr.mapUpdate,run_underlying (Dc hT),MapKept.run_getObj_map hh,MapKept.run_checkKey qp tB,MapKept.run_findKey qp J,hj,h3,MapKept.run_keyThatStays tB,MapKept.run_setObj_map _ hh,Result.andThen,ChangeMaps.setBlock]
end
set_option linter.unusedVariables false
set_option linter.unusedSimpArgs false
section
variable {P:aqS} {G:Gh} {w:aqU} {h:aqP aq}
theorem HP{w':aqU}(hi:bW G w h){n:Nat}{B B':aq}(hn:h[n]?=some B)(vF:∀G':Gh,B.ee G' n=G'.ow n)(Ps:∀G':Gh,B'.ee G' n=G'.ow n)(S:Nat->Nat->Prop)(v:aqT)(len:Nat)(ow:aqR Nat)
 (hE:bV G.N G w (G.grow n S v len ow) w') (hg:∀g,ow=some g->(g=w.heap.size\/G.ow n=some g)/\g<w'.heap.size)
 (hS:∀b o,S b o->G.S b o\/ow=some b) (jt:∀b,b<w.heap.size->ow≠some b->w'.heap[b]?=w.heap[b]?)
 (hB:eu (G.grow n S v len ow) w' n B'):bW (G.grow n S v len ow) w' (h.set n B'):=by
 have fp:∀m,m≠n->(h.set n B')[m]?=h[m]?:=λm hm=>by rw[aqz (Ne.symm hm)]
 have m6:(h.set n B')[n]?=some B':=by rw[aqu (ap1.1 hn).1]
 have lG:∀m(C:aq),m≠n->C.ee (G.grow n S v len ow) m=C.ee G m:=λm C hm=>by
  cases C<;>simp [aq.ee,Gh.grow,hm]
 have eJ:∀m,m≠n->bU (h.set n B') (G.grow n S v len ow) m=bU h G m:=λm hm=>by
  unfold bU;rw[fp m hm];cases h[m]? with
  |none=>rfl
  |some C=>exact lG m C hm
 have Gj:bU (h.set n B') (G.grow n S v len ow) n=ow:=by rw[dJ m6,Ps];simp [Gh.grow]
 have xX:∀m b,m≠n->ow=some b->bU h G m≠some b:=λm b hm ho hb=>by
  rcases (hg b ho).1 with hg|hg
  ·have:=hi.ib hb;omega
  ·exact hm (hi.inj m n b hb ((dJ hn).trans ((vF G).trans hg)))
 refine⟨by rw[List.length_set];exact hi.len,λb hb=>aqp (hi.z b hb) hE.size,λb o hs=> ?_,λm C hm=> ?_,λm m' b J h2=> ?_,hi.gl.keep hE⟩
 ·rcases hS b o hs with hs|hs
  ·exact aqp (hi.S b o hs) hE.size
  ·exact(hg b hs).2
 ·by_cases em:m=n
  ·subst em;rw[m6]at hm;cases hm;exact hB
  ·rw[fp m em]at hm;refine eu.keep (hi.lt hm) hE (aqc _) ⟨by simp [Gh.grow,em],by simp [Gh.grow,em],by simp [Gh.grow,em]⟩ (λb hb=> ?_) (hi.dc m C hm);have hr:bU h G m=some b:=(dJ hm).trans hb;have cG:ow≠some b:=λe'=>xX m b em e' hr;refine⟨jt _ (hi.ib hr) cG,λo jX hs=> ?_⟩;rcases hS _ o hs with hs|hs
   ·exact jX hs
   ·exact cG hs
 ·by_cases e1:m=n<;>by_cases e2:m'=n
  ·rw[e1,e2]
  ·subst e1;rw[eJ m' e2]at h2;rw[Gj]at J;exact absurd h2 (xX m' b e2 J)
  ·subst e2;rw[eJ m e1]at J;rw[Gj]at h2;exact absurd J (xX m b e1 h2)
  ·rw[eJ m e1]at J;rw[eJ m' e2]at h2;exact hi.inj m m' b J h2
def Gh.fm(G:Gh)(v:aqT)(len:Nat)(ow:aqR Nat):Gh:=
 {G with N:=G.N+1,sg:=λn=>if n=G.N then v else G.sg n,fl:=λn=>if n=G.N then len else G.fl n,ow:=λn=>if n=G.N then ow else G.ow n}
theorem Sc{w':aqU}(hi:bW G w h)(B:aq)(vF:∀(G':Gh) n,B.ee G' n=G'.ow n)(v:aqT)(len:Nat)(ow:aqR Nat)(hw:(∀b,b<w.heap.size->w'.heap[b]?=w.heap[b]?)/\w.heap.size<=w'.heap.size/\w'.os=w.os/\w'.tape=w.tape/\w'.output=w.output)
 (how:∀g,ow=some g->w.heap.size<=g)
 (hB:eu (G.fm v len ow) w' G.N B):bV G.N G w (G.fm v len ow) w'/\bW (G.fm v len ow) w' (h++[B]):=by
 have cG:∀n,n<G.N->n≠G.N:=λn hn=>Nat.ne_of_lt hn;have hE:bV G.N G w (G.fm v len ow) w':=⟨hw.2.1,λ_ _ h=>h,λb o hs=>World.cell?_of_block (hw.1 b (hi.S b o hs)),λ_ _=>rfl,λn hn=> .inl ⟨by simp [Gh.fm,cG n hn],by simp [Gh.fm,cG n hn]⟩,im rfl,λb hb=>hw.1 b (hi.z b hb),hw.2.2.1,hw.2.2.2.1,hw.2.2.2.2,λ_ _ h=> .inl h⟩;have hN:G.N<=(G.fm v len ow).N:=Nat.le_succ _;have lG:∀n(C:aq),n<G.N->C.ee (G.fm v len ow) n=C.ee G n:=λn C hn=>by
  cases C<;>simp [aq.ee,Gh.fm,Nat.ne_of_lt hn]
 have key:∀n b,bU (h++[B]) (G.fm v len ow) n=some b->(n<G.N/\bU h G n=some b)\/(n=G.N/\ow=some b):=λn b hb=>by
  by_cases hn:n<h.length
  ·unfold bU at hb;rw[aqb hn,ap5 hn]at hb;exact .inl ⟨hi.len▸hn,by unfold bU;rw[ap5 hn,<-hb];exact(lG n _ (hi.len▸hn)).symm⟩
  ·by_cases en:n=h.length
   ·subst en;rw[dJ (B:=B) (by simp),vF]at hb;exact .inr ⟨hi.len,by simpa [Gh.fm,hi.len]using hb⟩
   ·rw[vw (aqx (by simp;omega))]at hb;cases hb
 refine⟨hE,by simp [Gh.fm,hi.len],λb hb=>aqp (hi.z b hb) hw.2.1,λb o hs=>aqp (hi.S b o hs) hw.2.1,λn C hC=> ?_,λm n b J h2=> ?_,hi.gl.keep hE⟩
 ·by_cases hn:n<h.length
  ·rw[aqb hn]at hC;have eX:n<G.N:=hi.len▸hn;exact eu.keep eX hE hN ⟨by simp [Gh.fm,cG n eX],by simp [Gh.fm,cG n eX],by simp [Gh.fm,cG n eX]⟩ (λb hb=>⟨hw.1 b (hi.ib ((dJ hC).trans hb)),λo h=>h⟩) (hi.dc n C hC)
  ·have kM:n=h.length:=by
    have:=(ap1.1 hC).1;simp at this;omega
   subst kM;simp at hC;subst hC;rw[hi.len];exact hB
 ·rcases key m b J with⟨_,a1⟩|⟨rfl,a1⟩<;>rcases key n b h2 with⟨_,b1⟩|⟨rfl,b1⟩
  ·exact hi.inj m n b a1 b1
  ·have:=hi.ib a1;have:=how b b1;omega
  ·have:=hi.ib b1;have:=how b a1;omega
  ·rfl
theorem aH.vK{n o len L k:Nat}{e:TypeId}{cs:aqP (aqP AV)}{u:aqT}(hi:bW G w h)(hn:h[n]?=some (.vec e k cs))(hL:cs.length=L)(hv:aH G w u (.vec n o len L k)):U9 (G.sg n) u o len L k:=by
 have hb:=(hi.dc n _ hn).1;cases hv with|vec _ _ _ _ _ J h2 h3 h4=>exact h4 (by rw[<-hL,hb])
theorem aH.VI{n i j L k:Nat}{e:TypeId}{k':Nat}{cs:aqP (aqP AV)}{u:aqT}(hi:bW G w h)(hn:h[n]?=some (.vec e k' cs))(hL:cs.length=L)(hv:aH G w u (.dB n i j L k)):Y2 (G.sg n) u i j L k:=by
 have hb:=(hi.dc n _ hn).1;cases hv with|dB _ _ _ _ _ J h2 h3 h4=>exact h4 (by rw[<-hL,hb])
theorem Cw{n:Nat}{e k:Nat}{cs:aqP (aqP AV)}(hi:bW G w h)(hn:h[n]?=some (.vec e k cs))(cG:cs≠ []):∃(g cap:Nat)(cur:Array aqT),G.ow n=some g/\G.sg n= .slice (some ⟨g,0,none⟩) cs.length cap/\¬G.Z g/\w.heap[g]?=some (.cells cur e (0,0))/\cs.length<=cap/\cap<=maxLen/\cur.size=cap*k/\(∀o,¬G.S g o)/\
        ∀(i j:Nat)(c:aqP AV)(x:AV)(u:aqT),cs[i]?=some c->c[j]?=some x->cur[i*k+j]?=some u->aH G w u x:=by
 obtain⟨_,_,_,h4|h4⟩:=hi.dc n _ hn
 ·exact absurd h4.2.1 cG
 ·exact h4
theorem GJ{n:Nat}{e k:Nat}{cs:aqP (aqP AV)}(hi:bW G w h)(hn:h[n]?=some (.vec e k cs)):∀c∈cs,c.length=k:=(hi.dc n _ hn).2.2.1
theorem m9{i k L j:Nat}(hi:i<L)(hj:j<k):i*k+j<L*k:=by
 have:(i+1)*k<=L*k:=Nat.mul_le_mul_right k hi;rw[Nat.add_mul]at this;omega
theorem Ig{i k j:Nat}(hj:j<k):(i*k+j)/ k=i/\(i*k+j)%k=j:=by
 have hk:0<k:=by omega
 exact⟨by rw[Nat.add_comm,Nat.add_mul_div_right _ _ hk,Nat.div_eq_of_lt hj,aql],by rw[Nat.add_comm,Nat.add_mul_mod_self_right,Nat.mod_eq_of_lt hj]⟩
theorem amy{i i' j j' k:Nat}(hj:j<k)(iM:j'<k)(e:i*k+j=i'*k+j'):i=i'/\j=j':=by
 have J:=Ig (i:=i) hj;have h2:=Ig (i:=i') iM;exact⟨by rw[<-J.1,<-h2.1,e],by rw[<-J.2,<-h2.2,e]⟩
theorem anW{t n i j L k:Nat}{e:TypeId}{cs:aqP (aqP AV)}{c:aqP AV}{x:AV}{v:aqT}(hi:bW G w h)(hn:h[n]?=some (.vec e k cs))(hL:cs.length=L)(hc:cs[i]?=some c)(hx:OG P t c j=some x)(hv:aH G w v (.dB n i j L k)):
 ∃u,(Instr.loadAt t v).run P w= .ok u w/\aH G w u x:=by
 have j0:i<cs.length:=(ap1.1 hc).1;have X9:c.length=k:=GJ hi hn c (aqe hc);obtain⟨g,cap,cur,r1,r2,r3,r4,r5,r6,r7,r8,r9⟩:=Cw hi hn (λe=>by subst e;simp at j0);obtain⟨_,g',GL,p1,p2⟩:=hv.VI hi hn hL;rw[r2]at p1;cases p1
 have J:∀q,q<c.length->w.cell? ⟨g,i*k+q,none⟩=some (cur.getD (i*k+q) undef):=λq hq=>by
  rw[cell_of_row w g _ cur e (0,0) r4];have:i*k+q<cur.size:=by
    rw[r7];exact aqp (m9 j0 (by omega)) (Nat.mul_le_mul_right k r5)
  simp [Array.getD,this]
 have h2:∀(q:Nat)(y:AV),c[q]?=some y->aH G w (cur.getD (i*k+q) undef) y:=λq y hq=>by
  have QJ:=(ap1.1 hq).1;have aN:i*k+q<cur.size:=by
   rw[r7];exact aqp (m9 j0 (by omega)) (Nat.mul_le_mul_right k r5)
  have e1:cur[i*k+q]?=some (cur.getD (i*k+q) undef):=by simp [Array.getD,aN]
  exact r9 i q c y _ hc hq e1
 have key:=aci (P:=P) (G:=G) (w:=w) (t:=t) (C:=(·=x)) g (i*k) c j (λq=>cur.getD (i*k+q) undef) J h2 (by
  unfold OG at hx;revert hx;cases mJ P t with
  |none=>intro hx;cases hx
  |some ag=>
   cases gx P t with
   |none=>cases ag<;>(intro hx;cases hx)
   |some kk=>
    cases ag with
    |true=>
     simp only;intro hx;cases hb:ct (j+kk) c.length with
     |false=>rw[hb]at hx;cases hx
     |true=>rw[hb]at hx;cases hx;exact rfl
    |false=>
     simp only;intro hx;rw[hx])
 obtain⟨u,y,k1,k2,rfl⟩:=key;refine⟨u,?_,k2⟩;rw[p2];simp [Instr.loadAt,Instr.sureAddr,k1]
theorem ahr{t b off k:Nat}{T:TypeId}{v:aqT}{vs:Array aqT}(hh:w.heap[b]?=some (.cells vs T (0,0)))(ht:gx P t=some k)(hk:v.cells.size=k)(jK:∀u∈v.cells.toList,u.oneCell'=true)(hb:off+k<=vs.size):
 (storeVar t ⟨b,off,none⟩ v).run P w= .ok () (w.setRow b (vs.toList.take off++v.cells.toList++vs.toList.drop (off+v.cells.toList.length)).toArray):=by
 obtain⟨i,jD,jQ⟩:=ZG ht;have lT:=run_storeCells_at P b off T v.cells.toList 0 vs w hh (by rw[aqy,hk];simpa using hb) jK;simp only[Nat.add_zero]at lT;unfold storeVar;simp only[sizeOf,typeInfo,Sem.run_bind,hk];simp [jD,jQ,lT]
theorem W0(vs:Array aqT)(us:aqP aqT)(off q:Nat)(hb:off+us.length<=vs.size):(vs.toList.take off++us++vs.toList.drop (off+us.length)).toArray[q]?=if off<=q/\q<off+us.length then us[q-off]? else vs[q]?:=by
 rw[List.getElem?_toArray,aqi];have yG:vs.toList.length=vs.size:=aqy;by_cases J:q<off
 ·rw[aqb (by simp;omega),List.getElem?_take_of_lt J,if_neg (by omega),aqo]
 ·rw[aqh (by simp;omega)];simp only[List.length_take,yG];rw[Nat.min_eq_left (by omega)];by_cases h2:q<off+us.length
  ·rw[aqb (by omega),if_pos (by omega)]
  ·rw[aqh (by omega),List.getElem?_drop,if_neg (by omega),show off+us.length+(q-off-us.length)=q by omega,aqo]
theorem Vu(vs:Array aqT)(us:aqP aqT)(off:Nat)(hb:off+us.length<=vs.size):(vs.toList.take off++us++vs.toList.drop (off+us.length)).toArray.size=vs.size:=by
 simp only[List.size_toArray,ap2,List.length_take,List.length_drop,aqy];omega
theorem ajI(cs ys:aqP AV)(off q:Nat)(hb:off+ys.length<=cs.length):(ji cs off ys)[q]?=if off<=q/\q<off+ys.length then ys[q-off]? else cs[q]?:=by
 unfold ji;rw[aqi];by_cases J:q<off
 ·rw[aqb (by simp;omega),List.getElem?_take_of_lt J,if_neg (by omega)]
 ·rw[aqh (by simp;omega)];simp only[List.length_take];rw[Nat.min_eq_left (by omega)];by_cases h2:q<off+ys.length
  ·rw[aqb (by omega),if_pos (by omega)]
  ·rw[aqh (by omega),List.getElem?_drop,if_neg (by omega),show off+ys.length+(q-off-ys.length)=q by omega]
theorem Y6{n e k g cap:Nat}{cs cC:aqP (aqP AV)}{cur:Array aqT}{us:aqP aqT}{off:Nat}(hi:bW G w h)(hn:h[n]?=some (.vec e k cs))(gP:0<k)(r1:G.ow n=some g)(r2:G.sg n= .slice (some ⟨g,0,none⟩) cs.length cap)(r3:¬G.Z g)(r4:w.heap[g]?=some (.cells cur e (0,0)))(r5:cs.length<=cap)(r6:cap<=maxLen)(r7:cur.size=cap*k)(r8:∀o,¬G.S g o)
 (hb:off+us.length<=cur.size) (hl:cC.length=cs.length) (jF:∀c∈cC,c.length=k)
 (Aa:∀(i j:Nat)(c:aqP AV)(x:AV)(u:aqT),cC[i]?=some c->c[j]?=some x->(if off<=i*k+j/\i*k+j<off+us.length then us[i*k+j-off]? else cur[i*k+j]?)=some u->aH G w u x):
 ∃G',bV G.N G w G' (w.setRow g (cur.toList.take off++us++cur.toList.drop (off+us.length)).toArray)/\G'.N=G.N/\bW G' (w.setRow g (cur.toList.take off++us++cur.toList.drop (off+us.length)).toArray) (h.set n (.vec e k cC))/\(∀m,G'.sg m=G.sg m)/\(∀m,G'.fl m=G.fl m):=by
 obtain⟨w',fe⟩:∃w',w'=w.setRow g (cur.toList.take off++us++cur.toList.drop (off+us.length)).toArray:=⟨_,rfl⟩;rw[<-fe];have jt:∀b,b≠g->w'.heap[b]?=w.heap[b]?:=λb hb=>by rw[fe];exact setRow_other w g b _ hb
 have o9:w'.heap[g]?=some (.cells (cur.toList.take off++us++cur.toList.drop (off+us.length)).toArray e (0,0)):=by rw[fe];exact setRow_heap w g cur _ e _ r4
 have iA:w'.heap.size=w.heap.size:=by rw[fe];exact Nn w g _
 obtain⟨G',gO⟩:∃G',G'=G.grow n G.S (G.sg n) (G.fl n) (some g):=⟨_,rfl⟩;have AJ:∀m,G'.sg m=G.sg m:=λm=>by rw[gO];simp only[Gh.grow];split<;>simp_all
 have m5:∀m,G'.fl m=G.fl m:=λm=>by rw[gO];simp only[Gh.grow];split<;>simp_all
 have hE:bV G.N G w G' w':=⟨by rw[iA];exact aqc _,λb o h=>by rw[gO];exact h,λb o hs=>World.cell?_of_block (jt b (λe=>r8 o (e▸hs))),λ_ _=>by rw[gO];rfl,λm _=> .inl ⟨m5 m,AJ m⟩,im (by rw[gO];rfl) (by rw[gO];rfl),λb hb=>jt b (λe=>r3 (e▸hb)),by rw[fe];rfl,by rw[fe];rfl,by rw[fe];rfl,λb o hs=> .inl (by rw[gO]at hs;exact hs)⟩;have lS:=hi.dc n _ hn;refine⟨G',hE,by rw[gO];rfl,?_,AJ,m5⟩;subst gO;refine HP hi hn (λ_=>rfl) (λ_=>rfl) _ _ _ _ hE (λg' tn=> ?_) (λb o hs=> .inl hs) (λb _ fE=>jt b (λe=>fE (by rw[e]))) ?_
 ·cases tn;exact⟨.inr r1,by rw[iA];exact(aqg.1 r4).1⟩
 ·refine⟨by rw[m5,hl];exact lS.1,by rw[hl];exact lS.2.1,jF, .inr ⟨g,cap,_,by simp [Gh.grow],by rw[AJ,hl];exact r2,r3,o9,by rw[hl];exact r5,r6,by rw[Vu _ _ _ hb];exact r7,r8,λi j c x u hc hx hu=> ?_⟩⟩;rw[W0 _ _ _ _ hb]at hu;exact(Aa i j c x u hc hx hu).keep hE (aqc _)
theorem agh{t n i j L k:Nat}{e:TypeId}{cs:aqP (aqP AV)}{c:aqP AV}{x:AV}{v u:aqT}(hi:bW G w h)(hn:h[n]?=some (.vec e k cs))(hL:cs.length=L)(hc:cs[i]?=some c)(hv:aH G w v (.dB n i j L k))(hx:aH G w u x)(OJ:x.jN=true)(ht:gx P t=some x.cells.length)(hj:j+x.cells.length<=k)(gP:0<k):
 ∃w' G',(Instr.storeAt t v u).run P w= .ok () w'/\bV G.N G w G' w'/\G.N<=G'.N/\bW G' w' (h.set n (.vec e k (cs.set i (ji c j x.cells)))):=by
 have j0:i<cs.length:=(ap1.1 hc).1;have jF:=GJ hi hn;have X9:c.length=k:=jF c (aqe hc);obtain⟨g,cap,cur,r1,r2,r3,r4,r5,r6,r7,r8,r9⟩:=Cw hi hn (λe=>by subst e;simp at j0);obtain⟨_,g',GL,p1,p2⟩:=hv.VI hi hn hL;rw[r2]at p1;cases p1
 obtain⟨c1,c2⟩:=hx.cells OJ;have pk:u.cells.toList.length=x.cells.length:=by rw[aqy,c1]
 have jK:∀y∈u.cells.toList,y.oneCell'=true:=λy hy=>by
  obtain⟨q,hq⟩:=List.mem_iff_getElem?.1 hy;have QJ:u.cells[q]?=some y:=by rw[<-aqo];exact hq
  have hql:q<x.cells.length:=by rw[<-c1];exact(aqg.1 QJ).1
  exact(c2 q y _ QJ (ap5 hql)).2
 have mG:i*k+j+x.cells.length<=cur.size:=by
  have J:(i+1)*k<=cap*k:=Nat.mul_le_mul_right k (aqp j0 r5);rw[Nat.add_mul]at J;rw[r7];omega
 have dL:=ahr (P:=P) (off:=i*k+j) r4 ht c1 jK mG;obtain⟨G',e1,e2,e3,_⟩:=Y6 (us:=u.cells.toList) (off:=i*k+j) (cC:=cs.set i (ji c j x.cells)) hi hn gP r1 r2 r3 r4 r5 r6 r7 r8 (by rw[pk];exact mG) (by rw[List.length_set]) (λd hd=>by
     obtain⟨q,hq⟩:=List.mem_iff_getElem?.1 hd;by_cases e:i=q
     ·subst e;rw[aqu j0]at hq;cases hq
      rw[DU _ _ _ (by omega)];exact X9
     ·rw[aqz e]at hq;exact jF d (aqe hq)) (λa b d y z hd hy hz=>by
     have jE:b<k:=by
      by_cases e:i=a
      ·subst e;rw[aqu j0]at hd;cases hd
       have:=(ap1.1 hy).1;rw[DU _ _ _ (by omega)]at this;omega
      ·rw[aqz e]at hd;rw[<-jF d (aqe hd)];exact(ap1.1 hy).1
     rw[pk]at hz;by_cases e:i=a
     ·subst e;rw[aqu j0]at hd;cases hd
      rw[ajI _ _ _ _ (by omega)]at hy;by_cases hb:j<=b/\b<j+x.cells.length
      ·rw[if_pos hb]at hy;rw[if_pos (by omega),show i*k+b-(i*k+j)=b-j by omega,aqo]at hz;exact(c2 _ _ _ hz hy).1
      ·rw[if_neg hb]at hy;rw[if_neg (by omega)]at hz;exact r9 i b c y z hc hy hz
     ·rw[aqz e]at hd;rw[if_neg ?_]at hz
      ·exact r9 a b d y z hd hy hz
      ·intro hh;have:a*k+b=i*k+(a*k+b-i*k):=by omega
       exact e ((amy (i:=a) (i':=i) (j:=b) (j':=a*k+b-i*k) jE (by omega) this).1.symm))
 refine⟨_,G',?_,e1,by rw[e2];exact aqc _,e3⟩;rw[p2];simp [Instr.storeAt,Instr.sureAddr,dL]
end
section
variable {P:aqS} {G:Gh} {w:aqU} {h:aqP aq}
structure zG(G:Gh)(w:World)(k:Nat)(ys:List (List AV))(us:List Value):Prop where
 len:us.length=ys.length*k
 wid:∀c∈ys,c.length=k
 one:∀u∈us,u.oneCell'=true
 rel:∀(i j:Nat)(c:List AV)(x:AV)(u:Value),ys[i]?=some c->c[j]?=some x->us[i*k+j]?=some u->aH G w u x
theorem Pu{k tx e':Nat}{y:AV}{v:aqT}{ys:aqP (aqP AV)}(hi:bW G w h)(hv:aH G w v y)(hs:Bk h k y ys)(gP:0<k)(hT:P.underlying tx=some (.slice e')):
 ∃us,zG G w k ys us/\Src P k tx v ys.length us w:=by
 rcases hs with⟨xs,J,h2,rfl⟩|⟨n,o,len,L,e,cs,rfl,h2,h3,h4,h5⟩
 ·obtain⟨us,hr,yN⟩:=(hv.list J).src gP h2 hT;have hl:(cp xs).length=xs.length:=by unfold cp;rw[ap6]
  refine⟨us,⟨by rw[hl];exact hr.len,λc hc=> ?_,hr.one,λi j c x u hc hx hu=> ?_⟩,by rw[hl];exact yN⟩
  ·unfold cp at hc;obtain⟨d,hd,rfl⟩:=List.mem_map.1 hc;rw[ap6];exact h2 d hd
  ·unfold cp at hc;rw[ap8]at hc;cases nx:xs[i]? with
   |none=>rw[nx]at hc;cases hc
   |some d=>
    rw[nx]at hc;cases hc
    rw[ap8]at hx;cases hy:d[j]? with
    |none=>rw[hy]at hx;cases hx
    |some z=>
     rw[hy]at hx;cases hx
     obtain⟨u',a1,a2⟩:=hr.rel i j d z nx hy;rw[a1]at hu;cases hu
     exact .d a2
 ·have l9:=hv.vK hi h2 h3;obtain⟨A,c,rfl,c1,c2,c3,c4⟩:=l9.sl;have qc:ys.length=len:=by rw[h4,List.length_take,List.length_drop,h3];have:=l9.ol;omega
  by_cases h0:len=0
  ·subst h0;have:ys=[]:=List.eq_nil_of_length_eq_zero qc;subst this;refine⟨[],⟨by simp,(λ_ h=>by cases h),(λ_ h=>by cases h),λi j c x u hc=>by simp at hc⟩,?_⟩;cases A with
   |none=>exact Src.ofNil w hT c
   |some a=>exact Src.ofSlice w hT a 0 c [] (by simp) (λj u hu=>by simp at hu) (λu hu=>by cases hu)
  ·have ho:o<L:=by have:=l9.ol;omega
   obtain⟨g,cap,p1,rfl,p3⟩:=c4 ho;have cG:cs≠ []:=λe=>by subst e;simp at h3;omega
   obtain⟨g',GL,cur,r1,r2,r3,r4,r5,r6,r7,r8,r9⟩:=Cw hi h2 cG;rw[r2]at p1;cases p1
   have jF:=GJ hi h2;have iu:∀q,q<len*k->o*k+q<cur.size:=λq hq=>by
    have J:(o+len)*k<=cap*k:=Nat.mul_le_mul_right k (by have:=l9.ol;omega);rw[Nat.add_mul]at J;rw[r7];omega
   have jW:∀i,i<len->ys[i]?=cs[o+i]?:=λi dY=>by rw[h4,List.getElem?_take_of_lt dY,List.getElem?_drop]
   have jK:∀q,q<len*k->(cur.getD (o*k+q) undef).oneCell'=true:=λq hq=>by
    have Q6:q / k<len:=Nat.div_lt_of_lt_mul (by rw[Nat.mul_comm];exact hq);have hkj:q%k<k:=Nat.mod_lt _ gP;obtain⟨d,gX⟩:∃d,cs[o+q / k]?=some d:=⟨_,ap5 (by have:=l9.ol;omega)⟩;have Fk:=jF _ (aqe gX);obtain⟨x,hx⟩:∃x,d[q%k]?=some x:=⟨_,ap5 (by rw[Fk];exact hkj)⟩;have e1:(o+q / k)*k+q%k=o*k+q:=by
     rw[Nat.add_mul];have:=Nat.div_add_mod q k;rw[Nat.mul_comm]at this;omega
    have hu':cur[(o+q / k)*k+q%k]?=some (cur.getD (o*k+q) undef):=by
     rw[e1];simp [Array.getD,iu q hq]
    refine(r9 _ _ _ _ _ gX hx hu').kH ?_;have jY:d∈ys:=aqe ((jW _ Q6).trans gX);have:=h5 _ jY;rw[aqr]at this;exact this _ (aqe hx)
   refine⟨(List.range (len*k)).map λq=>cur.getD (o*k+q) undef,⟨by rw[qc];simp,λc hc=>jF c ?_,λu hu=> ?_,λi j c x u hc hx hu=> ?_⟩,?_⟩
   ·rw[h4]at hc;exact List.mem_of_mem_drop (List.mem_of_mem_take hc)
   ·obtain⟨q,hq,rfl⟩:=List.mem_map.1 hu;exact jK q (List.mem_range.1 hq)
   ·have j0:i<len:=by rw[<-qc];exact(ap1.1 hc).1
    rw[jW i j0]at hc;have Na:j<k:=by rw[<-jF c (aqe hc)];exact(ap1.1 hx).1
    have aN:i*k+j<len*k:=m9 j0 Na;rw[ap8,List.getElem?_range aN]at hu;simp only[Option.map_some,Option.some.injEq]at hu;refine r9 (o+i) j c x u hc hx ?_;rw[<-hu,show(o+i)*k+j=o*k+(i*k+j) by rw[Nat.add_mul];omega];simp [Array.getD,iu _ aN]
   ·rw[qc];refine Src.ofSlice w hT _ len c _ (by simp) (λj u hu=> ?_) (λu hu=> ?_)
    ·rw[mm,cell_of_row w g _ cur e (0,0) r4];rw[ap8]at hu;by_cases hj:j<len*k
     ·rw[List.getElem?_range hj]at hu;simp only[Option.map_some,Option.some.injEq]at hu;rw[<-hu];simp [Array.getD,iu _ hj]
     ·rw[aqx (by simp;omega)]at hu;cases hu
    ·obtain⟨q,hq,rfl⟩:=List.mem_map.1 hu;exact jK q (List.mem_range.1 hq)
theorem zG.keep{G':Gh}{w':aqU}{k:Nat}{ys:aqP (aqP AV)}{us:aqP aqT}(h:zG G w k ys us)(hE:bV G.N G w G' w')(hN:G.N<=G'.N):zG G' w' k ys us:=
 ⟨h.len,h.wid,h.one,λi j c x u J h2 h3=>(h.rel i j c x u J h2 h3).keep hE hN⟩
theorem alP{α:Type}{k:Nat}(l:aqP α)(us:aqP α)(m i j:Nat)(hl:l.length=m*k)(hj:j<k):(l++us)[i*k+j]?=if i<m then l[i*k+j]? else us[(i-m)*k+j]?:=by
 by_cases h:i<m
 ·rw[if_pos h,aqb (by rw[hl];exact m9 h hj)]
 ·have J:m*k<=i*k:=Nat.mul_le_mul_right k (by omega);rw[if_neg h,aqh (by rw[hl];omega),hl,Nat.sub_mul,show i*k+j-m*k=i*k-m*k+j by omega]
theorem QL{e k cap:Nat}{cs:aqP (aqP AV)}{cur:Array aqT}(hi:bW G w h)(J:cs.length<=cap)(h2:cap<=maxLen)(h3:cur.size=cap*k)(jF:∀c∈cs,c.length=k)(w0:aqU)(sr:w0.heap=w.heap/\w0.os=w.os/\w0.tape=w.tape/\w0.output=w.output)
 (Aa:∀(i j:Nat)(c:aqP AV)(x:AV)(u:aqT),cs[i]?=some c->c[j]?=some x->cur[i*k+j]?=some u->aH G w u x):
 ∃G',bV G.N G w G' (w0.alloc (.cells cur e))/\G.N<=G'.N/\bW G' (w0.alloc (.cells cur e)) (h++[.vec e k cs])/\∀len,len<=cs.length->aH G' (w0.alloc (.cells cur e)) (.slice (some ⟨w.heap.size,0,none⟩) len cap) (.vec h.length 0 len cs.length k):=by
 have iA:w0.heap.size=w.heap.size:=by rw[sr.1]
 have fD:(w0.alloc (.cells cur e)).heap[w.heap.size]?=some (.cells cur e (0,0)):=by rw[<-iA];exact World.alloc_heap_new w0 _
 have hold:∀b,b<w.heap.size->(w0.alloc (.cells cur e)).heap[b]?=w.heap[b]?:=λb hb=>by rw[Below.heap_alloc w0 _ b (by rw[iA];exact hb),sr.1]
 have hw:(∀b,b<w.heap.size->(w0.alloc (.cells cur e)).heap[b]?=w.heap[b]?)/\w.heap.size<=(w0.alloc (.cells cur e)).heap.size/\(w0.alloc (.cells cur e)).os=w.os/\(w0.alloc (.cells cur e)).tape=w.tape/\(w0.alloc (.cells cur e)).output=w.output:=
  ⟨hold,by simp [iA],sr.2.1,sr.2.2.1,sr.2.2.2⟩
 obtain⟨sv,m4⟩:∃sv,sv=Value.slice (some ⟨w.heap.size,0,none⟩) cs.length cap:=⟨_,rfl⟩;obtain⟨Hj,_⟩:bV G.N G w (G.fm sv cs.length (some w.heap.size)) (w0.alloc (.cells cur e))/\True:=by
  refine⟨⟨hw.2.1,λ_ _ h=>h,λb o hs=>World.cell?_of_block (hw.1 b (hi.S b o hs)),λ_ _=>rfl,λn hn=> .inl ⟨by simp [Gh.fm,Nat.ne_of_lt hn],by simp [Gh.fm,Nat.ne_of_lt hn]⟩,im rfl,λb hb=>hw.1 b (hi.z b hb),hw.2.2.1,hw.2.2.2.1,hw.2.2.2.2,λ_ _ h=> .inl h⟩,trivial⟩
 obtain⟨hE,hI⟩:=Sc (w':=w0.alloc (.cells cur e)) hi (.vec e k cs) (λ_ _=>rfl) sv cs.length (some w.heap.size) hw (λg hg=>by cases hg;exact aqc _) (by
  refine⟨by simp [Gh.fm],aqj J h2,jF, .inr ⟨w.heap.size,cap,cur,by simp [Gh.fm],by simp [Gh.fm,m4],λhz=>aqF _ (hi.z _ hz),fD,J,h2,h3,λo hs=>aqF _ (hi.S _ _ hs),λi j c x u hc hx hu=>(Aa i j c x u hc hx hu).keep Hj (Nat.le_succ _)⟩⟩)
 refine⟨_,hE,Nat.le_succ _,hI,λlen hlen=> ?_⟩;rw[hi.len];refine .vec G.N 0 len cs.length k (by simp [Gh.fm]) ⟨_,_,_,rfl⟩ (by simp [Gh.fm]) λ_=>⟨by omega,⟨_,_,rfl,aqj hlen J,h2,J,λ_=>⟨w.heap.size,cap,by simp [Gh.fm,m4],by simp,by simp⟩⟩,λ_ e=>by subst e;simp [Gh.fm,m4]⟩
theorem ai0{T e k len m c6:Nat}{i:TypeInfo}{z:aqT}{kl kc:IntKind}{l c:Int}(hi:bW G w h)(hT:P.underlying T=some (.slice e))(lP:P.info? e=some i)(hz:i.zero=some z)(oD:i.size=k)(yI:i.bytes=c6)(kE:z.cells.toList.length=k)(gP:0<k)
 (h0:0<=l) (lC:l<=c) (hl:l.toNat=len) (hc:c.toNat=m) (hm:m<=maxLen) (hb:c6*m<=281474976710656):
 ∃u w' G',(Instr.makeSlice T (.int kl l) (.int kc c)).run P w= .ok u w'/\bV G.N G w G' w'/\G.N<=G'.N/\bW G' w' (h++[.vec e k (List.replicate m (z.cells.toList.map λu=> .d (.v u)))])/\aH G' w' u (.vec h.length 0 len m k):=by
 subst oD;subst yI;have fE:(i.bytes:Int)*c<=281474976710656:=by
  have:((i.bytes*m:Nat):Int)<=281474976710656:=by omega
  rw[Int.natCast_mul,<-hc,Int.toNat_of_nonneg (by omega)]at this;exact this
 have h63:c<=9223372036854775807:=by have h:=hm;simp [maxLen]at h;omega
 have dL:=run_make (P:=P) w T e i z hT lP hz kl kc l c h0 lC fE h63;rw[hl,hc]at dL;have gp:(List.replicate m (z.cells.toList.map λu=>AV.d (.v u))).length=m:=aqB;obtain⟨G',g1,g2,g3,g4⟩:=QL (e:=e) (k:=i.size) (cap:=m) (cs:=List.replicate m (z.cells.toList.map λu=>AV.d (.v u))) (cur:=madeCells z.cells (m*i.size)) hi (by rw[gp];exact aqc _) hm (size_madeCells _ _) (λc hc=>by
  rw[List.eq_of_mem_replicate hc,ap6];exact kE) w ⟨rfl,rfl,rfl,rfl⟩ (λa b c x u hc hx hu=>by
  have:=List.eq_of_mem_replicate (aqe hc);subst this;rw[ap8]at hx;cases hq:z.cells.toList[b]? with
  |none=>rw[hq]at hx;cases hx
  |some y=>
   rw[hq]at hx;cases hx
   have jE:b<i.size:=by rw[<-kE];exact(ap1.1 hq).1
   have Tn:a<m:=by have:=(ap1.1 hc).1;rwa [gp]at this
   unfold madeCells at hu;have aN:a*i.size+b<m*i.size:=m9 Tn jE;rw[Array.getElem?_map,Array.getElem?_range,if_pos aN]at hu;simp only[Option.map_some,Option.some.injEq]at hu;have j6:z.cells.size=i.size:=by rw[<-aqy];exact kE
   rw[j6,(Ig (i:=a) jE).2]at hu;have qY:z.cells[b]?=some y:=by rw[<-aqo];exact hq
   rw[getElem!_pos z.cells b (by rw[j6];exact jE)]at hu;rw[aqn (by rw[j6];exact jE)]at qY;cases qY
   subst hu;exact .d (.v _))
 rw[gp]at g4;refine⟨_,_,G',dL,g1,g2,g3,g4 len ?_⟩;rw[<-hl,<-hc];omega
theorem amP{T tx ty e k c6 n o len L:Nat}{i:TypeInfo}{z:aqT}{u v:aqT}{cs ys:aqP (aqP AV)}{us:aqP aqT}(hi:bW G w h)(hT:P.underlying T=some (.slice e))(lP:P.info? e=some i)(hz:i.zero=some z)(oD:i.size=k)(yI:i.bytes=c6)(kE:z.cells.size=k)(gP:0<k)
 (hn:h[n]?=some (.vec e k cs)) (hL:cs.length=L) (hu:aH G w u (.vec n o len L k)) (hr:zG G w k ys us) (hs:Src P k tx v ys.length us w)
 {L':Nat} {cC:aqP (aqP AV)} (rY:(o+len+ys.length<=L/\L'=L/\cC=cs.take (o+len)++ys++cs.drop (o+len+ys.length))\/(o=0/\len=L/\L'=L+ys.length/\cC=cs++ys/\L'<=maxLen/\L'*c6<=140737488355328)):
 ∃r w' G',(Builtin.append_ #[T,tx] ty #[u,v]).run P w= .ok r w'/\bV G.N G w G' w'/\G.N<=G'.N/\bW G' w' (h.set n (.vec e k cC))/\aH G' w' r (.vec n o (len+ys.length) L' k):=by
 subst oD;subst yI;have oS:=hi.lt hn;have jF:=GJ hi hn;have l9:=hu.vK hi hn hL;have lS:=hi.dc n _ hn;have apX:=l9;obtain⟨vh,⟨A,c,rfl,c1,c2,c3,c4⟩,call⟩:=l9;by_cases hy:ys.length=0
 ·have jW:ys=[]:=List.eq_nil_of_length_eq_zero hy;subst jW;have mR:us=[]:=List.eq_nil_of_length_eq_zero (by rw[hr.len];simp);subst mR;have dL:=run_append_nothing (P:=P) w T tx ty e i hT lP A len c c1 v hs;have e1:cC=cs:=by
   rcases rY with⟨_,_,e⟩|⟨_,_,_,e,_⟩
   ·rw[e];simp
   ·rw[e];simp
  have e2:L'=L:=by
   rcases rY with⟨_,e,_⟩|⟨_,_,e,_⟩
   ·exact e
   ·rw[e];simp
  subst e1;subst e2;refine⟨_,w,G,dL,bV.refl _ _ _,aqc _,?_,by simpa using hu⟩;have:h.set n (.vec e i.size cC)=h:=by
   refine List.ext_getElem? λm=> ?_;by_cases em:m=n
   ·subst em;rw[aqu (ap1.1 hn).1,hn]
   ·rw[aqz (Ne.symm em)]
  rw[this];exact hi
 ·have Zm:0<ys.length:=Nat.pos_of_ne_zero hy;have room:len+ys.length<=c->∀g cap cur,G.ow n=some g->G.sg n= .slice (some ⟨g,0,none⟩) cs.length cap->¬G.Z g->w.heap[g]?=some (.cells cur e (0,0))->cs.length<=cap->cap<=maxLen->cur.size=cap*i.size->(∀o,¬G.S g o)->
      (∀(a b:Nat)(d:aqP AV)(x:AV)(q:aqT),cs[a]?=some d->d[b]?=some x->cur[a*i.size+b]?=some q->aH G w q x)->A=some ⟨g,o*i.size,none⟩->o+c=cap->
      ∃r w' G',(Builtin.append_ #[T,tx] ty #[.slice A len c,v]).run P w= .ok r w'/\bV G.N G w G' w'/\G.N<=G'.N/\bW G' w' (h.set n (.vec e i.size cC))/\aH G' w' r (.vec n o (len+ys.length) L' i.size):=by
   intro sc g cap cur r1 r2 r3 r4 r5 r6 r7 r8 r9 rA rc;have mG:(o+len)*i.size+us.length<=cur.size:=by
    rw[hr.len,r7,<-Nat.add_mul];exact Nat.mul_le_mul_right _ (by omega)
   have Cb:∀j,j<us.length->(w.cell? ⟨g,o*i.size+len*i.size+j,none⟩).isSome=true:=λj hj=>by
    rw[cell_of_row w g _ cur e (0,0) r4,aqn (by rw[Nat.add_mul]at mG;omega)];rfl
   have dL:=run_append_room_src (P:=P) w T tx ty e i hT lP g (o*i.size) len c v ys.length us hs sc Cb (λj hj=>by unfold World.frozen?;rw[r4];simp);have lT:=run_storeCells_at P g (o*i.size+len*i.size) e us 0 cur w r4 (by rw[Nat.add_mul]at mG;simpa using mG) hr.one;have yS:=run_storeCells_cells (P:=P) g (o*i.size+len*i.size) us 0 w (by simpa using Cb) (λj hj=>by unfold World.frozen?;rw[r4];simp) hr.one;simp only[Nat.add_zero]at lT yS;rw[lT]at yS;injection yS with _ e2;rw[<-e2,<-Nat.add_mul]at dL;rw[rA];have fD:∀(a b:Nat)(d:aqP AV)(x:AV)(q:aqT),cC[a]?=some d->d[b]?=some x->(if(o+len)*i.size<=a*i.size+b/\a*i.size+b<(o+len)*i.size+us.length then us[a*i.size+b-(o+len)*i.size]? else cur[a*i.size+b]?)=some q->aH G w q x:=by
    intro a b d x q hd hx hq;have PH:d.length=i.size:=by
     have hm:=aqe hd;rcases rY with⟨_,_,e⟩|⟨_,_,_,e,_⟩
     ·rw[e]at hm;rcases aqD.1 hm with hm|hm
      ·rcases aqD.1 hm with hm|hm
       ·exact jF d (List.mem_of_mem_take hm)
       ·exact hr.wid d hm
      ·exact jF d (List.mem_of_mem_drop hm)
     ·rw[e]at hm;rcases aqD.1 hm with hm|hm
      ·exact jF d hm
      ·exact hr.wid d hm
    have jE:b<i.size:=by rw[<-PH];exact(ap1.1 hx).1
    have M5:(a<o+len/\cs[a]?=some d)\/(o+len<=a/\a<o+len+ys.length/\ys[a-(o+len)]?=some d)\/(o+len+ys.length<=a/\cs[a]?=some d):=by
     rcases rY with⟨hf,_,e⟩|⟨e0,e1,_,e,_⟩
     ·rw[e]at hd;have RR:(cs.take (o+len)).length=o+len:=by rw[List.length_take];omega
      by_cases J:a<o+len
      ·rw[aqi,aqb (by rw[RR];exact J),List.getElem?_take_of_lt J]at hd;exact .inl ⟨J,hd⟩
      ·rw[aqi,aqh (by rw[RR];omega),RR]at hd;by_cases h2:a-(o+len)<ys.length
       ·rw[aqb h2]at hd;exact .inr (.inl ⟨by omega,by omega,hd⟩)
       ·rw[aqh (by omega),List.getElem?_drop,show o+len+ys.length+(a-(o+len)-ys.length)=a by omega]at hd;exact .inr (.inr ⟨by omega,hd⟩)
     ·rw[e]at hd;by_cases J:a<cs.length
      ·rw[aqb J]at hd;exact .inl ⟨by omega,hd⟩
      ·rw[aqh (by omega)]at hd;have:=(ap1.1 hd).1;exact .inr (.inl ⟨by omega,by omega,by rw[show a-(o+len)=a-cs.length by omega];exact hd⟩)
    rcases M5 with⟨J,h2⟩|⟨J,h2,h3⟩|⟨J,h2⟩
    ·rw[if_neg (by have:=m9 J jE;omega)]at hq;exact r9 a b d x q h2 hx hq
    ·have hle:(o+len)*i.size<=a*i.size:=Nat.mul_le_mul_right _ J;have aN:a*i.size+b<(o+len+ys.length)*i.size:=m9 h2 jE;rw[Nat.add_mul (o+len)]at aN;rw[if_pos ⟨by omega,by rw[hr.len];exact aN⟩]at hq;refine hr.rel (a-(o+len)) b d x q h3 hx ?_;rw[Nat.sub_mul,show a*i.size-(o+len)*i.size+b=a*i.size+b-(o+len)*i.size by omega];exact hq
    ·have hle:(o+len+ys.length)*i.size<=a*i.size:=Nat.mul_le_mul_right _ J;rw[Nat.add_mul (o+len)]at hle;rw[if_neg (by rw[hr.len];omega)]at hq;exact r9 a b d x q h2 hx hq
   have T9:∀d∈cC,d.length=i.size:=λd hm=>by
    rcases rY with⟨_,_,e⟩|⟨_,_,_,e,_⟩
    ·rw[e]at hm;rcases aqD.1 hm with hm|hm
     ·rcases aqD.1 hm with hm|hm
      ·exact jF d (List.mem_of_mem_take hm)
      ·exact hr.wid d hm
     ·exact jF d (List.mem_of_mem_drop hm)
    ·rw[e]at hm;rcases aqD.1 hm with hm|hm
     ·exact jF d hm
     ·exact hr.wid d hm
   rcases rY with⟨hf,eL,ec⟩|⟨e0,e1,eL,ec,lh,nh⟩
   ·have gp:cC.length=cs.length:=by rw[ec];simp;omega
    obtain⟨G',k1,k2,k3,k4,k5⟩:=Y6 (us:=us) (off:=(o+len)*i.size) (cC:=cC) hi hn gP r1 r2 r3 r4 r5 r6 r7 r8 mG gp T9 fD;refine⟨_,_,G',dL,k1,by rw[k2];exact aqc _,k3,?_⟩;refine .vec n o (len+ys.length) L' i.size (by rw[k2];exact oS) ⟨_,_,_,rfl⟩ (by rw[k5,eL,lS.1,hL];exact aqc _) λ_=> ?_;rw[k4];refine⟨by omega,⟨_,_,rfl,sc,c2,by omega,λho=> ?_⟩,λho hl=> ?_⟩
    ·rw[eL]at ho ⊢;obtain⟨g2,acA,q1,q2,q3⟩:=c4 ho;exact⟨g2,acA,q1,by rw[<-q2,rA],q3⟩
    ·subst ho;rw[r2,hL,<-eL,<-hl];simp at rc;subst rc;simp
   ·subst e0;subst e1;simp only[aql,Nat.zero_mul]at*;subst rc;obtain⟨w',fe⟩:∃w',w'=w.setRow g (cur.toList.take (len*i.size)++us++cur.toList.drop (len*i.size+us.length)).toArray:=⟨_,rfl⟩;rw[<-fe]at dL;have jt:∀b,b≠g->w'.heap[b]?=w.heap[b]?:=λb hb=>by rw[fe];exact setRow_other w g b _ hb
    have o9:w'.heap[g]?=some (.cells (cur.toList.take (len*i.size)++us++cur.toList.drop (len*i.size+us.length)).toArray e (0,0)):=by rw[fe];exact setRow_heap w g cur _ e _ r4
    have iA:w'.heap.size=w.heap.size:=by rw[fe];exact Nn w g _
    obtain⟨sv,m4⟩:∃sv,sv=Value.slice (some ⟨g,0,none⟩) L' c:=⟨_,rfl⟩;have gp:cC.length=L':=by rw[ec,ap2,hL,eL]
    have m5:G.fl n=len:=by rw[lS.1,hL]
    have hE:bV G.N G w (G.grow n G.S sv L' (some g)) w':=⟨by rw[iA];exact aqc _,λ_ _ h=>h,λb q hs=>World.cell?_of_block (jt b (λe=>r8 q (e▸hs))),λ_ _=>rfl,λm _=>by
        by_cases em:m=n
        ·right;subst em;simp only[Gh.grow,if_true,m5];omega
        ·left;exact⟨by simp [Gh.grow,em],by simp [Gh.grow,em]⟩,im rfl,λb hb=>jt b (λe=>r3 (e▸hb)),by rw[fe];rfl,by rw[fe];rfl,by rw[fe];rfl,λb q hs=> .inl hs⟩
    refine⟨_,w',_,dL,hE,aqc _,HP hi hn (λ_=>rfl) (λ_=>rfl) _ _ _ _ hE (λg' tn=>by cases tn;exact⟨.inr r1,by rw[iA];exact(aqg.1 r4).1⟩) (λb q hs=> .inl hs) (λb _ fE=>jt b (λe=>fE (by rw[e]))) ?_,?_⟩
    ·refine⟨by simp [Gh.grow,gp],by rw[gp];exact lh,T9, .inr ⟨g,c,_,by simp [Gh.grow],by simp [Gh.grow,m4,gp],r3,o9,by rw[gp];omega,r6,by rw[Vu _ _ _ mG];exact r7,r8,λa b d x q hd hx hq=> ?_⟩⟩;rw[W0 _ _ _ _ mG]at hq;exact(fD a b d x q hd hx hq).keep hE (aqc _)
    ·refine .vec n 0 (len+ys.length) L' i.size oS ⟨_,_,_,rfl⟩ (by simp [Gh.grow]) λ_=>⟨by omega,⟨_,_,rfl,sc,c2,by omega,λ_=>⟨g,c,by simp [Gh.grow,m4],by simp,by simp⟩⟩,λ_ e=> ?_⟩;simp [Gh.grow,m4,eL]
  rcases lS.2.2.2 with⟨b1,b2,A',b3⟩|⟨g,cap,cur,r1,r2,r3,r4,r5,r6,r7,r8,r9⟩
  ·
   subst b2;simp at hL;subst hL;have ho:o=0:=by omega
   have Ms:len=0:=by omega
   subst ho;subst Ms;have:=call rfl rfl;rw[b3]at this;injection this with q1 _ q2;subst q2;rcases rY with⟨hf,_,_⟩|⟨_,_,eL,ec,lh,nh⟩
   ·omega
   ·simp only[aql,List.nil_append]at eL ec;subst ec;rw[eL]at lh nh;have RF:cC.length<=9223372036854775807:=by simp only[maxLen]at lh;omega
    have hold:(Builtin.firstCells i.size 0 (.slice A 0 0)).run P w.drew= .ok ([]:aqP aqT).toArray w.drew:=by
     cases A with
     |none=>exact run_firstCells_none _ _ _ _ _
     |some a=>exact run_firstCells_some _ _ _ _ _ _ [] (by simp) (λj u hu=>by simp at hu)
    have dL:=run_append_grow_src (P:=P) w T tx ty e i z hT lP hz A 0 0 [] hold v cC.length us hs (by omega) (by omega) (growslice_fits (by omega) (by simpa using nh));simp only[aql,List.nil_append]at dL;obtain⟨cap,kr⟩:∃cap,cap=grownCap w cC.length 0 e:=⟨_,rfl⟩;have kf:cC.length<=cap:=by rw[kr];exact grownCap_ge _ _ _ _
    have hle:cap<=maxLen:=by rw[kr];exact grownCap_le_maxLen _ _ _ _ lh
    rw[<-kr]at dL;obtain⟨cur,kQ⟩:∃cur,cur=us.toArray++Builtin.zeroCells z.cells (cap-cC.length):=⟨_,rfl⟩;rw[<-kQ]at dL;have gX:cur.size=cap*i.size:=by
      have:=size_zeroCells z.cells (cap-cC.length);rw[kQ,Array.size_append,this,List.size_toArray,hr.len,kE,<-Nat.add_mul]
      congr 1
      omega
    have fD:(w.drew.alloc (.cells cur e)).heap[w.heap.size]?=some (.cells cur e (0,0)):=World.alloc_heap_new w.drew _;have xZ:∀b,b<w.heap.size->(w.drew.alloc (.cells cur e)).heap[b]?=w.heap[b]?:=λb hb=>Below.heap_alloc w.drew _ b hb;obtain⟨sv,m4⟩:∃sv,sv=Value.slice (some ⟨w.heap.size,0,none⟩) L' cap:=⟨_,rfl⟩;have m5:G.fl n=0:=by rw[lS.1];rfl
    have hE:bV G.N G w (G.grow n G.S sv L' (some w.heap.size)) (w.drew.alloc (.cells cur e)):=⟨by simp,λ_ _ h=>h,λb q hs=>World.cell?_of_block (xZ b (hi.S b q hs)),λ_ _=>rfl,λm _=>by
        by_cases em:m=n
        ·right;subst em;simp only[Gh.grow,if_true,m5];omega
        ·left;exact⟨by simp [Gh.grow,em],by simp [Gh.grow,em]⟩,im rfl,λb hb=>xZ b (hi.z b hb),rfl,rfl,rfl,λb q hs=> .inl hs⟩
    refine⟨_,_,_,dL,hE,aqc _,HP hi hn (λ_=>rfl) (λ_=>rfl) _ _ _ _ hE (λg' tn=>by cases tn;exact⟨.inl rfl,by simp⟩) (λb q hs=> .inl hs) (λb hb _=>xZ b hb) ?_,?_⟩
    ·refine⟨by simp [Gh.grow,eL],lh,hr.wid, .inr ⟨w.heap.size,cap,cur,by simp [Gh.grow],by simp [Gh.grow,m4,eL],λhz=>aqF _ (hi.z _ hz),fD,kf,hle,gX,λq hs=>aqF _ (hi.S _ _ hs),λa b d x q hd hx hq=> ?_⟩⟩;have jE:b<i.size:=by rw[<-hr.wid d (aqe hd)];exact(ap1.1 hx).1
     have aN:a*i.size+b<us.length:=by rw[hr.len];exact m9 (ap1.1 hd).1 jE
     rw[kQ,Array.getElem?_append_left (by simpa using aN),List.getElem?_toArray]at hq;exact(hr.rel a b d x q hd hx hq).keep hE (aqc _)
    ·rw[aql];refine .vec n 0 cC.length L' i.size oS ⟨_,_,_,rfl⟩ (by simp [Gh.grow]) λ_=>⟨by omega,⟨_,_,rfl,kf,hle,by omega,λ_=>⟨w.heap.size,cap,by simp [Gh.grow,m4],by simp,by simp⟩⟩,λ_ e=> ?_⟩;simp [Gh.grow,m4,eL]
  ·
   rcases rY with⟨hf,eL,ec⟩|⟨e0,e1,eL,ec,lh,nh⟩
   ·obtain⟨g2,acA,q1,q2,q3⟩:=c4 (by omega);rw[r2]at q1;injection q1 with q4 _ q5;cases q4
    subst q5;exact room (by omega) g cap cur r1 r2 r3 r4 r5 r6 r7 r8 r9 q2 q3
   ·have:=call e0 e1;rw[r2]at this;injection this with q2 _ q3;by_cases sc:len+ys.length<=c
    ·exact room sc g cap cur r1 r2 r3 r4 r5 r6 r7 r8 r9 (by rw[q2,e0];simp) (by omega)
    ·subst e0;subst q2;subst q3;rw[eL]at lh nh;have RF:L+ys.length<=9223372036854775807:=by simp only[maxLen]at lh;omega
     have MY:(cur.toList.take (len*i.size)).length=len*i.size:=by
      rw[List.length_take,aqy,r7];exact Nat.min_eq_left (Nat.mul_le_mul_right _ c1)
     have hold:(Builtin.firstCells i.size len (.slice (some ⟨g,0,none⟩) len c)).run P w.drew= .ok (cur.toList.take (len*i.size)).toArray w.drew:=
      run_firstCells_some _ _ _ _ _ _ _ MY (λj q hq=>by
       rw[mm,aql];show w.cell? ⟨g,j,none⟩=some q;rw[cell_of_row w g _ cur e (0,0) r4,<-aqo];have zl:=(ap1.1 hq).1;rw[MY]at zl;rw[List.getElem?_take_of_lt zl]at hq;exact hq)
     have dL:=run_append_grow_src (P:=P) w T tx ty e i z hT lP hz (some ⟨g,0,none⟩) len c _ hold v ys.length us hs (by omega) (by omega) (growslice_fits (by omega) (by rw[e1];exact nh));obtain⟨cap,kr⟩:∃cap,cap=grownCap w (len+ys.length) c e:=⟨_,rfl⟩;have kf:len+ys.length<=cap:=by rw[kr];exact grownCap_ge _ _ _ _
     have hle:cap<=maxLen:=by rw[kr];exact grownCap_le_maxLen _ _ _ _ (by rw[e1];exact lh)
     rw[<-kr]at dL;obtain⟨uW,kQ⟩:∃uW,uW=(cur.toList.take (len*i.size)++us).toArray++Builtin.zeroCells z.cells (cap-(len+ys.length)):=⟨_,rfl⟩;rw[<-kQ]at dL;have zo:(cur.toList.take (len*i.size)++us).length=(len+ys.length)*i.size:=by rw[ap2,MY,hr.len,<-Nat.add_mul]
     have gX:uW.size=cap*i.size:=by
      have:=size_zeroCells z.cells (cap-(len+ys.length));rw[kQ,Array.size_append,this,List.size_toArray,zo,kE,<-Nat.add_mul]
      congr 1
      omega
     have fD:(w.drew.alloc (.cells uW e)).heap[w.heap.size]?=some (.cells uW e (0,0)):=World.alloc_heap_new w.drew _;have xZ:∀b,b<w.heap.size->(w.drew.alloc (.cells uW e)).heap[b]?=w.heap[b]?:=λb hb=>Below.heap_alloc w.drew _ b hb;obtain⟨sv,m4⟩:∃sv,sv=Value.slice (some ⟨w.heap.size,0,none⟩) L' cap:=⟨_,rfl⟩;have m5:G.fl n=L:=by rw[lS.1,hL]
     have gp:cC.length=L':=by rw[ec,ap2,hL,eL]
     have hE:bV G.N G w (G.grow n G.S sv L' (some w.heap.size)) (w.drew.alloc (.cells uW e)):=⟨by simp,λ_ _ h=>h,λb q hs=>World.cell?_of_block (xZ b (hi.S b q hs)),λ_ _=>rfl,λm _=>by
         by_cases em:m=n
         ·right;subst em;simp only[Gh.grow,if_true,m5];omega
         ·left;exact⟨by simp [Gh.grow,em],by simp [Gh.grow,em]⟩,im rfl,λb hb=>xZ b (hi.z b hb),rfl,rfl,rfl,λb q hs=> .inl hs⟩
     refine⟨_,_,_,dL,hE,aqc _,HP hi hn (λ_=>rfl) (λ_=>rfl) _ _ _ _ hE (λg' tn=>by cases tn;exact⟨.inl rfl,by simp⟩) (λb q hs=> .inl hs) (λb hb _=>xZ b hb) ?_,?_⟩
     ·refine⟨by simp [Gh.grow,gp],by rw[gp,eL];exact lh,λd hd=> ?_, .inr ⟨w.heap.size,cap,uW,by simp [Gh.grow],by simp [Gh.grow,m4,gp],λhz=>aqF _ (hi.z _ hz),fD,by rw[gp];omega,hle,gX,λq hs=>aqF _ (hi.S _ _ hs),λa b d x q hd hx hq=> ?_⟩⟩
      ·rw[ec]at hd;rcases aqD.1 hd with hd|hd
       ·exact jF d hd
       ·exact hr.wid d hd
      ·refine aH.keep hE (aqc _) ?_;have PH:d.length=i.size:=by
        have hm:=aqe hd;rw[ec]at hm;rcases aqD.1 hm with hm|hm
        ·exact jF d hm
        ·exact hr.wid d hm
       have jE:b<i.size:=by rw[<-PH];exact(ap1.1 hx).1
       have C4:a<len+ys.length:=by
        have:=(ap1.1 hd).1;rw[gp,eL]at this;omega
       have aN:a*i.size+b<(cur.toList.take (len*i.size)++us).length:=by rw[zo];exact m9 C4 jE
       rw[kQ,Array.getElem?_append_left (by simpa using aN),List.getElem?_toArray,alP _ us len a b MY jE]at hq;rw[ec]at hd;by_cases J:a<len
       ·rw[if_pos J,List.getElem?_take_of_lt (m9 J jE),aqo]at hq;rw[aqb (by omega)]at hd;exact r9 a b d x q hd hx hq
       ·rw[if_neg J]at hq;rw[aqh (by omega)]at hd;exact hr.rel (a-len) b d x q (by rw[<-hd];congr 1;omega) hx hq
     ·refine .vec n 0 (len+ys.length) L' i.size oS ⟨_,_,_,rfl⟩ (by simp [Gh.grow]) λ_=>⟨by omega,⟨_,_,rfl,kf,hle,by omega,λ_=>⟨w.heap.size,cap,by simp [Gh.grow,m4],by simp,by simp⟩⟩,λ_ e=> ?_⟩;simp [Gh.grow,m4,eL,e1]
theorem abY{T tx ty e k c6:Nat}{i:TypeInfo}{z:aqT}{A:aqR Addr}{v:aqT}{ys:aqP (aqP AV)}{us:aqP aqT}(hi:bW G w h)(hT:P.underlying T=some (.slice e))(lP:P.info? e=some i)(hz:i.zero=some z)(oD:i.size=k)(yI:i.bytes=c6)(kE:z.cells.size=k)(gP:0<k)
 (hr:zG G w k ys us) (hs:Src P k tx v ys.length us w) (lh:ys.length<=maxLen) (nh:ys.length*c6<=140737488355328):
 ∃r w' G',(Builtin.append_ #[T,tx] ty #[.slice A 0 0,v]).run P w= .ok r w'/\bV G.N G w G' w'/\G.N<=G'.N/\bW G' w' (h++[.vec e k ys])/\aH G' w' r (.vec h.length 0 ys.length ys.length k):=by
 subst oD;subst yI;by_cases hy:ys.length=0
 ·have jW:ys=[]:=List.eq_nil_of_length_eq_zero hy;subst jW;have mR:us=[]:=List.eq_nil_of_length_eq_zero (by rw[hr.len];simp);subst mR;have dL:=run_append_nothing (P:=P) w T tx ty e i hT lP A 0 0 (aqc _) v hs;obtain⟨hE,hI⟩:=Sc (w':=w) hi (.vec e i.size []) (λ_ _=>rfl) (.slice A 0 0) 0 none ⟨λ_ _=>rfl,aqc _,rfl,rfl,rfl⟩ (λg hg=>by cases hg) ⟨by simp [Gh.fm],by simp,(λ_ h=>by cases h), .inl ⟨by simp [Gh.fm],rfl,A,by simp [Gh.fm]⟩⟩;refine⟨_,w,_,dL,hE,Nat.le_succ _,hI,?_⟩;rw[hi.len];exact .vec G.N 0 0 0 i.size (by simp [Gh.fm]) ⟨_,_,_,rfl⟩ (by simp) λ_=>⟨by omega,⟨A,0,rfl,aqc _,Nat.zero_le _,by omega,λh=>by omega⟩,λ_ _=>by simp [Gh.fm]⟩
 ·have RF:ys.length<=9223372036854775807:=by simp only[maxLen]at lh;omega
  have hold:(Builtin.firstCells i.size 0 (.slice A 0 0)).run P w.drew= .ok ([]:aqP aqT).toArray w.drew:=by
   cases A with
   |none=>exact run_firstCells_none _ _ _ _ _
   |some a=>exact run_firstCells_some _ _ _ _ _ _ [] (by simp) (λj u hu=>by simp at hu)
  have dL:=run_append_grow_src (P:=P) w T tx ty e i z hT lP hz A 0 0 [] hold v ys.length us hs (by omega) (by omega) (growslice_fits (by omega) (by simpa using nh));simp only[aql,List.nil_append]at dL;obtain⟨cap,kr⟩:∃cap,cap=grownCap w ys.length 0 e:=⟨_,rfl⟩;have kf:ys.length<=cap:=by rw[kr];exact grownCap_ge _ _ _ _
  have hle:cap<=maxLen:=by rw[kr];exact grownCap_le_maxLen _ _ _ _ lh
  rw[<-kr]at dL;obtain⟨cur,kQ⟩:∃cur,cur=us.toArray++Builtin.zeroCells z.cells (cap-ys.length):=⟨_,rfl⟩;rw[<-kQ]at dL;have gX:cur.size=cap*i.size:=by
    have:=size_zeroCells z.cells (cap-ys.length);rw[kQ,Array.size_append,this,List.size_toArray,hr.len,kE,<-Nat.add_mul]
    congr 1
    omega
  obtain⟨G',g1,g2,g3,g4⟩:=QL (e:=e) (k:=i.size) (cap:=cap) (cs:=ys) (cur:=cur) hi kf hle gX hr.wid w.drew ⟨rfl,rfl,rfl,rfl⟩ (λa b d x q hd hx hq=>by
   have jE:b<i.size:=by rw[<-hr.wid d (aqe hd)];exact(ap1.1 hx).1
   have aN:a*i.size+b<us.length:=by rw[hr.len];exact m9 (ap1.1 hd).1 jE
   rw[kQ,Array.getElem?_append_left (by simpa using aN),List.getElem?_toArray]at hq;exact hr.rel a b d x q hd hx hq)
  exact⟨_,_,G',dL,g1,g2,g3,g4 _ (aqc _)⟩
end
theorem SN:∀(cs:aqP AV)(l:aqP fA),AV.xz cs=some l->cs.length=l.length/\∀(i:Nat)(x:AV)(c:fA),cs[i]?=some x->l[i]?=some c->x.cap=some c
 |[],l,h=>by
  unfold AV.xz at h;cases h;exact⟨rfl,λi x c hx=>by simp at hx⟩
 |x::cs,l,h=>by
  unfold AV.xz at h;split at h
  ·next c l' e1 e2=>
   cases h
   obtain⟨J,h2⟩:=SN cs l' e2;refine⟨by simp [J],λi y d hy hd=> ?_⟩
   match i with
   |0=>simp only[List.getElem?_cons_zero,Option.some.injEq]at hy hd;subst hy;subst hd;exact e1
   |i+1=>exact h2 i y d (by simpa using hy) (by simpa using hd)
  ·cases h
theorem aH.cap{G:Gh}{w:aqU}{u:aqT}{x:AV}(h:aH G w u x):∀c,x.cap=some c->nV G.S w u c:=by
 induction h with
 |d h=>intro c hc;simp only[AV.cap]at hc;cases hc;exact .d h
 |own n xs h hp hle hf=>intro c hc;simp only[AV.cap]at hc;cases hc;exact .d hp
 |full xs hp hf=>intro c hc;simp only[AV.cap]at hc;cases hc;exact .d hp
 |bk xs i off b o u x hx hS hu=>
  intro c hc;simp only[AV.cap,hx]at hc;cases hc
  exact .bk x off b o u hS hu
 |fn f vs cs hl h ih=>
  intro c hc;simp only[AV.cap]at hc;split at hc
  ·next l e=>
   cases hc
   obtain⟨J,h2⟩:=SN cs l e;refine .fn f vs l (hl.trans J) λi v d hv hd=> ?_;have aN:i<cs.length:=by rw[J];exact(ap1.1 hd).1
   exact ih i v _ hv (ap5 aN) d (h2 i _ d (ap5 aN) hd)
  ·cases hc
 |hid h J=>intro c hc;simp only[AV.cap]at hc;cases hc;exact h
 |agg=>intro c hc;simp [AV.cap]at hc
 |bj=>intro c hc;simp [AV.cap]at hc
 |ptr=>intro c hc;simp [AV.cap]at hc
 |row=>intro c hc;simp [AV.cap]at hc
 |mp=>intro c hc;simp [AV.cap]at hc
 |cr=>intro c hc;simp [AV.cap]at hc
 |vec=>intro c hc;simp [AV.cap]at hc
 |dB=>intro c hc;simp [AV.cap]at hc
 |dead=>intro c hc;simp [AV.cap]at hc
section
variable {P:aqS} {r:aqR Nat} {n N0:Nat} {G:Gh} {w:aqU} {a:Act} {s:St} {o:Oper} {K:St->Prop} {Q:Exit->Act->aqU->Prop}
theorem wR(hs:cY G w a s)(l:Array Operand):(l.map a.eval).size=(l.toList.map (ev s)).length/\∀(i:Nat)(u:aqT)(c:AV),(l.map a.eval)[i]?=some u->(l.toList.map (ev s))[i]?=some c->aH G w u c:=by
 refine⟨by simp,λi u c hu hc=> ?_⟩;rw[Array.getElem?_map]at hu;rw[ap8,aqo]at hc;cases hx:l[i]? with
 |none=>rw[hx]at hu;cases hu
 |some x=>rw[hx]at hu hc;cases hu;cases hc;exact hs.ev x
theorem aai(hs:cY G w a s)(l:Array (Nat×Operand)):(l.map λ(i,x)=>(i,a.eval x)).toList.length=(l.toList.map λp=>(p.1,ev s p.2)).length/\
 ∀(i:Nat)(p:Nat×AV)(q:Nat×aqT),(l.toList.map λp=>(p.1,ev s p.2))[i]?=some p->(l.map λ(i,x)=>(i,a.eval x)).toList[i]?=some q->q.1=p.1/\aH G w q.2 p.2:=by
 refine⟨by simp,λi p q hp hq=> ?_⟩;rw[aqo,Array.getElem?_map]at hq;rw[ap8,aqo]at hp;cases hx:l[i]? with
 |none=>rw[hx]at hp;cases hp
 |some x=>rw[hx]at hp hq;cases hp;cases hq;exact⟨rfl,hs.ev x.2⟩
theorem Gc{x y:Operand}{T U:TypeId}(c:Call)(hc:c.callee= .builtin .append)(J:c.args.toList=[x,y])(h2:c.argTypes.toList=[T,U])(ho:o.op= .call c):
 (execOp a.eval o).run P w=((Builtin.append_ #[T,U] o.type #[a.eval x,a.eval y]).run P w).andThen λv w'=> .ok (.value v) w':=by
 have e1:c.args= #[x,y]:=by rw[<-Array.toList_inj];exact J
 have e2:c.argTypes= #[T,U]:=by rw[<-Array.toList_inj];exact h2
 unfold execOp;simp only[ho,resolve,hc,e1,e2,invoke,builtin,Sem.run_bind,Sem.run_pure,Result.andThen_ok,List.map_toArray,aqq,List.map_nil]
theorem Y3{x:Operand}{T:TypeId}(c:Call)(hc:c.callee= .builtin .len)(J:c.args.toList=[x])(h2:c.argTypes.toList=[T])(ho:o.op= .call c):
 (execOp a.eval o).run P w=((Builtin.len_ #[T] o.type #[a.eval x]).run P w).andThen λv w'=> .ok (.value v) w':=by
 have e1:c.args= #[x]:=by rw[<-Array.toList_inj];exact J
 have e2:c.argTypes= #[T]:=by rw[<-Array.toList_inj];exact h2
 unfold execOp;simp only[ho,resolve,hc,e1,e2,invoke,builtin,Sem.run_bind,Sem.run_pure,Result.andThen_ok,List.map_toArray,aqq,List.map_nil]
theorem ajm(c:Call)(hc:c.callee= .builtin .max)(ho:o.op= .call c):
 (execOp a.eval o).run P w=((Builtin.max_ c.argTypes o.type (c.args.map a.eval)).run P w).andThen λv w'=> .ok (.value v) w':=by
 unfold execOp;simp only[ho,resolve,hc,invoke,builtin,Sem.run_bind,Sem.run_pure,Result.andThen_ok]
theorem an2(c:Call)(hc:c.callee= .builtin .min)(ho:o.op= .call c):
 (execOp a.eval o).run P w=((Builtin.min_ c.argTypes o.type (c.args.map a.eval)).run P w).andThen λv w'=> .ok (.value v) w':=by
 unfold execOp;simp only[ho,resolve,hc,invoke,builtin,Sem.run_bind,Sem.run_pure,Result.andThen_ok]
theorem Wb{mx:Bool}{k k':IntKind}{z:Int}:∀(l:aqP AV)(vs:aqP aqT)(x:Int),vs.length=l.length->(∀(i:Nat)(u:aqT)(c:AV),vs[i]?=some u->l[i]?=some c->aH G w u c)->K4 mx k x l=some (k',z)->
 (vs.foldlM (if mx then Builtin.max2 else Builtin.min2) (.int k x)).run P w= .ok (.int k' z) w
 |[],[],x,_,_,h=>by cases h;simp
 |[],_::_,_,hl,_,_=>by simp at hl
 |_::_,[],_,hl,_,_=>by simp at hl
 |y::l,u::vs,x,hl,hr,h=>by
  unfold K4 at h;split at h
  ·next e=>cases e
  ·next k2 b l' e=>
   cases e
   have e1:=(hr 0 u _ rfl rfl).val;subst e1;have ih:=Wb l vs _ (by simpa using hl) (λi u c hu hc=>hr (i+1) u c (by simpa using hu) (by simpa using hc)) h;rw[List.foldlM_cons,Sem.run_bind];cases mx with
   |true=>simp only[if_true,cond_true]at ih ⊢;simp only[Builtin.max2,Sem.run_pure,Result.andThen_ok];exact ih
   |false=>simp only[Bool.false_eq_true,if_false,cond_false]at ih ⊢;simp only[Builtin.min2,Sem.run_pure,Result.andThen_ok];exact ih
  ·cases h
theorem ZK{mx:Bool}{k:IntKind}{z:Int}{l:aqP AV}{vs:Array aqT}(hl:vs.size=l.length)(hr:∀(i:Nat)(u:aqT)(c:AV),vs[i]?=some u->l[i]?=some c->aH G w u c)(h:Cs mx l=some (k,z)):
 ∃u us,vs.toList=u::us/\(us.foldlM (if mx then Builtin.max2 else Builtin.min2) u).run P w= .ok (.int k z) w:=by
 unfold Cs at h;split at h
 ·next k2 x l'=>
  cases hv:vs.toList with
  |nil=>rw[<-aqy,hv]at hl;simp at hl
  |cons u us=>
   refine⟨u,us,rfl,?_⟩;have qo:∀(i:Nat)(v:aqT)(c:AV),(u::us)[i]?=some v->(AV.d (.v (.int k2 x))::l')[i]?=some c->aH G w v c:=λi v c J h2=>hr i v c (by rw[<-aqo,hv];exact J) h2;have e1:=(qo 0 u _ rfl rfl).val;subst e1;refine Wb l' us x ?_ (λi v c J h2=>qo (i+1) v c (by simpa using J) (by simpa using h2)) h;rw[<-aqy,hv]at hl;simpa using hl
 ·cases h
theorem Qe{f:FuncId}(h:JT P f=true)(args:Array aqT)(w:aqU):(callFunc f args).run P w= .ok (.enter f args) w:=by
 unfold JT at h;cases hq:P.funcs[f]? with
 |none=>rw[hq]at h;simp at h
 |some fn=>
  rw[hq]at h;simp only[ap3,Bool.not_eq_true']at h;obtain⟨J,h2⟩:=h;have h3:fn.body≠none:=by intro e;rw[e]at J;cases J
  have h4:fn.name≠ "runtime.NumGoroutine" :=by simpa using h2
  simp [callFunc,hq,h4,h3]
theorem afd(hs:cY G w a s)(cy:N0<=G.N){x:AV}{h':aqP aq}{p:Sd}(hx:qF P o.op (ev s) s.h=some (x,h',p))(hp:p.ok)(hK:K ((s.wh h').put o.dst x)):o.wpIn (WF r) n P a w (jr N0 G w K) Q:=by
 have dk:=hs.ev;unfold qF at hx;split at hx
 next T ho=>
  split at hx
  ·next q hT=>
   cases hx
   obtain⟨i1,i2,i3⟩:=agI hs.inv;exact mA (by rw[ho];simp) hs cy (v:= .map (some w.heap.size)) (by unfold execOp;simp [ho,run_makeMap,Result.andThen]) i1 (Nat.le_succ _) i2 i3 hK
  ·cases hx
 next T m i ok ho=>
  split at hx
  ·next k e hT=>
   split at hx
   ·next z hz=>
    split at hx
    ·next b s' hm hi=>
     split at hx
     ·next kv hn=>
      cases hc:iD P k with
      |false=>rw[hc]at hx;cases hx
      |true=>
       rw[hc]at hx;cases hx
       obtain⟨v,r1,r2⟩:=afm (ok:=ok) (s:=s') hs.inv hT hz hc hn;have e1:=dk m;rw[hm]at e1;have e2:=dk i;rw[hi]at e2;have e2:=e2.val;have Po:a.eval m= .map (some (G.aR b)):=by
        generalize a.eval m=u at e1;cases e1 with|mp _ _=>rfl
       exact fI (by rw[ho];simp) hs cy (by unfold execOp;simp [ho,Po,e2,r1,Result.andThen]) r2 hK
     ·cases hx
    ·cases hx
   ·cases hx
  ·cases hx
 next T m i y ho=>
  split at hx
  ·next k e hT=>
   split at hx
   ·next b s' d hm hi hd=>
    split at hx
    ·next kv hn=>
     cases hc:iD P k with
     |false=>rw[hc]at hx;cases hx
     |true=>
      rw[hc]at hx;cases hx
      obtain⟨w',r1,r2,r3⟩:=adZ (s:=s') hs.inv hT hc hn ((dk y).toM hd) hp;have e1:=dk m;rw[hm]at e1;have e2:=dk i;rw[hi]at e2;have e2:=e2.val;have Po:a.eval m= .map (some (G.aR b)):=by
       generalize a.eval m=u at e1;cases e1 with|mp _ _=>rfl
      exact PY (by rw[ho];simp) hs cy (by unfold execOp;simp [ho,Po,e2,r1,Result.andThen]) r2 (aqc _) r3 hK
    ·cases hx
   ·cases hx
  ·cases hx
 next=>cases hx
theorem acX(hs:cY G w a s)(cy:N0<=G.N)(h:rz P o K s):o.wpIn (WF r) n P a w (jr N0 G w K) Q:=by
 have dk:=hs.ev;unfold rz cQ at h;split at h
 next x ho=>exact fI (by rw[ho];simp) hs cy (v:=a.eval x) (by unfold execOp;rw[ho];rfl) (dk x) h
 next x ho=>exact fI (by rw[ho];simp) hs cy (v:=a.eval x) (by unfold execOp;rw[ho];rfl) (dk x) h
 next c x y ho=>
  split at h
  next t hc=>
   have hb:=dk c;rw[hc]at hb;have e:=hb.bool;cases t with
   |true=>exact fI (by rw[ho];simp) hs cy (v:=a.eval x) (by unfold execOp;simp [ho,e,asBool]) (dk x) (h.1 rfl)
   |false=>exact fI (by rw[ho];simp) hs cy (v:=a.eval y) (by unfold execOp;simp [ho,e,asBool]) (dk y) (h.2 rfl)
  next=>exact h.elim
 next e ho=>
  split at h
  next z hz=>
   obtain⟨i1,i2⟩:=ZX hs.inv z.cells e (z.cells.toList.map λu=> .d (.v u)) (by simp) (λi u c hu hc=>by
    rw[ap8,aqo,hu]at hc;cases hc;exact .d (.v u))
   exact mA (by rw[ho];simp) hs cy (by unfold execOp;simp [ho,Instr.alloc,EZ hz,newVar,newRow]) (tP G w hs.inv.z hs.inv.S _) (Nat.le_succ _) i1 i2 h
  next=>exact h.elim
 next e x ho=>
  obtain⟨hb,hK⟩:=bX.1 h;have hr:=(dk x).ab6 hb;obtain⟨i1,i2⟩:=ZX hs.inv (a.eval x).cells e (ev s x).cells hr.len hr.rel;exact mA (by rw[ho];simp) hs cy (by unfold execOp;simp [ho,Instr.box,newVar,newRow]) (tP G w hs.inv.z hs.inv.S _) (Nat.le_succ _) i1 i2 hK
 next t x ho=>
  obtain⟨u,y,J,h2,h3⟩:=abJ hs.inv (dk x) h;exact fI (by rw[ho];simp) hs cy (by unfold execOp;simp [ho,J]) h2 h3
 next t x y ho=>
  unfold xP at h;split at h
  next m off hm=>
   split at h
   next cs gX=>
    split at h
    case h_2=>exact h.elim
    rename_i k hk
    obtain⟨fO,h4⟩:=bX.1 h;simp only[ap3,beq_iff_eq,dh]at fO;obtain⟨⟨rfl,h2⟩,h3⟩:=fO;have J:=hk;have hx:=dk x;rw[hm]at hx;obtain⟨w',r1,r2,r3⟩:=aiY (P:=P) hs.inv gX (dk y) h2 J h3;have ex:a.eval x= .pointer (some ⟨G.aR m,off,none⟩):=by
     generalize a.eval x=u at hx;cases hx with
     |ptr=>rfl
    exact PY (by rw[ho];simp) hs cy (by unfold execOp;simp [ho,Instr.storeAt,Instr.sureAddr,ex,r1]) r2 (aqc _) r3 h4
   next=>exact h.elim
  next=>exact h.elim
 next x ho=>
  have hx:=dk x;split at h
  next m off hm=>
   rw[hm]at hx;generalize ea:a.eval x=u at hx;cases hx with
   |ptr _ _ xg=>exact fI (by rw[ho];simp) hs cy (by unfold execOp;simp [ho,ea]) (.ptr m off xg) h
  next xs i off hm=>
   rw[hm]at hx;generalize ea:a.eval x=u at hx;have zj:=hx;cases hx with
   |bk=>exact fI (by rw[ho];simp) hs cy (by unfold execOp;simp [ho,ea]) zj h
  next f cs hm=>
   rw[hm]at hx;generalize ea:a.eval x=u at hx;have zj:=hx;cases hx with
   |fn=>exact fI (by rw[ho];simp) hs cy (by unfold execOp;simp [ho,ea]) zj h
  next=>exact h.elim
 next T x f ho=>
  split at h
  next fo k g hT=>
   have hx:=dk x;split at h
   next m off hm=>
    rw[hm]at hx;generalize ea:a.eval x=u at hx;cases hx with
    |ptr _ _ xg=>exact fI (by rw[ho];simp) hs cy (by unfold execOp;simp [ho,ea,NU hT]) (.ptr m (off+fo) xg) h
   next xs i off hm=>
    rw[hm]at hx;generalize ea:a.eval x=u at hx;cases hx with
    |bk _ _ _ b oo us c hx hS hu=>exact fI (by rw[ho];simp) hs cy (by unfold execOp;simp [ho,ea,NU hT];rfl) (by rw[Nat.add_assoc];exact .bk xs i (off+fo) b oo us c hx hS hu) h
   next=>exact h.elim
  next=>exact h.elim
 next T x f ho=>
  obtain⟨u,y,J,h2,h3⟩:=amV (dk x) h;exact fI (by rw[ho];simp) hs cy (by unfold execOp;simp [ho,J]) h2 h3
 next T x i ho=>
  obtain⟨u,y,J,h2,h3⟩:=amJ (dk x) (dk i) h;exact fI (by rw[ho];simp) hs cy (by unfold execOp;simp [ho,J]) h2 h3
 next T x i ho=>
  split at h
  next b z hb hz=>
   obtain⟨hT,h0,h⟩:=bX.1 h;have hT:=sN hT;have hx:=dk x;rw[hb]at hx;have ex:=hx.val;obtain⟨k,ei⟩:=(dk i).int hz;split at h
   next c hc=>
    refine fI (by rw[ho];simp) hs cy (v:= .int .u8 c.toNat) ?_ (.d (.v _)) h;unfold execOp;simp [ho,Instr.index,ex,ei,asIntOf,run_underlying hT,h0,hc]
   next=>exact h.elim
  next=>exact h.elim
 next T ps ho=>
  obtain⟨p1,p2⟩:=aai hs ps;obtain⟨u,y,J,h2,h3⟩:=ai8 p1 p2 h;exact fI (by rw[ho];simp) hs cy (by unfold execOp;simp only[ho,Sem.run_bind,J];rfl) h2 h3
 next T len ps ho=>
  obtain⟨p1,p2⟩:=aai hs ps;obtain⟨u,w',G',y,J,h2,h3,h4,h5,h6⟩:=apB (T:=T) hs.inv p1 p2 h;exact mA (by rw[ho];simp) hs cy (by unfold execOp;simp only[ho,Sem.run_bind,J];rfl) h2 h3 h4 h5 h6
 next T x lo hi mx ho=>
  obtain⟨u,y,J,h2,h3⟩:=alT hs (dk x) h;exact fI (by rw[ho];simp) hs cy (by unfold execOp;simp [ho,J]) h2 h3
 next x i ho=>
  have hx:=dk x;split at h
  next cs gX=>
   rw[gX]at hx;generalize ea:a.eval x=u at hx;split at h
   next c hc=>
    cases hx with
    |bj vs _ hl hr=>
     have aN:i<vs.size:=by rw[hl];exact(ap1.1 hc).1
     exact fI (by rw[ho];simp) hs cy (v:=vs[i]) (by unfold execOp;simp [ho,ea,Instr.extract,aN]) (hr i _ c (aqn aN) hc) h
   next=>exact h.elim
  next=>exact h.elim
 next f first db ho=>
  split at h
  ·next x hx=>
   unfold QA at hx;split at hx
   ·next e1=>
    cases hx
    have apD:first= #[]:=by
     rw[<-Array.toList_inj];exact List.map_eq_nil_iff.1 e1
    subst apD;obtain⟨p1,p2⟩:=wR hs db;exact fI (by rw[ho];simp) hs cy (v:= .func (.func f) #[] (db.map a.eval)) (by unfold execOp;simp [ho,Instr.makeFunc]) (.fn f _ _ p1 p2) h
   ·split at hx
    ·next cs e1 e2=>
     cases hx
     have amZ:db= #[]:=by
      rw[<-Array.toList_inj];exact List.map_eq_nil_iff.1 e2
     subst amZ;obtain⟨p1,p2⟩:=wR hs first
     obtain⟨c1,c2⟩:=SN _ _ e1;exact fI (by rw[ho];simp) hs cy (v:= .func (.func f) (first.map a.eval) #[]) (by unfold execOp;simp [ho,Instr.makeFunc]) (.hid (.ou f _ _ (p1.trans c1) λi u c hu hc=>by
      have aN:i<(first.toList.map (ev s)).length:=by rw[c1];exact(ap1.1 hc).1
      exact(p2 i u _ hu (ap5 aN)).cap c (c2 i _ c (ap5 aN) hc)) rfl) h
    ·cases hx
  ·exact h.elim
 next op T x y U ho=>
  obtain⟨u,z,J,h2,h3⟩:=ajF (X:=x) (Y:=y) (dk x) (dk y) h;refine fI (by rw[ho];simp) hs cy ?_ h2 h3;unfold execOp;simp only[ho];rw[Sem.run_bind,J];rfl
 next op T x ho=>
  obtain⟨u,z,J,h2,h3⟩:=ao3 (P:=P) (dk x) h;exact fI (by rw[ho];simp) hs cy (by unfold execOp;simp [ho,J]) h2 h3
 next t u x ho=>
  obtain⟨u,z,J,h2,h3⟩:=aj7 (dk x) h;exact fI (by rw[ho];simp) hs cy (by unfold execOp;simp [ho,J]) h2 h3
 next c ho=>
  have ku:∀c,o.op≠ .defer c:=by rw[ho];simp
  split at h
  next hc=>
   split at h
   next x T J h2=>
    obtain⟨m,r1,r2⟩:=amv (ty:=o.type) (dk x) h;exact fI ku hs cy (by rw[Y3 c hc J h2 ho,r1];rfl) (.d (.v _)) r2
   next=>exact h.elim
  next hc=>
   split at h
   next x y T U J h2=>
    obtain⟨hU,h⟩:=bX.1 h;obtain⟨⟨e',k'⟩,hU⟩:=Option.isSome_iff_exists.1 hU;obtain⟨p,w',G',q,h',r1,r2,r3,r4,r5,r6⟩:=amp (ty:=o.type) hs.inv (dk x) (dk y) (j9 hU).1 h;exact mA ku hs cy (by rw[Gc c hc J h2 ho,r1];rfl) r2 r3 r4 r5 r6
   next=>exact h.elim
  next hc=>
   split at h
   next k z hf=>
    obtain⟨p1,p2⟩:=wR hs c.args;obtain⟨u,us,e1,e2⟩:=ZK (P:=P) p1 p2 hf;refine fI ku hs cy (v:= .int k z) ?_ (.d (.v _)) h;rw[ajm c hc ho];unfold Builtin.max_;rw[e1];simp only[if_true]at e2;rw[e2];rfl
   next=>exact h.elim
  next hc=>
   split at h
   next k z hf=>
    obtain⟨p1,p2⟩:=wR hs c.args;obtain⟨u,us,e1,e2⟩:=ZK (P:=P) p1 p2 hf;refine fI ku hs cy (v:= .int k z) ?_ (.d (.v _)) h;rw[an2 c hc ho];unfold Builtin.min_;rw[e1];simp only[Bool.false_eq_true,if_false]at e2;rw[e2];rfl
   next=>exact h.elim
  next f hc=>
   have call:∀(g:FuncId)(db:aqP AV)(vs:Array aqT),a.eval f= .func (.func g) #[] vs->vs.size=db.length->(∀(i:Nat)(u:aqT)(c:AV),vs[i]?=some u->db[i]?=some c->aH G w u c)->
       cV P g (c.args.toList.map (ev s)++db) s.h (λr h'=>K ((s.wh h').put o.dst r))->o.wpIn (WF r) n P a w (jr N0 G w K) Q:=by
       intro g db vs ea hl hr h;obtain⟨p1,p2⟩:=wR hs c.args;obtain⟨Gy,jR⟩:=h;have tw:=jR G w (c.args.map a.eval++vs) hs.inv (by rw[Array.size_append,ap2,p1,hl]) (λi u x hu hx=>by
        by_cases hi:i<(c.args.map a.eval).size
        ·rw[Array.getElem?_append_left hi]at hu;rw[aqb (by rw[<-p1];exact hi)]at hx;exact p2 i u x hu hx
        ·rw[Array.getElem?_append_right (by omega)]at hu;rw[aqh (by rw[<-p1];omega)]at hx;rw[p1]at hu;exact hr _ u x hu hx)
       refine⟨λ_ _=>trivial,?_⟩;have dL:(o.semAt (WF r).round a.eval).run P w= .ok (.enter g (c.args.map a.eval++vs)) w:=by
        rw[Oper.semAt_eq _ _ _ ku];unfold execOp;simp only[ho,resolve,hc,ea];simp [Deferred.ofValue,invoke,Qe Gy]
       rw[dL];refine⟨λh=>(by simp [WF,Fence.wide]at h),?_⟩;have h2:=callsIn_wide (n:=n-1).2 tw;refine CallsIn.mono (F:=WF r) h2 ?_;rintro e w' ⟨v,G',x,h',rfl,x1,x2,x3,x4,x5⟩;exact⟨G',_,x1.less cy,aqj cy x2,(hs.move x1 x2 x3).put x4 o.dst,x5⟩
   have ae3:∀(g:FuncId)(db:aqP AV)(vs:Array aqT),a.eval f= .func (.func g) vs #[]->vs.size=db.length->(∀(i:Nat)(u:aqT)(c:AV),vs[i]?=some u->db[i]?=some c->aH G w u c)->
       cV P g (db++c.args.toList.map (ev s)) s.h (λr h'=>K ((s.wh h').put o.dst r))->o.wpIn (WF r) n P a w (jr N0 G w K) Q:=by
       intro g db vs ea hl hr h;obtain⟨p1,p2⟩:=wR hs c.args;obtain⟨Gy,jR⟩:=h;have tw:=jR G w (vs++c.args.map a.eval) hs.inv (by rw[Array.size_append,ap2,p1,hl]) (λi u x hu hx=>by
        by_cases hi:i<vs.size
        ·rw[Array.getElem?_append_left hi]at hu;rw[aqb (by rw[<-hl];exact hi)]at hx;exact hr i u x hu hx
        ·rw[Array.getElem?_append_right (by omega)]at hu;rw[aqh (by rw[<-hl];omega)]at hx;rw[hl]at hu;exact p2 _ u x hu hx)
       refine⟨λ_ _=>trivial,?_⟩;have dL:(o.semAt (WF r).round a.eval).run P w= .ok (.enter g (vs++c.args.map a.eval)) w:=by
        rw[Oper.semAt_eq _ _ _ ku];unfold execOp;simp only[ho,resolve,hc,ea];simp [Deferred.ofValue,invoke,Qe Gy]
       rw[dL];refine⟨λh=>(by simp [WF,Fence.wide]at h),?_⟩;have h2:=callsIn_wide (n:=n-1).2 tw;refine CallsIn.mono (F:=WF r) h2 ?_;rintro e w' ⟨v,G',x,h',rfl,x1,x2,x3,x4,x5⟩;exact⟨G',_,x1.less cy,aqj cy x2,(hs.move x1 x2 x3).put x4 o.dst,x5⟩
   split at h
   next g db hg=>
    have hf:=dk f;rw[hg]at hf;generalize ea:a.eval f=u at hf;cases hf with
    |fn _ vs _ hl hr=>exact call g db vs ea hl hr h
   next q hg=>
    obtain⟨g,as,eq,h⟩:=h;have hf:=dk f;rw[hg]at hf;generalize ea:a.eval f=u at hf;cases hf with
    |hid hq J=>
     cases hq with
     |d _=>simp [fA.app]at eq
     |bk _ _ _ _ _ _ _=>simp [fA.app]at eq
     |ou g0 vs cs hl hr=>
      simp only[fA.app,Option.some.injEq,Prod.mk.injEq]at eq;obtain⟨rfl,rfl⟩:=eq;exact ae3 _ (cs.map fA.av) vs ea (by rw[ap6];exact hl) (λi u c hu hc=>by
       rw[ap8]at hc;cases hx:cs[i]? with
       |none=>rw[hx]at hc;cases hc
       |some d=>rw[hx]at hc;cases hc;exact(hr i u d hu hx).av) h
     |fn g0 vs cs hl hr=>
      simp only[fA.app,Option.some.injEq,Prod.mk.injEq]at eq;obtain⟨rfl,rfl⟩:=eq;exact call _ (cs.map fA.av) vs ea (by rw[ap6];exact hl) (λi u c hu hc=>by
       rw[ap8]at hc;cases hx:cs[i]? with
       |none=>rw[hx]at hc;cases hc
       |some d=>rw[hx]at hc;cases hc;exact(hr i u d hu hx).av) h
   next=>exact h.elim
  next=>exact h.elim
 next op _=>
  split at h
  next x h' p hx=>exact afd hs cy hx h.1 h.2
  next=>exact h.elim
theorem R5(hs:cY G w a s){x:aqR Operand}{d:Nat}{z:Int}(h:uq (ev s) d x=some z)(h0:0<=z):Cu a x d z.toNat:=by
 cases x with
 |none=>
  simp only[uq,Option.some.injEq]at h;subst h;show _=d;exact aqs d
 |some y=>
  simp only[uq]at h;obtain⟨k,e⟩:=(hs.ev y).int h;exact⟨k,z,e,h0,rfl⟩
theorem mB{α:Type}{b:Bool}{x y:α}(h:(bif b then some x else none)=some y):b=true/\x=y:=by
 cases b with
 |true=>exact⟨rfl,aqk h⟩
 |false=>cases h
theorem ahC{α:Type}{b:Bool}{x:aqR α}{y:α}(h:(bif b then x else none)=some y):b=true/\x=some y:=by
 cases b with
 |true=>exact⟨rfl,h⟩
 |false=>cases h
theorem abw(hs:cY G w a s)(cy:N0<=G.N)(h:KY P o K s):o.wpIn (WF r) n P a w (jr N0 G w K) Q:=by
 obtain⟨va,x,h',p,hx,hp,hK⟩:=h;have dk:=hs.ev;unfold iF at hx;split at hx
 next T y i ho=>
  split at hx
  ·next n' o' len L k z e k' i' e1 e2 e3=>
   split at hx
   ·next e4 k2 cs hn=>
    obtain⟨hb,he⟩:=mB hx;cases he
    rw[ap3,beq_iff_eq,beq_iff_eq]at hb;obtain⟨rfl,rfl⟩:=hb;obtain⟨hL,h0,aN,rfl⟩:=hp;obtain⟨fU,gk⟩:=j9 e3;obtain⟨kz,ez⟩:=(dk i).int e2;have hv:=dk y;rw[e1]at hv;have l9:=hv.vK hs.inv hn hL;obtain⟨vh,⟨A,c,q1,q2,q3,q4,q5⟩,_⟩:=l9;obtain⟨g,cap,s1,rfl,s3⟩:=q5 (by omega);have PK:z<(len:Int):=aN;refine fI (by rw[ho];simp) hs cy (v:= .pointer (some ⟨g,o'*k2+z.toNat*k2,none⟩)) ?_ (.dB n' (o'+z.toNat) 0 L k2 (hs.inv.lt hn) ⟨_,_,rfl⟩ (by rw[(hs.inv.dc n' _ hn).1,hL];exact aqc _) λ_=>⟨by omega,g,cap,s1,?_⟩) hK
    ·unfold execOp;simp [ho,q1,ez,Instr.indexAt,asIntOf,run_underlying fU,h0,PK,mN gk,mm]
    ·rw[Nat.add_mul];rfl
   ·cases hx
  ·cases hx
 next T y f ho=>
  split at hx
  ·next n' i j L k fo q g e1 hT=>
   cases hx
   have hv:=dk y;rw[e1]at hv;generalize ea:a.eval y=u at hv;cases hv with
   |dB _ _ _ _ _ oS OO hL hf=>
    obtain⟨pb,pq,rfl⟩:=OO;refine fI (by rw[ho];simp) hs cy (v:= .pointer (some ⟨pb,pq+fo,none⟩)) (by unfold execOp;simp [ho,ea,NU hT]) (.dB n' i (j+fo) L k oS ⟨_,_,rfl⟩ hL λe=> ?_) hK;obtain⟨a1,g2,cap,a2,a3⟩:=hf e;refine⟨a1,g2,cap,a2,?_⟩;injection a3 with a3;injection a3 with a3;injection a3 with a4 a5;subst a4;subst a5;rw[Nat.add_assoc]
  ·cases hx
 next y ho=>
  split at hx
  ·next n' i j L k e1=>
   cases hx
   have hv:=dk y;rw[e1]at hv;have Z2:=hv;generalize ea:a.eval y=u at hv Z2;cases hv with
   |dB _ _ _ _ _ oS OO hL hf=>
    obtain⟨pb,pq,rfl⟩:=OO;exact fI (by rw[ho];simp) hs cy (by unfold execOp;simp [ho,ea]) Z2 hK
  ·cases hx
 next t y ho=>
  split at hx
  ·next n' i j L k c e1=>
   split at hx
   ·next e k' cs z hn hz=>
    obtain⟨hb,he⟩:=mB hx;cases he
    rw[beq_iff_eq]at hb;subst hb;have hv:=dk y;rw[e1]at hv;obtain⟨u,r1,r2⟩:=anW hs.inv hn hp.1 hp.2 hz hv;exact fI (by rw[ho];simp) hs cy (by unfold execOp;simp [ho,r1]) r2 hK
   ·cases hx
  ·cases hx
 next t y z ho=>
  split at hx
  ·next n' i j L k c cC e1=>
   split at hx
   ·next e k' cs q hn hq=>
    obtain⟨hb,he⟩:=mB hx;cases he
    simp only[ap3,beq_iff_eq,dh]at hb;obtain⟨⟨⟨⟨rfl,rfl⟩,OJ⟩,hj⟩,gP⟩:=hb;obtain⟨hL,hc,rfl⟩:=hp;have hv:=dk y;rw[e1]at hv;obtain⟨w',G',r1,r2,r3,r4⟩:=agh hs.inv hn hL hc hv (dk z) OJ hq hj gP;exact PY (by rw[ho];simp) hs cy (by unfold execOp;simp [ho,r1]) r2 r3 r4 hK
   ·cases hx
  ·cases hx
 next T y lo hi ho=>
  split at hx
  ·next n' o' len L k e k' oo ll e1 hT=>
   split at hx
   ·next l u hl hu=>
    split at hx
    ·next e4 k2 cs hn=>
     obtain⟨hb,he⟩:=mB hx;cases he
     rw[ap3,beq_iff_eq,beq_iff_eq]at hb;obtain⟨rfl,rfl⟩:=hb;obtain⟨hL,h0,hlu,huL,rfl,rfl⟩:=hp;obtain⟨fU,gk⟩:=j9 hT;have hv:=dk y;rw[e1]at hv;have l9:=hv.vK hs.inv hn hL;obtain⟨vh,⟨A,c,q1,q2,q3,q4,q5⟩,_⟩:=l9;have hb:=D4 (P:=P) (Aj:=true) (R5 hs hl h0) (R5 hs hu (by omega)) (by omega) (show u.toNat<=c by omega) w;refine fI (by rw[ho];simp) hs cy (v:= .slice (if c=l.toNat then A else A.map (·.add (l.toNat*k2))) (u.toNat-l.toNat) (c-l.toNat)) ?_ (.vec n' (o'+l.toNat) (u.toNat-l.toNat) L k2 (hs.inv.lt hn) ⟨_,_,_,rfl⟩ (by rw[(hs.inv.dc n' _ hn).1,hL];exact aqc _) λ_=>⟨by omega,⟨_,_,rfl,by omega,by omega,by omega,λho2=> ?_⟩,λJ h2=> ?_⟩) hK
     ·unfold execOp;simp [ho,q1,Instr.sliceAt,Instr.slice,run_underlying fU,hb,mN gk]
     ·obtain⟨g,cap,s1,rfl,s3⟩:=q5 (by omega);refine⟨g,cap,s1,?_,by omega⟩;rw[if_neg (by omega)];simp [mm,Nat.add_mul]
     ·have ho0:o'=0:=by omega
      have Ms:l.toNat=0:=by omega
      subst ho0;rw[Ms];rw[Ms]at h2;simp only[Nat.sub_zero]at h2 ⊢;by_cases w7:L=0
      ·subst w7;have:len=0:=by omega
       subst this
       rename_i fO
       rw[<-fO rfl rfl,q1,h2];split
       ·rfl
       ·cases A<;>simp [Addr.add]
      ·obtain⟨g,cap,s1,rfl,s3⟩:=q5 (by omega);rw[s1,h2];have:c=cap:=by omega
       subst this;split<;>simp [mm]
    ·cases hx
   ·cases hx
  ·cases hx
 next T l c ho=>
  split at hx
  ·next e k z1 z2 cs len m hT e1 e2=>
   split at hx
   ·next z c6 hz qQ=>
    obtain⟨hb,he⟩:=mB hx;cases he
    simp only[ap3,beq_iff_eq,dh]at hb;obtain⟨⟨gP,kE⟩,_⟩:=hb;obtain⟨h0,lC,hl,hc,rfl,hm,nk⟩:=hp;obtain⟨fU,gk⟩:=j9 hT;obtain⟨inf,i1,i2,i3⟩:=Rk gk qQ;have Gz:inf.zero=some z:=by
     obtain⟨i',j1,j2⟩:=Mx hz;rw[i1]at j1;cases j1;exact j2
    obtain⟨k1,ez1⟩:=(dk l).int e1;obtain⟨k2,ez2⟩:=(dk c).int e2;obtain⟨u,w',G',r1,r2,r3,r4,r5⟩:=ai0 (kl:=k1) (kc:=k2) hs.inv fU i1 Gz i2 i3 kE gP h0 lC hl hc hm nk;exact mA (by rw[ho];simp) hs cy (by unfold execOp;simp [ho,ez1,ez2,r1]) r2 r3 r4 r5 hK
   ·cases hx
  ·cases hx
 next c ho=>
  have ku:∀c,o.op≠ .defer c:=by rw[ho];simp
  split at hx
  next hc=>
   split at hx
   ·next y T J h2=>
    split at hx
    ·next n' oo len L k e1=>
     split at hx
     ·next e4 k2 cs hn=>
      obtain⟨hb,he⟩:=mB hx;cases he
      rw[ap3,beq_iff_eq]at hb;obtain⟨hT,rfl⟩:=hb;obtain⟨⟨e,q⟩,hT⟩:=Option.isSome_iff_exists.1 hT;have hv:=dk y;rw[e1]at hv;have l9:=hv.vK hs.inv hn hp;obtain⟨vh,⟨A,cc,q1,q2,q3,q4,q5⟩,_⟩:=l9;exact fI ku hs cy (v:= .int .i64 len) (by rw[Y3 c hc J h2 ho,q1];simp [Builtin.len_,run_underlying (j9 hT).1,goInt]) (.d (.v _)) hK
     ·cases hx
    ·cases hx
   ·cases hx
  next hc=>
   split at hx
   ·next y z T U J h2=>
    split at hx
    ·next e k pU cC ys L' hX hT hU=>
     split at hx
     ·next z0 c6 hz qQ=>
      obtain⟨hb,hx⟩:=ahC hx;rw[ap3,beq_iff_eq,dh]at hb;obtain⟨gP,kE⟩:=hb;obtain⟨fU,gk⟩:=j9 hT;obtain⟨inf,i1,i2,i3⟩:=Rk gk qQ;have Gz:inf.zero=some z0:=by
       obtain⟨i',j1,j2⟩:=Mx hz;rw[i1]at j1;cases j1;exact j2
      have j6:z0.cells.size=k:=by rw[<-aqy];exact kE
      obtain⟨eU,kU⟩:=pU;split at hx
      ·next n' oo len L k1 e1=>
       split at hx
       ·next e4 k2 cs hn=>
        obtain⟨hb,he⟩:=mB hx;cases he
        simp only[ap3,beq_iff_eq]at hb;obtain⟨⟨rfl,rfl⟩,rfl⟩:=hb;obtain⟨hL,yN,rfl,rY⟩:=hp;obtain⟨us,hr,Fh⟩:=Pu (tx:=U) hs.inv (dk z) yN gP (j9 hU).1;have hv:=dk y;rw[e1]at hv;obtain⟨u,w',G',r1,r2,r3,r4,r5⟩:=amP (ty:=o.type) hs.inv fU i1 Gz i2 i3 j6 gP hn hL hv hr Fh rY;exact mA ku hs cy (by rw[Gc c hc J h2 ho,r1];rfl) r2 r3 r4 r5 hK
       ·cases hx
      ·next e1=>
       cases hx
       obtain⟨yN,rfl,rfl,rfl,lh,nh⟩:=hp;obtain⟨us,hr,Fh⟩:=Pu (tx:=U) hs.inv (dk z) yN gP (j9 hU).1;have hv:=dk y;rw[e1]at hv;have ev:=hv.val;obtain⟨u,w',G',r1,r2,r3,r4,r5⟩:=abY (ty:=o.type) (A:=none) hs.inv fU i1 Gz i2 i3 j6 gP hr Fh lh nh;exact mA ku hs cy (by rw[Gc c hc J h2 ho,ev,r1];rfl) r2 r3 r4 r5 hK
      ·next xs e1=>
       cases hx
       obtain⟨rfl,yN,rfl,rfl,rfl,lh,nh⟩:=hp;obtain⟨us,hr,Fh⟩:=Pu (tx:=U) hs.inv (dk z) yN gP (j9 hU).1;have hv:=dk y;rw[e1]at hv;obtain⟨A,eA⟩:∃A,a.eval y= .slice A 0 0:=by
        generalize a.eval y=u at hv;cases hv with|full _ _ hf=>exact hf
       obtain⟨u,w',G',r1,r2,r3,r4,r5⟩:=abY (ty:=o.type) (A:=A) hs.inv fU i1 Gz i2 i3 j6 gP hr Fh lh nh;exact mA ku hs cy (by rw[Gc c hc J h2 ho,eA,r1];rfl) r2 r3 r4 r5 hK
      ·cases hx
     ·cases hx
    ·cases hx
   ·cases hx
  next=>cases hx
 next=>cases hx
theorem amr(hs:cY G w a s)(cy:N0<=G.N)(h:GK P o K s):o.wpIn (WF r) n P a w (jr N0 G w K) Q:=by
 have dk:=hs.ev;unfold GK at h;split at h
 ·next op T x y U ho=>
  split at h
  ·next xs pT v1 v2 hx hy hT J h2=>
   obtain⟨e,k⟩:=pT;have fU:=(j9 hT).1;have hv:=dk y;rw[hy]at hv;have ey:=hv.val;obtain⟨A,b,oo,c,k',u,ex,hA,_,_,_,_,_⟩:=((dk x).list hx).qt;have hg:(eqGuard op T x y (a.eval x) (a.eval y)).run P w= .ok () w:=by rw[ex,ey];unfold eqGuard;cases op<;>simp
   have dL:(binOp op T (a.eval x) (a.eval y)).run P w= .ok (if A.isNone then v1 else v2) w:=by
    rw[ex,ey];have hq:=run_equal_slice_nil (P:=P) (w:=w) T e A xs.length c fU;cases op<;>simp [x8]at J h2<;>subst J<;>subst h2<;>simp [binOp,hq]<;>cases A<;>rfl
   have hex:(execOp a.eval o).run P w= .ok (.value (if A.isNone then v1 else v2)) w:=by
    unfold execOp;simp only[ho];rw[Sem.run_bind,Sem.run_bind,hg];simp only[Result.andThen_ok];rw[dL];rfl
   cases A with
   |none=>
    have mr:xs=[]:=Classical.byContradiction λcG=>by have:=hA cG;cases this
    exact fI (by rw[ho];simp) hs cy hex (.d (.v _)) (h.1 mr)
   |some ad=>exact fI (by rw[ho];simp) hs cy hex (.d (.v _)) h.2
  ·exact h.elim
 ·exact h.elim
theorem Sl(hs:cY G w a s)(cy:N0<=G.N)(h:af0 P o K s):o.wpIn (WF r) n P a w (jr N0 G w K) Q:=by
 rcases h with h|h|h
 ·exact abw hs cy h
 ·exact amr hs cy h
 ·exact acX hs cy h
end
end Go.Proofs.YtpeecnpmcbnahaaGreatDoor
