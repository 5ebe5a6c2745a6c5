/-
  Part 1 of the proof: AbsGlob, AbsCore, AbsOps, AbsHeap, AbsStore, AbsApp, AbsOp, AbsOp2, AbsOp3, AbsMap, AbsVec, AbsVec2, AbsOp4.
-/
import Derived.WalkKit
import Derived.Laws.Strings
import Derived.Lib.Hide
import Derived.OrdersIn
import Derived.RangeFuncIn
import Derived.RangeFuncCalls
import Derived.RangeFuncLeaves
import Derived.RangeFuncFrom
import Derived.Deep.MidRow
import Derived.Laws.AppendOwn
import Derived.Maps.OwnOps
import Derived.KernelRfl
import Derived.Deep.AppendSrc
import Derived.Deep.Upon
import Derived.Laws.BytesString
import Derived.Laws.StructEq
import Derived.Laws.MakeOwn
import Derived.Laws.Cover3
namespace Go.Proofs.YtnnapanbbbcalaaGreatDoor
open Go.RowKit
abbrev akf:=@Option.bind_some
abbrev akg:=@List.getElem?_eq_some_iff
abbrev akh:=@List.length_append
abbrev aki:=@Bool.and_eq_true
abbrev akj:=@List.length_cons
abbrev akk:=@List.getElem?_eq_getElem
abbrev akl:=@List.length_map
abbrev akm:=@List.mem_cons_self
abbrev akn:=@List.getElem?_map
abbrev ako:=@Nat.le_of_ble_eq_true
abbrev akp:=@List.mem_cons_of_mem
abbrev akq:=@List.getElem?_append_left
abbrev akr:=@Nat.le_refl
abbrev aks:=@List.length_nil
abbrev akt:=@List.mem_of_getElem?
abbrev aku:=@Nat.eq_of_beq_eq_true
abbrev akv:=@Array.getElem?_eq_some_iff
abbrev akw:=@List.getElem?_append_right
abbrev akx:=@List.append_assoc
abbrev aky:=@Nat.le_trans
abbrev akz:=@Option.some.inj
abbrev akA:=@Nat.zero_add
abbrev akB:=@List.append_nil
abbrev akC:=@Array.getElem?_eq_getElem
abbrev akD:=@Array.getElem?_toList
abbrev akE:=@Nat.lt_of_lt_of_le
abbrev akF:=@List.map_cons
abbrev akG:=@List.all_eq_true
abbrev akH:=@Int.toNat_natCast
abbrev akI:=@Nat.not_lt_zero
abbrev akJ:=@List.getElem?_set_self
abbrev akK:=@List.mem_cons
abbrev akL:=@List.map_congr_left
abbrev akM:=@List.getElem?_eq_none
abbrev akN:=@Array.length_toList
abbrev akO:=@List.getElem?_set_ne
abbrev akP:=@List.drop_zero
abbrev akQ:=@List.length_replicate
abbrev akR:=@List.getElem?_cons_succ
abbrev akS:=@List.mem_append
abbrev akT:=@List.take_append_drop
abbrev akU:=@Nat.lt_irrefl
abbrev akV:=@Nat.le_add_right
abbrev akW:=@List.not_mem_nil
abbrev akX:=@decide_eq_true
abbrev akY:=@decide_eq_false
abbrev akZ:=@beq_self_eq_true
abbrev ak0:=@List.all_cons
abbrev ak1:=@List.any_cons
abbrev ak2:=@Nat.lt_succ_self
abbrev ak3:=@Bool.or_eq_false_iff
abbrev ak4:Type->Type:=List
abbrev ak5:=ByteArray
abbrev ak6:Type->Type:=Option
abbrev ak7:=Program
abbrev ak8:=Value
abbrev ak9:=World
def bL(a:ak5):ak4 UInt8:=a.data.toList
theorem JA(a:ak5):a.toList=bL a:=ByteArray.toList_eq a
theorem Sn{a b:ak5}(h:bL a=bL b):a=b:=by cases a;cases b;simp only[bL,Array.toList_inj]at h;rw[h]
def vi(l:ak4 Nat):ak4 ak8:=l.map λn=>Value.int .u8 (Int.ofNat n)
def B8:ak4 Nat:=(List.range 256).map λn=>bif (Nat.ble 9 n&&Nat.ble n 13)||n==32 then 1 else 0
def w8:ak4 (Nat×ak4 ak8):=
 (0,vi B8)::
  []
def xw:ak4 (Nat×ak4 ak8)->Nat->ak6 (ak4 ak8)
 |[],_=>none
 |(k,l)::r,g=>bif k==g then some l else xw r g
theorem WB:∀{t:ak4 (Nat×ak4 ak8)}{g:Nat}{l:ak4 ak8},xw t g=some l->(g,l)∈t
 |[],g,l,h=>by cases h
 |(k,l')::r,g,l,h=>by
  unfold xw at h;cases e:k==g with
  |true=>rw[e]at h;cases h;rw[beq_iff_eq]at e;subst e;simp
  |false=>rw[e]at h;exact akp _ (WB h)
inductive D where
 |v (u:Value)
 |sl (xs:List (List D))
 |ag (ds:List D)
inductive fp where
 |d (x:D)
 |bn (c:List D) (off:Nat)
 |fn (f:FuncId) (cs:List fp)
 |m7 (f:FuncId) (cs:List fp)
inductive AV where
 |d (x:D)
 |agg (cs:List AV)
 |aW (cs:List AV)
 |ptr (n off:Nat)
 |bn (xs:List (List D)) (i off:Nat)
 |own (n:Nat) (xs:List (List D))
 |full (xs:List (List D))
 |row (n off len cap k:Nat)
 |fn (f:FuncId) (di:List AV)
 |mp (n:Nat)
 |cp (n:Nat)
 |vec (n o len L k:Nat)
 |dF (n i j L k:Nat)
 |hid (c:fp)
 |dead
inductive LS where
 |ready
 |busy
 |done (c:Code)
def LS.st:LS->LoopState
 | .ready=> .ready
 | .busy=> .busy
 | .done _=> .done
def LS.pd:LS->ak6 Code
 | .done c=>some c
 |_=>none
inductive ao where
 |cells (cs:List AV)
 |front (e:TypeId) (k len:Nat)
 |vec (e:TypeId) (k:Nat) (cs:List (List AV))
 |map (kv:List (ByteArray×D))
 |ie (kv:List (ByteArray×D))
 |lp (ls:LS) (p:Nat) (as bd:Code) (cs:List AV)
 |it (sn:Nat×List Nat) (cs:List AV)
 |eO (T:TypeId) (cs:List AV)
 |byt (e:TypeId) (b:ByteArray)
 |gone
structure Gh where
 N:Nat
 Z:Nat->Prop
 S:Nat->Nat->Prop
 aM:Nat->Nat
 sg:Nat->Value
 ow:Nat->Option Nat
 fl:Nat->Nat
 M:Nat
inductive dz(S:Nat->Nat->Prop)(w:World):Value->D->Prop
 |v (u:Value):dz S w u (.v u)
 |sl (A:Option Addr) (b o c k:Nat) (xs:List (List D)) (u:Nat->Nat->Value)
    (hA:xs≠ []->A=some ⟨b,o,none⟩) (hc:xs.length<=c) (hm:c<=maxLen)
    (hk:∀x∈xs,x.length=k)
    (hS:∀i j,i<xs.length->j<k->S b (o+i*k+j)/\w.cell? ⟨b,o+i*k+j,none⟩=some (u i j)/\(u i j).oneCell'=true)
    (hu:∀(i j:Nat)(x:List D)(d:D),xs[i]?=some x->x[j]?=some d->dz S w (u i j) d):dz S w (.slice A xs.length c) (.sl xs)
 |ag (vs:Array Value) (ds:List D) (hl:vs.size=ds.length) (h:∀(i:Nat)(u:Value)(d:D),vs[i]?=some u->ds[i]?=some d->dz S w u d):dz S w (.agg vs) (.ag ds)
inductive m4(S:Nat->Nat->Prop)(w:World):Value->fp->Prop
 |d {u:Value} {x:D} (h:dz S w u x):m4 S w u (.d x)
 |bn (c:List D) (off b o:Nat) (u:Nat->Value) (hS:∀j,j<c.length->S b (o+j)/\w.cell? ⟨b,o+j,none⟩=some (u j)) (hu:∀(j:Nat)(d:D),c[j]?=some d->dz S w (u j) d):m4 S w (.pointer (some ⟨b,o+off,none⟩)) (.bn c off)
 |fn (f:FuncId) (vs:Array Value) (cs:List fp) (hl:vs.size=cs.length) (h:∀(i:Nat)(u:Value)(c:fp),vs[i]?=some u->cs[i]?=some c->m4 S w u c):m4 S w (.func (.func f) #[] vs) (.fn f cs)
 |m7 (f:FuncId) (vs:Array Value) (cs:List fp) (hl:vs.size=cs.length) (h:∀(i:Nat)(u:Value)(c:fp),vs[i]?=some u->cs[i]?=some c->m4 S w u c):m4 S w (.func (.func f) vs #[]) (.m7 f cs)
structure WU(s u:Value)(o len L k:Nat):Prop where
 ol:o+len<=L
 sl:∃A c,u= .slice A len c/\len<=c/\c<=maxLen/\L<=c+o/\(o<L->∃g cap,s= .slice (some ⟨g,0,none⟩) L cap/\A=some ⟨g,o*k,none⟩/\o+c=cap)
 all:o=0->len=L->u=s
structure V9(s u:Value)(i j L k:Nat):Prop where
 il:i<L
 pt:∃g cap,s= .slice (some ⟨g,0,none⟩) L cap/\u= .pointer (some ⟨g,i*k+j,none⟩)
inductive aD(G:Gh)(w:World):Value->AV->Prop
 |d {u:Value} {x:D} (h:dz G.S w u x):aD G w u (.d x)
 |agg (vs:Array Value) (cs:List AV) (hl:vs.size=cs.length) (h:∀(i:Nat)(u:Value)(c:AV),vs[i]?=some u->cs[i]?=some c->aD G w u c):aD G w (.agg vs) (.agg cs)
 |aW (vs:Array Value) (cs:List AV) (hl:vs.size=cs.length) (h:∀(i:Nat)(u:Value)(c:AV),vs[i]?=some u->cs[i]?=some c->aD G w u c):aD G w (.tuple vs) (.aW cs)
 |ptr (n off:Nat) (h:n<G.N):aD G w (.pointer (some ⟨G.aM n,off,none⟩)) (.ptr n off)
 |bn (xs:List (List D)) (i off b o:Nat) (u:Nat->Value) (x:List D) (hx:xs[i]?=some x)
  (hS:∀j,j<x.length->G.S b (o+j)/\w.cell? ⟨b,o+j,none⟩=some (u j)) (hu:∀(j:Nat)(d:D),x[j]?=some d->dz G.S w (u j) d):aD G w (.pointer (some ⟨b,o+off,none⟩)) (.bn xs i off)
 |own {u:Value} (n:Nat) (xs:List (List D)) (h:n<G.N) (hp:dz G.S w u (.sl xs)) (hle:xs.length<=G.fl n) (hf:xs.length=G.fl n->u=G.sg n):aD G w u (.own n xs)
 |full {u:Value} (xs:List (List D)) (hp:dz G.S w u (.sl xs)) (hf:∃A,u= .slice A xs.length xs.length):aD G w u (.full xs)
 |row (n off len cap k:Nat) (h:n<G.N) (hl:len<=cap) (hm:cap<=maxLen):aD G w (.slice (some ⟨G.aM n,off,none⟩) len cap) (.row n off len cap k)
 |fn (f:FuncId) (vs:Array Value) (cs:List AV) (hl:vs.size=cs.length) (h:∀(i:Nat)(u:Value)(c:AV),vs[i]?=some u->cs[i]?=some c->aD G w u c):aD G w (.func (.func f) #[] vs) (.fn f cs)
 |mp (n:Nat) (h:n<G.N):aD G w (.map (some (G.aM n))) (.mp n)
 |cp (n:Nat) (h:n<G.N):aD G w (.func (.yield (G.aM n)) #[] #[]) (.cp n)
 |vec {u:Value} (n o len L k:Nat) (h:n<G.N) (hs:∃A l c,u= .slice A l c) (hL:L<=G.fl n) (hf:L=G.fl n->WU (G.sg n) u o len L k):aD G w u (.vec n o len L k)
 |dF {u:Value} (n i j L k:Nat) (h:n<G.N) (hs:∃b q,u= .pointer (some ⟨b,q,none⟩)) (hL:L<=G.fl n) (hf:L=G.fl n->V9 (G.sg n) u i j L k):aD G w u (.dF n i j L k)
 |hid {u:Value} {c:fp} (h:m4 G.S w u c) (J:u.oneCell'=true):aD G w u (.hid c)
 |dead (u:Value):aD G w u .dead
def kE:ak4 (ak5×D)->ak5->ak6 D
 |[],_=>none
 |(k,d)::l,s=>bif bL k==bL s then some d else kE l s
structure se(S:Nat->Nat->Prop)(w:World)(es:Array MapEntry)(clock:Nat)(kv:List (ByteArray×D)):Prop where
 size:es.size<=maxLen
 stamped:MapKept.Stamped es clock
 yk:∀e∈es.toList,∃s d,e.key= .string s/\kE kv s=some d/\dz S w e.val d
 all:∀s d,kE kv s=some d->∃e∈es.toList,e.key= .string s
 len:es.size<=kv.length
 born:∀(i:Nat)(e:MapEntry),es[i]?=some e->e.born=i
 AS:clock=es.size
structure wg(S:Nat->Nat->Prop)(w:World)(es:Array MapEntry)(clock:Nat)(kv:List (ByteArray×D)):Prop where
 ok:se S w es clock kv
 ord:∀(i:Nat)(e:MapEntry),es[i]?=some e->∃p,kv[i]?=some p/\e.key= .string p.1/\dz S w e.val p.2
 all:kv.length=es.size
def ao.dZ(G:Gh)(n:Nat):ao->ak6 Nat
 | .cells _=>some (G.aM n)
 | .front _ _ _=>G.ow n
 | .vec _ _ _=>G.ow n
 | .map _=>some (G.aM n)
 | .ie _=>some (G.aM n)
 | .lp _ _ _ _ _=>some (G.aM n)
 | .it _ _=>some (G.aM n)
 | .eO _ _=>some (G.aM n)
 | .byt _ _=>G.ow n
 | .gone=>none
def bR(h:ak4 ao)(G:Gh)(n:Nat):ak6 Nat:=(h[n]?).bind (ao.dZ G n)
theorem dM{h:ak4 ao}{G:Gh}{n:Nat}{B:ao}(e:h[n]?=some B):bR h G n=B.dZ G n:=by unfold bR;rw[e];rfl
theorem sB{h:ak4 ao}{G:Gh}{n:Nat}(e:h[n]?=none):bR h G n=none:=by unfold bR;rw[e];rfl
theorem l9{h:ak4 ao}{G:Gh}{n b:Nat}(e:bR h G n=some b):∃B,h[n]?=some B/\B.dZ G n=some b:=by
 unfold bR at e;cases hx:h[n]? with
 |none=>rw[hx]at e;cases e
 |some B=>rw[hx]at e;exact⟨B,rfl,e⟩
def abl(v:ak8):Prop:=v= .slice none 0 0\/∃g n cap,v= .slice (some ⟨g,0,none⟩) n cap/\cap≠0
def er(G:Gh)(w:ak9)(n:Nat):ao->Prop
 | .cells cs=>¬G.Z (G.aM n)/\(∀o,¬G.S (G.aM n) o)/\∃(vs:Array ak8)(T:TypeId),w.heap[G.aM n]?=some (.cells vs T (0,0))/\vs.size=cs.length/\∀(i:Nat)(u:ak8)(c:AV),vs[i]?=some u->cs[i]?=some c->aD G w u c
 | .front e k len=>G.fl n=len/\len<=maxLen/\((G.ow n=none/\∃A,G.sg n= .slice A len len)\/
  ∃(g cap:Nat)(cur:Array ak8),G.ow n=some g/\G.sg n= .slice (some ⟨g,0,none⟩) len cap/\¬G.Z g/\w.heap[g]?=some (.cells cur e (0,0))/\len<=cap/\cap<=maxLen/\cur.size=cap*k/\∀o,len*k<=o->¬G.S g o)
 | .vec e k cs=>G.fl n=cs.length/\cs.length<=maxLen/\(∀c∈cs,c.length=k)/\((G.ow n=none/\cs=[]/\∃A,G.sg n= .slice A 0 0)\/
  ∃(g cap:Nat)(cur:Array ak8),G.ow n=some g/\G.sg n= .slice (some ⟨g,0,none⟩) cs.length cap/\¬G.Z g/\w.heap[g]?=some (.cells cur e (0,0))/\cs.length<=cap/\cap<=maxLen/\cur.size=cap*k/\(∀o,¬G.S g o)/\
   ∀(i j:Nat)(c:ak4 AV)(x:AV)(u:ak8),cs[i]?=some c->c[j]?=some x->cur[i*k+j]?=some u->aD G w u x)
 | .map kv=>¬G.Z (G.aM n)/\(∀o,¬G.S (G.aM n) o)/\∃(es:Array MapEntry)(clock:Nat),w.heap[G.aM n]?=some (.map es clock)/\se G.S w es clock kv
 | .ie kv=>¬G.Z (G.aM n)/\(∀o,¬G.S (G.aM n) o)/\∃(es:Array MapEntry)(clock:Nat),w.heap[G.aM n]?=some (.map es clock)/\wg G.S w es clock kv
 | .lp ls p as bd cs=>¬G.Z (G.aM n)/\(∀o,¬G.S (G.aM n) o)/\∃(fn:FuncId)(tm:Array ak8)(D:Nat),w.heap[G.aM n]?=some (.loop {state:=ls.st,pending:=ls.pd,fn:=fn,tmps:=tm,params:= #[p],assign:=as,body:=bd,defers:=D})/\tm.size=cs.length/\∀(i:Nat)(u:ak8)(c:AV),tm[i]?=some u->cs[i]?=some c->aD G w u c
 | .it sn cs=>¬G.Z (G.aM n)/\(∀o,¬G.S (G.aM n) o)/\∃(fn:Nat)(vs:Array ak8)(_:Unit),w.heap[G.aM n]?=some (.mapIter (some fn) sn.1 sn.2.toArray sn.1)/\(vs.size=cs.length/\vs= #[.map (some fn)])/\∀(i:Nat)(u:ak8)(c:AV),vs[i]?=some u->cs[i]?=some c->aD G w u c
 | .eO T cs=>¬G.Z (G.aM n)/\(∀o,¬G.S (G.aM n) o)/\∃(_:Unit)(vs:Array ak8)(p:ak8),w.heap[G.aM n]?=some (.cells (#[p]++vs) T (0,0))/\(vs.size=cs.length/\(p= .pointer none\/p= .pointer (some ⟨G.aM n,0,none⟩))/\∀v∈vs.toList,abl v)/\∀(i:Nat)(u:ak8)(c:AV),vs[i]?=some u->cs[i]?=some c->aD G w u c
 | .byt e b=>G.fl n=b.size/\b.size<=maxLen/\((G.ow n=none/\b.size=0/\∃A,G.sg n= .slice A 0 0)\/
  ∃(g cap:Nat)(cur:Array ak8),G.ow n=some g/\G.sg n= .slice (some ⟨g,0,none⟩) b.size cap/\¬G.Z g/\w.heap[g]?=some (.cells cur e (0,0))/\b.size<=cap/\cap<=maxLen/\cur.size=cap/\(∀o,¬G.S g o)/\∀(i:Nat)(u:UInt8),(bL b)[i]?=some u->cur[i]?=some (.int .u8 u.toNat))
 | .gone=>True
def GC(G:Gh)(w:ak9):Prop:=(∀(g:Nat)(l:ak4 ak8),(g,l)∈w8->∀(j:Nat)(v:ak8),l[j]?=some v->G.S g j/\w.cell? ⟨g,j,none⟩=some v)/\G.M<=w.heap.size
structure bU(G:Gh)(w:World)(h:List ao):Prop where
 len:h.length=G.N
 z:∀b,G.Z b->b<w.heap.size
 S:∀b o,G.S b o->b<w.heap.size
 dn:∀(n:Nat)(B:ao),h[n]?=some B->er G w n B
 inj:∀(m n b:Nat),bR h G m=some b->bR h G n=some b->m=n
 gl:GC G w
structure bP(N:Nat)(G:Gh)(w:World)(G':Gh)(w':World):Prop where
 size:w.heap.size<=w'.heap.size
 S:∀b o,G.S b o->G'.S b o
 cell:∀b o,G.S b o->w'.cell? ⟨b,o,none⟩=w.cell? ⟨b,o,none⟩
 aM:∀n,n<N->G'.aM n=G.aM n
 fr:∀n,n<N->(G'.fl n=G.fl n/\G'.sg n=G.sg n)\/G.fl n<G'.fl n
 Z:((∀b,G.Z b->G'.Z b)/\∀b,G'.Z b->G.Z b\/w.heap.size<=b)/\G'.M=G.M
 old:∀b,G.Z b->w'.heap[b]?=w.heap[b]?
 os:w'.os=w.os
 tape:w'.tape=w.tape
 output:w'.output=w.output
 new:∀b o,G'.S b o->G.S b o\/¬G.Z b
theorem gQ{Z Z':Nat->Prop}{m M M':Nat}(h:Z'=Z)(hM:M'=M:=by rfl):((∀b,Z b->Z' b)/\∀b,Z' b->Z b\/m<=b)/\M'=M:=⟨⟨λ_ k=>h▸k,λ_ k=> .inl (h▸k)⟩,hM⟩
theorem bP.refl(N:Nat)(G:Gh)(w:ak9):bP N G w G w:=
 ⟨akr _,λ_ _ h=>h,λ_ _ _=>rfl,λ_ _=>rfl,λ_ _=> .inl ⟨rfl,rfl⟩,gQ rfl,λ_ _=>rfl,rfl,rfl,rfl,λ_ _ h=> .inl h⟩
theorem bP.trans{N:Nat}{G G1 G2:Gh}{w w1 w2:ak9}(h:bP N G w G1 w1)(k:bP N G1 w1 G2 w2):bP N G w G2 w2:=
 ⟨aky h.size k.size,λb o hs=>k.S b o (h.S b o hs),λb o hs=>(k.cell b o (h.S b o hs)).trans (h.cell b o hs),λn hn=>(k.aM n hn).trans (h.aM n hn),
  λn hn=>by
   rcases h.fr n hn with⟨J,h2⟩|J<;>rcases k.fr n hn with⟨k1,k2⟩|k1
   ·exact .inl ⟨k1.trans J,k2.trans h2⟩
   ·exact .inr (J▸k1)
   ·exact .inr (k1▸J)
   ·exact .inr (Nat.lt_trans J k1),
  ⟨⟨λb hb=>k.Z.1.1 b (h.Z.1.1 b hb),λb hb=>(k.Z.1.2 b hb).elim (h.Z.1.2 b) λhs=> .inr (aky h.size hs)⟩,k.Z.2.trans h.Z.2⟩,λb hb=>(k.old b (h.Z.1.1 b hb)).trans (h.old b hb),k.os.trans h.os,k.tape.trans h.tape,k.output.trans h.output,λb o hs=>(k.new b o hs).elim (h.new b o) (λhn=> .inr λhz=>hn (h.Z.1.1 b hz))⟩
theorem bP.less{N M:Nat}{G G':Gh}{w w':ak9}(h:bP N G w G' w')(hM:M<=N):bP M G w G' w':=
 ⟨h.size,h.S,h.cell,λn hn=>h.aM n (akE hn hM),λn hn=>h.fr n (akE hn hM),h.Z,h.old,h.os,h.tape,h.output,h.new⟩
theorem bP.kH{N:Nat}{G G':Gh}{w w':ak9}(h:bP N G w G' w'){b:Nat}(hb:b<w.heap.size)(hz:¬G.Z b):¬G'.Z b:=λk=>(h.Z.1.2 b k).elim hz λhs=>akU _ (akE hb hs)
def qn(G:Gh)(w:ak9)(ds:ak4 Deferred):Prop:=∃l:ak4 Nat,l.Nodup/\ds=l.map (λD=>{target:= .collected D,args:= #[]})/\∀D∈l,G.M<=D/\G.Z D/\w.heap[D]?=some (.deferred (some []))
theorem qn.nil(G:Gh)(w:ak9):qn G w []:=⟨[],List.nodup_nil,rfl,λ_ h=>absurd h akW⟩
theorem qn.keep{N:Nat}{G G':Gh}{w w':ak9}{ds:ak4 Deferred}(h:qn G w ds)(hE:bP N G w G' w'):qn G' w' ds:=
 let ⟨l,J,h2,h3⟩:=h
 ⟨l,J,h2,λD hD=>⟨hE.Z.2▸(h3 D hD).1,hE.Z.1.1 D (h3 D hD).2.1,(hE.old D (h3 D hD).2.1).trans (h3 D hD).2.2⟩⟩
theorem GC.keep{N:Nat}{G G':Gh}{w w':ak9}(h:GC G w)(hE:bP N G w G' w'):GC G' w':=⟨λg l hm j v hv=>
 ⟨hE.S _ _ (h.1 g l hm j v hv).1,(hE.cell _ _ (h.1 g l hm j v hv).1).trans (h.1 g l hm j v hv).2⟩,by rw[hE.Z.2];exact aky h.2 hE.size⟩
theorem dz.keep{S S':Nat->Nat->Prop}{w w':ak9}(hS:∀b o,S b o->S' b o)(hc:∀b o,S b o->w'.cell? ⟨b,o,none⟩=w.cell? ⟨b,o,none⟩){u:ak8}{x:D}(h:dz S w u x):dz S' w' u x:=by
 induction h with
 |v u=>exact .v u
 |sl A b o c k xs u hA fM hm hk pC _ ih=>
  exact .sl A b o c k xs u hA fM hm hk (λi j hi hj=>⟨hS _ _ (pC i j hi hj).1,(hc _ _ (pC i j hi hj).1).trans (pC i j hi hj).2.1,(pC i j hi hj).2.2⟩) ih
 |ag vs ds hl _ ih=>exact .ag vs ds hl ih
theorem m4.keep{S S':Nat->Nat->Prop}{w w':ak9}(hS:∀b o,S b o->S' b o)(hc:∀b o,S b o->w'.cell? ⟨b,o,none⟩=w.cell? ⟨b,o,none⟩){u:ak8}{x:fp}(h:m4 S w u x):m4 S' w' u x:=by
 induction h with
 |d h=>exact .d (h.keep hS hc)
 |bn c off b o u J h2=>exact .bn c off b o u (λj hj=>⟨hS _ _ (J j hj).1,(hc _ _ (J j hj).1).trans (J j hj).2⟩) (λj d hd=>(h2 j d hd).keep hS hc)
 |fn f vs cs hl _ ih=>exact .fn f vs cs hl ih
 |m7 f vs cs hl _ ih=>exact .m7 f vs cs hl ih
theorem aD.keep{G G':Gh}{w w':ak9}(hE:bP G.N G w G' w')(hN:G.N<=G'.N){u:ak8}{x:AV}(h:aD G w u x):aD G' w' u x:=by
 induction h with
 |d h=>exact .d (h.keep hE.S hE.cell)
 |agg vs cs hl _ ih=>exact .agg vs cs hl ih
 |aW vs cs hl _ ih=>exact .aW vs cs hl ih
 |ptr n off h=>rw[<-hE.aM n h];exact .ptr n off (akE h hN)
 |bn xs i off b o u x hx hS hu=>exact .bn xs i off b o u x hx (λj hj=>⟨hE.S _ _ (hS j hj).1,(hE.cell _ _ (hS j hj).1).trans (hS j hj).2⟩) (λj d hd=>(hu j d hd).keep hE.S hE.cell)
 |own n xs h hp hle hf=>
  refine .own n xs (akE h hN) (hp.keep hE.S hE.cell) ?_ ?_
  ·rcases hE.fr n h with⟨J,_⟩|J
   ·omega
   ·omega
  ·intro e;rcases hE.fr n h with⟨J,h2⟩|J
   ·rw[h2];exact hf (e.trans J)
   ·omega
 |full xs hp hf=>exact .full xs (hp.keep hE.S hE.cell) hf
 |row n off len cap k h hl hm=>rw[<-hE.aM n h];exact .row n off len cap k (akE h hN) hl hm
 |fn f vs cs hl _ ih=>exact .fn f vs cs hl ih
 |mp n h=>rw[<-hE.aM n h];exact .mp n (akE h hN)
 |cp n h=>rw[<-hE.aM n h];exact .cp n (akE h hN)
 |vec n o len L k h hs hL hf=>
  refine .vec n o len L k (akE h hN) hs ?_ ?_
  ·rcases hE.fr n h with⟨J,_⟩|J<;>omega
  ·intro e;rcases hE.fr n h with⟨J,h2⟩|J
   ·rw[h2];exact hf (e.trans J)
   ·omega
 |dF n i j L k h hs hL hf=>
  refine .dF n i j L k (akE h hN) hs ?_ ?_
  ·rcases hE.fr n h with⟨J,_⟩|J<;>omega
  ·intro e;rcases hE.fr n h with⟨J,h2⟩|J
   ·rw[h2];exact hf (e.trans J)
   ·omega
 |hid h J=>exact .hid (h.keep hE.S hE.cell) J
 |dead u=>exact .dead u
structure St where
 n:Nat
 t:List (Nat×AV)
 h:List ao
def bw:ak4 (Nat×AV)->Nat->AV
 |[],_=> .dead
 |(k,x)::l,i=>bif i==k then x else bw l i
theorem kO(k:Nat)(x:AV)(l:ak4 (Nat×AV))(i:Nat):bw ((k,x)::l) i=if i=k then x else bw l i:=by
 simp only[bw,cond_eq_ite,beq_iff_eq]
def gy(b:Bool)(p:Prop):Prop:=cond b p False
theorem bV{b:Bool}{p:Prop}:gy b p↔b=true/\p:=by cases b<;>simp [gy]
def ct(a b:Nat):Bool:=a-b==0
theorem dy{a b:Nat}:ct a b=true↔a<=b:=by simp [ct];omega
def U8:IntKind->Nat
 | .i8=>0| .i16=>1| .i32=>2| .i64=>3| .u8=>4| .u16=>5| .u32=>6| .u64=>7
def wj(a b:IntKind):Bool:=U8 a==U8 b
theorem Ll{a b:IntKind}:wj a b=true↔a=b:=by cases a<;>cases b<;>decide
def St.put(s:St)(dst:ak6 Nat)(x:AV):St:=
 match dst with
 |none=>s
 |some d=>bif s.n-d==0 then s else{s with t:=(d,x)::s.t}
theorem qd{s:St}{d:Nat}(h:d<s.n)(x:AV):s.put (some d) x={s with t:=(d,x)::s.t}:=by
 have:(s.n-d==0)=false:=by simp;omega
 simp only[St.put,this,cond_false]
theorem Ca{s:St}{d:Nat}(h:¬d<s.n)(x:AV):s.put (some d) x=s:=by
 have:(s.n-d==0)=true:=by simp;omega
 simp only[St.put,this,cond_true]
def St.wh(s:St)(h:ak4 ao):St:={s with h:=h}
def OX:ak8->AV
 | .agg vs=> .agg (vs.toList.map λu=> .d (.v u))
 | .tuple vs=> .aW (vs.toList.map λu=> .d (.v u))
 |u=> .d (.v u)
def ev(s:St):Operand->AV
 | .tmp t=>bw s.t t
 | .const v=>OX v
 | .func f=> .fn f []
 | .global g=>match xw w8 g with
   |some l=> .bn [l.map .v] 0 0
   |none=> .dead
def AV.jR:AV->Bool
 | .d (.v u)=>u.oneCell'
 | .d (.sl _)| .ptr .. | .bn .. | .own .. | .full _| .row .. | .fn .. | .mp _| .cp _| .hid _| .vec .. | .dF .. =>true
 | .agg _| .aW _| .dead| .d (.ag _)=>false
def AV.cells:AV->ak4 AV
 | .agg cs=>cs
 |x=>[x]
def AV.jl:AV->Bool
 | .agg cs=>cs.all AV.jR
 |x=>x.jR
def D.sx:D->D
 | .v (.slice none 0 0)=> .sl []
 |x=>x
def AV.vy:AV->ak6 D
 | .d x=>some x.sx
 | .own _ xs=>some (.sl xs)
 | .full xs=>some (.sl xs)
 |_=>none
def AV.fF:AV->ak6 (ak4 (ak4 D))
 | .d (.sl xs)=>some xs
 | .own _ xs=>some xs
 | .full xs=>some xs
 | .d (.v (.slice none 0 0))=>some []
 |_=>none
def AV.int?:AV->ak6 Int
 | .d (.v (.int _ n))=>some n
 |_=>none
def fp.av:fp->AV
 | .d x=> .d x
 | .bn c off=> .bn [c] 0 off
 | .fn f cs=> .hid (.fn f cs)
 | .m7 f cs=> .hid (.m7 f cs)
def fp.app(as:ak4 AV):fp->ak6 (FuncId×ak4 AV)
 | .fn g cs=>some (g,as++cs.map fp.av)
 | .m7 g cs=>some (g,cs.map fp.av++as)
 |_=>none
mutual
def AV.cap:AV->ak6 fp
 | .d x=>some (.d x)
 | .own _ xs=>some (.d (.sl xs))
 | .full xs=>some (.d (.sl xs))
 | .bn xs i off=>match xs[i]? with
   |some c=>some (.bn c off)
   |none=>none
 | .fn f cs=>match AV.vG cs with
   |some l=>some (.fn f l)
   |none=>none
 | .hid c=>some c
 |_=>none
def AV.vG:ak4 AV->ak6 (ak4 fp)
 |[]=>some []
 |x::l=>match x.cap,AV.vG l with
  |some c,some l=>some (c::l)
  |_,_=>none
end
def LR(f:FuncId)(first di:ak4 AV):ak6 AV:=
 match first with
 |[]=>some (.fn f di)
 |l=>match AV.vG l,di with
  |some cs,[]=>some (.hid (.m7 f cs))
  |_,_=>none
def gj(P:ak7)(t:TypeId):ak6 Nat:=(P.info? t).map (·.size)
def lK(P:ak7)(t:TypeId):ak6 Bool:=(P.underlying t).map fun| .struct _=>true| .array .. =>true|_=>false
def qU(P:ak7)(t:TypeId)(i:Nat):ak6 (Nat×Nat×Bool):=
 match P.underlying t with
 |some (.struct fs)=>match fs[i]? with
  |some f=>match gj P f.type,lK P f.type with
   |some (k+1),some g=>some (f.offset,k+1,g)
   |_,_=>none
  |none=>none
 |_=>none
def eS(P:ak7)(t:TypeId):ak6 (TypeId×Nat):=
 match P.underlying t with
 |some (.slice e)=>(gj P e).map λk=>(e,k)
 |_=>none
def sE(P:ak7)(t:TypeId):ak6 (Nat×TypeId×Nat):=
 match P.underlying t with
 |some (.array n e)=>(gj P e).map λk=>(n,e,k)
 |_=>none
def gZ(P:ak7)(t:TypeId):Bool:=match P.underlying t with|some .string=>true|_=>false
def zg(P:ak7)(t:TypeId):Bool:=match P.underlying t with|some .bool=>true|_=>false
def pn(P:ak7)(t:TypeId):ak6 IntKind:=match P.underlying t with|some (.int k)=>some k|_=>none
def BP(P:ak7)(t:TypeId):Bool:=match P.underlying t with|some (.int .u8)=>true|_=>false
def iw(P:ak7)(t:TypeId):ak6 ak8:=(P.info? t).bind (·.zero)
def px(P:ak7)(t:TypeId):ak6 Nat:=(P.info? t).map (·.bytes)
def Oz(op:BinOp)(k:IntKind)(a b:Int):ak6 ak8:=
 match op with
 | .add=>some (.int k (k.wrap (a+b)))
 | .sub=>some (.int k (k.wrap (a-b)))
 | .mul=>some (.int k (k.wrap (a*b)))
 | .eql=>some (.bool (a==b))
 | .neq=>some (.bool (a !=b))
 | .lss=>some (.bool (a<b))
 | .leq=>some (.bool (a<=b))
 | .gtr=>some (.bool (a>b))
 | .geq=>some (.bool (a>=b))
 | .and=>some (.int k (k.wrap (BitVec.ofInt k.bits a&&&BitVec.ofInt k.bits b).toNat))
 | .or=>some (.int k (k.wrap (BitVec.ofInt k.bits a|||BitVec.ofInt k.bits b).toNat))
 | .xor=>some (.int k (k.wrap (BitVec.ofInt k.bits a^^^BitVec.ofInt k.bits b).toNat))
 | .andNot=>some (.int k (k.wrap (BitVec.ofInt k.bits a&&& ~~~BitVec.ofInt k.bits b).toNat))
 |_=>none
def L4(op:BinOp)(a b:ak5):ak6 ak8:=
 match op with
 | .eql=>some (.bool (bL a==bL b))
 | .neq=>some (.bool (!(bL a==bL b)))
 | .lss=>some (.bool (Op.bytesLess (bL a) (bL b)))
 | .leq=>some (.bool (Op.bytesLess (bL a) (bL b)||bL a==bL b))
 | .gtr=>some (.bool (!(Op.bytesLess (bL a) (bL b)||bL a==bL b)))
 | .geq=>some (.bool (!Op.bytesLess (bL a) (bL b)))
 |_=>none
def Kw(op:BinOp)(a b:Bool):ak6 ak8:=
 match op with
 | .eql=>some (.bool (a==b))
 | .neq=>some (.bool (!(a==b)))
 |_=>none
def Oa(op:BinOp)(k:IntKind)(a b:Int):ak6 ak8:=
 match op with
 | .quo=>some (.int k (k.wrap (a.tdiv b)))
 | .rem=>some (.int k (a.tmod b))
 |_=>none
def MP(op:BinOp)(k:IntKind)(a b:Int):ak6 ak8:=
 match op with
 | .shl=>some (.int k (k.wrap (a*2^(min b.toNat k.bits))))
 | .shr=>some (.int k (a.fdiv (2^(min b.toNat k.bits))))
 |_=>none
def II(op:UnOp)(x:ak8):ak6 ak8:=
 match op,x with
 | .not, .bool b=>some (.bool (!b))
 | .neg, .int k n=>some (.int k (k.wrap (0-n)))
 | .xor, .int k n=>some (.int k (k.wrap (BitVec.ofInt k.bits (if k.signed then-1 else k.max)^^^BitVec.ofInt k.bits n).toNat))
 |_,_=>none
def iz(cs:ak4 AV)(off:Nat)(ys:ak4 AV):ak4 AV:=cs.take off++ys++cs.drop (off+ys.length)
def nf(k:Nat):Nat->ak4 D->ak4 (ak4 D)
 |0,_=>[]
 |n+1,l=>l.take k::nf k n (l.drop k)
def o6(places:ak4 (Nat×Nat)):ak4 AV->ak4 (Nat×AV)->ak6 (ak4 AV)
 |cs,[]=>some cs
 |cs,(i,x)::r=>
  match places[i]? with
  |some (off,k)=>bif x.cells.length==k&&ct (off+k) cs.length then o6 places (iz cs off x.cells) r else none
  |none=>none
def mr:ak4 AV->ak6 (ak4 D)
 |[]=>some []
 |x::r=>match x.vy,mr r with
  |some d,some l=>some (d::l)
  |_,_=>none
def AT(P:ak7)(fs:ak4 Field):ak6 (ak4 (Nat×Nat)):=fs.mapM λf=>(gj P f.type).map λk=>(f.offset,k)
def GD(P:ak7)(f:FuncId):Bool:=
 match P.funcs[f]? with
 |some fn=>fn.body.isSome&& !(fn.name== "runtime.NumGoroutine")
 |none=>false
def cZ(P:ak7)(f:FuncId)(args:ak4 AV)(h:ak4 ao)(K:AV->ak4 ao->Prop):Prop:=
 GD P f=true/\∀(G:Gh)(w:ak9)(vs:Array ak8),bU G w h->vs.size=args.length->(∀(i:Nat)(u:ak8)(c:AV),vs[i]?=some u->args[i]?=some c->aD G w u c)->
  Calls P f vs w λe w'=>∃v G' r h',e= .returned v/\bP G.N G w G' w'/\G.N<=G'.N/\bU G' w' h'/\aD G' w' v r/\K r h'
theorem cZ.mono{P:ak7}{f:FuncId}{args:ak4 AV}{h:ak4 ao}{K K':AV->ak4 ao->Prop}(hc:cZ P f args h K)(hk:∀r h',K r h'->K' r h'):cZ P f args h K':=
 ⟨hc.1,λG w vs hi hl hr=>(hc.2 G w vs hi hl hr).mono λ_ _ ⟨v,G',r,h',e,x1,x2,x3,x4,x5⟩=>⟨v,G',r,h',e,x1,x2,x3,x4,hk _ _ x5⟩⟩
def rN(h:ak4 ao)(p:AV)(K:ak4 AV->Nat->Prop):Prop:=
 match p with
 | .ptr n off=>match h[n]? with
   |some (.cells cs)=>K cs off
   |_=>False
 | .bn xs i off=>match xs[i]? with
   |some cs=>K (cs.map .d) off
   |none=>False
 |_=>False
def nx(P:ak7)(t:TypeId)(h:ak4 ao)(p:AV)(K:AV->Prop):Prop:=
 rN h p λcs off=>match lK P t,gj P t with
  |some true,some k=>gy (ct (off+k) cs.length) (K (.agg ((cs.drop off).take k)))
  |some false,some _=>match cs[off]? with
   |some c=>K c
   |none=>False
  |_,_=>False
def wG(P:ak7)(t:TypeId)(h:ak4 ao)(p x:AV)(K:ak4 ao->Prop):Prop:=
 match p with
 | .ptr n off=>match h[n]? with
   |some (.cells cs)=>match gj P t with
    |some k=>gy (k==x.cells.length&&x.jl&&ct (off+x.cells.length) cs.length) (K (h.set n (.cells (iz cs off x.cells))))
    |none=>False
   |_=>False
 |_=>False
def rJ(P:ak7)(T:TypeId)(x i:AV)(K:AV->Prop):Prop:=
 match eS P T with
 |some (_,k)=>
  match x with
  | .row n off len _ k'=>match i.int? with
    |some z=>gy (k'==k) (0<=z/\z<len/\K (.ptr n (off+z.toNat*k)))
    |none=>False
  |_=>match x.fF,i.int? with
   |some xs,some z=>0<=z/\(match xs[z.toNat]? with|some c=>c.length=k/\K (.bn [c] 0 0)|none=>False)
   |_,_=>False
 |none=>match sE P T,x,i.int? with
  |some (n,_,k), .ptr b off,some z=>0<=z/\z<n/\K (.ptr b (off+z.toNat*k))
  |some (n,_,k), .bn xs i off,some z=>gy (k==1) (0<=z/\z<n/\(match xs[i]? with|some c=>(match c[off+z.toNat]? with|some d=>K (.bn [[d]] 0 0)|none=>False)|none=>False))
  |_,_,_=>False
def qw(P:ak7)(T:TypeId)(x:AV)(K:Nat->Prop):Prop:=
 match x with
 | .d (.v (.string s))=>gy (gZ P T) (K s.size)
 | .row _ _ len _ _=>gy (eS P T).isSome (K len)
 |x=>match x.fF with
  |some xs=>gy (eS P T).isSome (K xs.length)
  |none=>False
def jF(ρ:Operand->AV)(x:ak6 Operand)(aek:Nat)(K:Nat->Prop):Prop:=
 match x with
 |none=>K aek
 |some y=>match (ρ y).int? with
  |some z=>0<=z/\K z.toNat
  |none=>False
def tA(P:ak7)(T:TypeId)(ρ:Operand->AV)(x:AV)(lo hi mx:ak6 Operand)(K:AV->Prop):Prop:=
 match mx with
 |none=>
  match x with
  | .d (.v (.string b))=>gy (gZ P T) (jF ρ hi b.size λh=>h<=b.size/\jF ρ lo 0 λl=>l<=h/\K (.d (.v (.string (b.extract l h)))))
  | .ptr n off=>match sE P T with
    |some (m,_,k)=>gy (ct m 4096) (jF ρ hi m λh=>gy (ct h m) (jF ρ lo 0 λl=>gy (ct l h&& !ct m l) (K (.row n (off+l*k) (h-l) (m-l) k))))
    |none=>False
  |x=>match x.fF,eS P T with
   |some xs,some (_,k)=>(∀c∈xs,c.length=k)/\jF ρ hi xs.length λh=>h<=xs.length/\jF ρ lo 0 λl=>l<=h/\K (.d (.sl ((xs.take h).drop l)))
   |_,_=>False
 |some m=>match lo,hi with
  |none,some y=>match x.fF,eS P T with
   |some xs,some (_,k)=>(∀c∈xs,c.length=k)/\jF ρ (some m) 0 λc=>c<=xs.length/\jF ρ (some y) 0 λh=>h=c/\K (.full (xs.take h))
   |_,_=>False
  |_,_=>False
def sr(h:ak4 ao)(k:Nat)(x:AV)(K:ak4 (ak4 D)->Prop):Prop:=
 match x with
 | .row n off len _ k'=>match h[n]? with
   |some (.cells cs)=>match mr ((cs.drop off).take (len*k))with
    |some ds=>gy (k'==k&&ct (off+len*k) cs.length&&((cs.drop off).take (len*k)).all AV.jR) (K (nf k len ds))
    |none=>False
   |_=>False
 |x=>match x.fF with
  |some ys=>(∀c∈ys,c.length=k)/\K ys
  |none=>False
def sD(P:ak7)(T:TypeId)(h:ak4 ao)(x y:AV)(K:AV->ak4 ao->Prop):Prop:=
 match eS P T with
 |some (e,k)=>match iw P e,px P e with
  |some z,some de=>gy (ct 1 k&&z.cells.toList.length==k)<|sr h k y λys=>
   match x with
   | .own n xs=>match h[n]? with
     |some (.front e' k' len)=>gy (e'==e&&k'==k)<|len=xs.length/\(∀c∈xs,c.length=k)/\xs.length+ys.length<=maxLen/\(xs.length+ys.length)*de<=140737488355328/\K (.own n (xs++ys)) (h.set n (.front e k (xs.length+ys.length)))
     |_=>False
   | .d (.v (.slice none 0 0))=>ys.length<=maxLen/\ys.length*de<=140737488355328/\K (.own h.length ys) (h++[.front e k ys.length])
   | .full xs=>(∀c∈xs,c.length=k)/\xs.length+ys.length<=maxLen/\(xs.length+ys.length)*de<=140737488355328/\K (.own h.length (xs++ys)) (h++[.front e k (xs.length+ys.length)])
   |_=>False
  |_,_=>False
 |none=>False
def KK(P:ak7)(T:TypeId):ak6 (ak4 (Nat×Nat)):=
 match P.underlying T with
 |some (.struct fs)=>AT P fs.toList
 |_=>none
def vf(P:ak7)(T:TypeId)(ps:ak4 (Nat×AV))(K:AV->Prop):Prop:=
 match KK P T,iw P T with
 |some places,some z=>match o6 places (z.cells.toList.map λu=> .d (.v u)) ps with
  |some cs=>gy ((ps.all λp=>p.2.jl)&&z.cells.toList.all Value.oneCell') (K (.agg cs))
  |none=>False
 |_,_=>False
def rT(k:Nat):Nat->Nat->ak4 (Nat×Nat)
 |_,0=>[]
 |o,n+1=>(o,k)::rT k (o+k) n
def qY:Nat->ak4 AV->ak4 AV
 |0,_=>[]
 |n+1,l=>l++qY n l
def uL(P:ak7)(T:TypeId)(len:Nat)(ps:ak4 (Nat×AV))(K:AV->Prop):Prop:=
 match eS P T with
 |some (e,k)=>match iw P e with
  |some z=>match o6 (rT k 0 len) (qY len (z.cells.toList.map λu=> .d (.v u))) ps with
   |some cs=>match mr cs with
    |some ds=>gy (ct 1 k&&ct (len*k) 16777216&&z.cells.toList.length==k&&z.cells.toList.all Value.oneCell'&&(ps.all λp=>p.2.jl)) (K (.full (nf k len ds)))
    |none=>False
   |none=>False
  |none=>False
 |none=>False
def C5(P:ak7)(t:TypeId)(x y:AV):ak6 Bool:=
 match x,y with
 | .d (.v (.int k a)), .d (.v (.int k' b))=>bif wj k k'&&(pn P t).isSome then some (a==b)else none
 | .d (.v (.string a)), .d (.v (.string b))=>bif gZ P t then some (bL a==bL b)else none
 | .d (.v (.bool a)), .d (.v (.bool b))=>bif zg P t then some (a==b)else none
 |_,_=>none
def x8(P:ak7)(sub:TypeId->ak4 AV->ak4 AV->ak6 Bool):ak4 Field->ak4 AV->ak4 AV->ak6 Bool
 |[],_,_=>some true
 |f::fs,xs,ys=>bif f.name== "_" then none else
  match lK P f.type with
  |some false=>match xs[f.offset]?,ys[f.offset]? with
   |some x,some y=>match C5 P f.type x y,x8 P sub fs xs ys with
    |some a,some b=>some (a&&b)
    |_,_=>none
   |_,_=>none
  |some true=>match gj P f.type with
   |some k=>bif ct (f.offset+k) xs.length&&ct (f.offset+k) ys.length then match sub f.type ((xs.drop f.offset).take k) ((ys.drop f.offset).take k),x8 P sub fs xs ys with
    |some a,some b=>some (a&&b)
    |_,_=>none
    else none
   |none=>none
  |none=>none
def Ep(P:ak7):Nat->TypeId->ak4 AV->ak4 AV->ak6 Bool
 |0=>λ_ _ _=>none
 |d+1=>λT xs ys=>match P.underlying T with
  |some (.struct fs)=>bif P.stoodInHeld T then none else x8 P (Ep P d) fs.toList xs ys
  |_=>none
def Ip(P:ak7)(T:TypeId)(xs ys:ak4 AV):ak6 Bool:=
 match P.underlying T with
 |some (.struct fs)=>bif P.stoodInHeld T||P.eqGuardType P.depth T then none else x8 P (Ep P 4) fs.toList xs ys
 |_=>none
def wi(op:BinOp)(b:Bool):ak6 ak8:=
 match op with
 | .eql=>some (.bool b)
 | .neq=>some (.bool (!b))
 |_=>none
def vN(P:ak7)(T:TypeId)(op:BinOp)(x y:AV)(K:AV->Prop):Prop:=
 match x,y with
 | .d (.v (.int k a)), .d (.v (.int k' b))=>
   match Oa op k a b with
   |some v=>gy (wj k k') (b≠0/\K (.d (.v v)))
   |none=>match MP op k a b with
    |some v=>0<=b/\K (.d (.v v))
    |none=>match Oz op k a b with
     |some v=>gy (wj k k') (K (.d (.v v)))
     |none=>False
 | .d (.v (.string a)), .d (.v (.string b))=>match L4 op a b with
   |some v=>K (.d (.v v))
   |none=>match op with
    | .add=>a.size+b.size<=maxLen/\K (.d (.v (.string (a++b))))
    |_=>False
 | .d (.v (.bool a)), .d (.v (.bool b))=>match Kw op a b with
   |some v=>gy (zg P T) (K (.d (.v v)))
   |none=>False
 | .agg xs, .agg ys=>match Ip P T xs ys with
   |some b=>match wi op b with
    |some v=>K (.d (.v v))
    |none=>False
   |none=>False
 |_,_=>False
def vD(op:UnOp)(x:AV)(K:AV->Prop):Prop:=
 match x with
 | .d (.v u)=>match II op u with
   |some v=>K (.d (.v v))
   |none=>False
 |_=>False
def vJ(P:ak7)(src dst:TypeId)(x:AV)(K:AV->Prop):Prop:=
 match x with
 | .d (.v (.int _ n))=>match pn P src,pn P dst with
   |some _,some k=>K (.d (.v (.int k (k.wrap n))))
   |_,_=>False
 | .d (.v (.string b))=>gy (gZ P src&&gZ P dst) (K (.d (.v (.string b))))
 |x=>match x.fF,eS P src with
  |some xs,some (e,_)=>gy (BP P e&&gZ P dst) (∃ns:ak4 Int,xs=ns.map (λn=>[.v (.int .u8 n)])/\K (.d (.v (.string ⟨(ns.map λn=>UInt8.ofNat n.toNat).toArray⟩))))
  |_,_=>False
def uu(P:ak7)(T:TypeId)(x:AV)(f:Nat)(K:AV->Prop):Prop:=
 match qU P T f,x with
 |some (off,k,true), .agg cs=>gy (ct (off+k) cs.length) (K (.agg ((cs.drop off).take k)))
 |some (off,_,false), .agg cs=>match cs[off]? with
  |some c=>K c
  |none=>False
 |_,_=>False
def tc(P:ak7)(T:TypeId):ak6 (TypeId×TypeId):=
 match P.underlying T with
 |some (.map k e)=>some (k,e)
 |_=>none
inductive Sd
 |no
 |lt (n:Nat)
def Sd.ok:Sd->Prop
 | .no=>True
 | .lt n=>n<maxLen
def DU:D->AV
 | .ag ds=> .agg (ds.map .d)
 |d=> .d d
def xX:ak8->AV
 | .agg vs=> .agg (vs.toList.map λv=> .d (D.sx (.v v)))
 |v=> .d (.v v)
def pN(WT:Bool)(z:ak8):ak6 D->AV
 |some d=>bif WT then .aW [DU d, .d (.v (.bool true))]else DU d
 |none=>bif WT then .aW [xX z, .d (.v (.bool false))]else xX z
def AV.Nv:AV->ak6 D
 | .agg cs=>(mr cs).map .ag
 |x=>x.vy
def oc(P:ak7)(op:Op)(ρ:Operand->AV)(h:ak4 ao):ak6 (AV×ak4 ao×Sd):=
 match op with
 | .makeMap T none=>match tc P T with
   |some _=>some (.mp h.length,h++[.map []], .no)
   |none=>none
 | .lookup T m i ok=>match tc P T with
   |some (k,e)=>match iw P e with
    |some z=>match ρ m,ρ i with
     | .mp n, .d (.v (.string s))=>match h[n]? with
       |some (.map kv)=>bif gZ P k then some (pN ok z (kE kv s),h, .no)else none
       |_=>none
     |_,_=>none
    |none=>none
   |none=>none
 | .mapUpdate T m i x=>match tc P T with
   |some (k,_)=>match ρ m,ρ i,(ρ x).Nv with
    | .mp n, .d (.v (.string s)),some d=>match h[n]? with
      |some (.map kv)=>bif gZ P k then some (.d (.v undef),h.set n (.map ((s,d)::kv)), .lt kv.length)else none
      |_=>none
    |_,_,_=>none
   |none=>none
 |_=>none
inductive VA
 |no
 |el (c:List AV)
 |st (c:List AV) (cs:List (List AV))
 |mk (cs:List (List AV)) (len m:Nat)
 |ap (cs ys:List (List AV)) (L len:Nat)
 |ix (i:Nat)
 |ol (o len:Nat)
def Kp(P:ak7)(t:TypeId)(c:ak4 AV)(j:Nat):ak6 AV:=
 match lK P t,gj P t with
 |some true,some k=>bif ct (j+k) c.length then some (.agg ((c.drop j).take k))else none
 |some false,some _=>c[j]?
 |_,_=>none
def ck(xs:ak4 (ak4 D)):ak4 (ak4 AV):=xs.map λc=>c.map AV.d
def xz(h:ak4 ao)(k:Nat)(y:AV)(ys:ak4 (ak4 AV)):Prop:=
 (∃xs,y.fF=some xs/\(∀c∈xs,c.length=k)/\ys=ck xs)\/(∃n o len L e cs,y= .vec n o len L k/\h[n]?=some (.vec e k cs)/\cs.length=L/\ys=(cs.drop o).take len/\∀c∈ys,c.all AV.jR=true)
def rZ(ρ:Operand->AV)(d:Int):ak6 Operand->ak6 Int
 |none=>some d
 |some y=>(ρ y).int?
def ia(P:ak7)(op:Op)(ρ:Operand->AV)(h:ak4 ao)(a:VA):ak6 (AV×ak4 ao×Prop):=
 match op with
 | .indexAddr T x i=>match ρ x,(ρ i).int?,eS P T,a with
   | .vec n o len L k,some z,some (_,k'), .ix i'=>match h[n]? with
     |some (.vec _ k2 cs)=>bif k'==k&&k2==k then some (.dF n i' 0 L k,h,cs.length=L/\0<=z/\z<len/\i'=o+z.toNat)else none
     |_=>none
   |_,_,_,_=>none
 | .fieldAddr S x f=>match ρ x,qU P S f with
   | .dF n i j L k,some (fo,_,_)=>some (.dF n i (j+fo) L k,h,True)
   |_,_=>none
 | .nilCheck x=>match ρ x with
   | .dF n i j L k=>some (.dF n i j L k,h,True)
   |_=>none
 | .load t p=>match ρ p,a with
   | .dF n i j L k, .el c=>match h[n]?,Kp P t c j with
     |some (.vec _ k' cs),some x=>bif k'==k then some (x,h,cs.length=L/\cs[i]?=some c)else none
     |_,_=>none
   |_,_=>none
 | .store t p x=>match ρ p,a with
   | .dF n i j L k, .st c cD=>match h[n]?,gj P t with
     |some (.vec e k' cs),some q=>bif k'==k&&q==(ρ x).cells.length&&(ρ x).jl&&ct (j+(ρ x).cells.length) k&&ct 1 k then some (.d (.v undef),h.set n (.vec e k cD),cs.length=L/\cs[i]?=some c/\cD=cs.set i (iz c j (ρ x).cells))else none
     |_,_=>none
   |_,_=>none
 | .slice T x lo hi none=>match ρ x,eS P T,a with
   | .vec n o len L k,some (_,k'), .ol o' gN=>match rZ ρ 0 lo,rZ ρ len hi with
     |some l,some u=>match h[n]? with
      |some (.vec _ k2 cs)=>bif k'==k&&k2==k then some (.vec n o' gN L k,h,cs.length=L/\0<=l/\l<=u/\u<=(L:Int)-o/\o'=o+l.toNat/\gN=u.toNat-l.toNat)else none
      |_=>none
     |_,_=>none
   |_,_,_=>none
 | .makeSlice T l c=>match eS P T,(ρ l).int?,(ρ c).int?,a with
   |some (e,k),some l,some c, .mk cs len m=>match iw P e,px P e with
    |some z,some de=>bif ct 1 k&&z.cells.toList.length==k&&z.cells.toList.all Value.oneCell' then some (.vec h.length 0 len m k,h++[.vec e k cs],0<=l/\l<=c/\l.toNat=len/\c.toNat=m/\cs=List.replicate m (z.cells.toList.map λu=> .d (.v u))/\m<=maxLen/\de*m<=281474976710656)else none
    |_,_=>none
   |_,_,_,_=>none
 | .call c=>match c.callee with
   | .builtin .len=>match c.args.toList,c.argTypes.toList with
     |[x],[T]=>match ρ x with
      | .vec n _ len L k=>match h[n]? with
        |some (.vec _ k2 cs)=>bif (eS P T).isSome&&k2==k then some (.d (.v (.int .i64 len)),h,cs.length=L)else none
        |_=>none
      |_=>none
     |_,_=>none
   | .builtin .append=>match c.args.toList,c.argTypes.toList with
     |[x,y],[T,U]=>match eS P T,eS P U,a with
      |some (e,k),some _, .ap cD ys L' gN=>match iw P e,px P e with
       |some z,some de=>bif ct 1 k&&z.cells.toList.length==k then
        match ρ x with
        | .vec n o len L k1=>match h[n]? with
          |some (.vec e1 k2 cs)=>bif k1==k&&k2==k&&e1==e then some (.vec n o gN L' k,h.set n (.vec e k cD),cs.length=L/\xz h k (ρ y) ys/\gN=len+ys.length/\
           ((o+len+ys.length<=L/\L'=L/\cD=cs.take (o+len)++ys++cs.drop (o+len+ys.length))\/(o=0/\len=L/\L'=L+ys.length/\cD=cs++ys/\L'<=maxLen/\L'*de<=140737488355328)))else none
          |_=>none
        | .d (.v (.slice none 0 0))=>some (.vec h.length 0 gN L' k,h++[.vec e k cD],xz h k (ρ y) ys/\cD=ys/\gN=ys.length/\L'=ys.length/\L'<=maxLen/\L'*de<=140737488355328)
        | .full xs=>some (.vec h.length 0 gN L' k,h++[.vec e k cD],xs=[]/\xz h k (ρ y) ys/\cD=ys/\gN=ys.length/\L'=ys.length/\L'<=maxLen/\L'*de<=140737488355328)
        |_=>none
       else none
       |_,_=>none
      |_,_,_=>none
     |_,_=>none
   |_=>none
 |_=>none
def Hc(mx:Bool)(k:IntKind):Int->ak4 AV->ak6 (IntKind×Int)
 |a,[]=>some (k,a)
 |a, .d (.v (.int _ b))::l=>Hc mx k (bif mx then(if b>a then b else a)else(if b<a then b else a)) l
 |_,_=>none
def Ab(mx:Bool):ak4 AV->ak6 (IntKind×Int)
 | .d (.v (.int k a))::l=>Hc mx k a l
 |_=>none
def cT(P:ak7)(o:Oper)(ρ:Operand->AV)(h:ak4 ao)(C:AV->ak4 ao->Prop):Prop:=
 match o.op with
 | .move x| .assign x=>C (ρ x) h
 | .pick c a b=>match ρ c with
   | .d (.v (.bool t))=>(t=true->C (ρ a) h)/\(t=false->C (ρ b) h)
   |_=>False
 | .alloc e=>match iw P e with
   |some z=>C (.ptr h.length 0) (h++[ao.cells (z.cells.toList.map λu=> .d (.v u))])
   |none=>False
 | .box _ x=>gy (ρ x).jl<|C (.ptr h.length 0) (h++[ao.cells (ρ x).cells])
 | .load t a=>nx P t h (ρ a) λx=>C x h
 | .store t a x=>wG P t h (ρ a) (ρ x) λh'=>C (.d (.v undef)) h'
 | .nilCheck x=>match ρ x with
   | .ptr n off=>C (.ptr n off) h
   | .bn xs i off=>C (.bn xs i off) h
   | .fn f cs=>C (.fn f cs) h
   |_=>False
 | .fieldAddr S x f=>match qU P S f with
   |some (fo,_,_)=>match ρ x with
    | .ptr n off=>C (.ptr n (off+fo)) h
    | .bn xs i off=>C (.bn xs i (off+fo)) h
    |_=>False
   |none=>False
 | .field T x f=>uu P T (ρ x) f λy=>C y h
 | .indexAddr T x i=>rJ P T (ρ x) (ρ i) λy=>C y h
 | .index T x i=>match ρ x,(ρ i).int? with
   | .d (.v (.string b)),some z=>gy (gZ P T) (0<=z/\(match b[z.toNat]? with|some c=>C (.d (.v (.int .u8 c.toNat))) h|none=>False))
   |_,_=>False
 | .build T ps=>vf P T (ps.toList.map λp=>(p.1,ρ p.2)) λy=>C y h
 | .buildSlice T len ps=>uL P T len (ps.toList.map λp=>(p.1,ρ p.2)) λy=>C y h
 | .slice T x lo hi mx=>tA P T ρ (ρ x) lo hi mx λy=>C y h
 | .extract x i=>match ρ x with
   | .aW cs=>match cs[i]? with
     |some c=>C c h
     |none=>False
   |_=>False
 | .makeFunc (.func f) first di=>match LR f (first.toList.map ρ) (di.toList.map ρ)with
   |some x=>C x h
   |none=>False
 | .binOp op T x y _=>vN P T op (ρ x) (ρ y) λv=>C v h
 | .unOp op _ x=>vD op (ρ x) λv=>C v h
 | .convert a b x=>vJ P a b (ρ x) λv=>C v h
 | .call c=>match c.callee with
   | .builtin .len=>match c.args.toList,c.argTypes.toList with
     |[x],[T]=>qw P T (ρ x) λn=>C (.d (.v (.int .i64 n))) h
     |_,_=>False
   | .builtin .append=>match c.args.toList,c.argTypes.toList with
     |[x,y],[T,U]=>gy (eS P U).isSome<|sD P T h (ρ x) (ρ y) λv h'=>C v h'
     |_,_=>False
   | .builtin .max=>match Ab true (c.args.toList.map ρ)with
     |some (k,a)=>C (.d (.v (.int k a))) h
     |none=>False
   | .builtin .min=>match Ab false (c.args.toList.map ρ)with
     |some (k,a)=>C (.d (.v (.int k a))) h
     |none=>False
   | .value f=>match ρ f with
     | .fn g di=>cZ P g (c.args.toList.map ρ++di) h λr h'=>C r h'
     | .hid q=>∃g as,q.app (c.args.toList.map ρ)=some (g,as)/\cZ P g as h λr h'=>C r h'
     |_=>False
   |_=>False
 |op=>match oc P op ρ h with
  |some (x,h',p)=>p.ok/\C x h'
  |none=>False
def B6(P:ak7)(o:Oper)(K:St->Prop)(s:St):Prop:=
 match o.op with
 | .binOp op T x y _=>match (ev s x).fF,ev s y,eS P T,wi op true,wi op false with
   |some xs, .d (.v (.slice none 0 0)),some _,some v1,some v2=>(xs=[]->K (s.put o.dst (.d (.v v1))))/\K (s.put o.dst (.d (.v v2)))
   |_,_,_,_,_=>False
 |_=>False
def FD(P:ak7)(o:Oper)(K:St->Prop)(s:St):Prop:=∃a x h' p,ia P o.op (ev s) s.h a=some (x,h',p)/\p/\K ((s.wh h').put o.dst x)
def pZ(P:ak7)(o:Oper)(K:St->Prop)(s:St):Prop:=cT P o (ev s) s.h λx h=>K ((s.wh h).put o.dst x)
def acE(P:ak7)(o:Oper)(K:St->Prop)(s:St):Prop:=FD P o K s\/B6 P o K s\/pZ P o K s
theorem lg(b o n:Nat):(⟨b,o,none⟩:Addr).add n=⟨b,o+n,none⟩:=by unfold Addr.add;split<;>simp_all
structure db(G:Gh)(w:World)(a:Act)(s:St):Prop where
 size:a.tmps.size=s.n
 tmp:∀i,aD G w (a.tmps.getD i undef) (bw s.t i)
 inv:bU G w s.h
 df:qn G w a.defers
theorem m4.av{G:Gh}{w:ak9}{u:ak8}{c:fp}(h:m4 G.S w u c):aD G w u c.av:=by
 cases h with
 |d h=>exact .d h
 |bn c off b o u J h2=>exact .bn [c] 0 off b o u c rfl J h2
 |fn f vs cs hl h=>exact .hid (.fn f vs cs hl h) rfl
 |m7 f vs cs hl h=>exact .hid (.m7 f vs cs hl h) rfl
theorem aD.jR{G:Gh}{w:ak9}{u:ak8}{x:AV}(h:aD G w u x)(hb:x.jR=true):u.oneCell'=true:=by
 cases h with
 |d hp=>cases hp with
  |v u=>exact hb
  |sl=>rfl
  |ag=>simp [AV.jR]at hb
 |agg=>simp [AV.jR]at hb
 |aW=>simp [AV.jR]at hb
 |own n xs _ hp=>cases hp;rfl
 |vec n o len L k _ hs=>obtain⟨A,l,c,rfl⟩:=hs;rfl
 |dF n i j L k _ hs=>obtain⟨b,q,rfl⟩:=hs;rfl
 |full xs hp=>cases hp;rfl
 |hid h J=>exact J
 |dead=>simp [AV.jR]at hb
 |_=>rfl
theorem aD.cells{G:Gh}{w:ak9}{u:ak8}{x:AV}(h:aD G w u x)(hb:x.jl=true):
 u.cells.size=x.cells.length/\∀(i:Nat)(v:ak8)(c:AV),u.cells[i]?=some v->x.cells[i]?=some c->aD G w v c/\v.oneCell'=true:=by
 have one:x.jR=true->x.cells=[x]->u.cells.size=x.cells.length/\∀(i:Nat)(v:ak8)(c:AV),u.cells[i]?=some v->x.cells[i]?=some c->aD G w v c/\v.oneCell'=true:=by
  intro hc hx;have ho:=h.jR hc;have hu:u.cells= #[u]:=by cases u<;>simp_all [Value.cells,Value.oneCell']
  rw[hu,hx];refine⟨rfl,λi v c J h2=> ?_⟩
  match i with
  |0=>simp at J h2;subst J;subst h2;exact⟨h,ho⟩
  |i+1=>simp at h2
 cases x with
 |agg cs=>
  cases h with
  |agg vs cs hl hr=>
   refine⟨hl,λi v c J h2=> ?_⟩;have hv:=hr i v c J h2;refine⟨hv,hv.jR ?_⟩;simp only[AV.jl,akG]at hb;exact hb c (akt h2)
 |aW cs=>simp [AV.jl,AV.jR]at hb
 |dead=>simp [AV.jl,AV.jR]at hb
 |_=>exact one hb rfl
theorem bU.lt{G:Gh}{w:ak9}{h:ak4 ao}(hi:bU G w h){n:Nat}{B:ao}(hb:h[n]?=some B):n<G.N:=by
 rw[<-hi.len];exact(akg.1 hb).1
theorem bU.gW{G:Gh}{w:ak9}{h:ak4 ao}(hi:bU G w h){n b:Nat}(hb:bR h G n=some b):b<w.heap.size:=by
 obtain⟨B,hB,hb⟩:=l9 hb;have hr:=hi.dn n B hB;cases B with
 |gone=>cases hb
 |cells cs=>
  obtain⟨_,_,vs,T,hh,_⟩:=hr;cases hb
  exact(akv.1 hh).1
 |lp ls p as bd cs=>
  obtain⟨_,_,fn,vs,T,hh,_⟩:=hr;cases hb
  exact(akv.1 hh).1
 |it sn cs=>
  obtain⟨_,_,fn,vs,T,hh,_⟩:=hr;cases hb
  exact(akv.1 hh).1
 |eO T0 cs=>
  obtain⟨_,_,fn,vs,T,hh,_⟩:=hr;cases hb
  exact(akv.1 hh).1
 |map kv=>
  obtain⟨_,_,es,c,hh,_⟩:=hr;cases hb
  exact(akv.1 hh).1
 |ie kv=>
  obtain⟨_,_,es,c,hh,_⟩:=hr;cases hb
  exact(akv.1 hh).1
 |front e k len=>
  have hb:G.ow n=some b:=hb;obtain⟨_,_,J|⟨g,cap,cur,J,_,_,hh,_⟩⟩:=hr
  ·rw[J.1]at hb;cases hb
  ·rw[J]at hb;cases hb;exact(akv.1 hh).1
 |byt e b2=>
  have hb:G.ow n=some b:=hb;obtain⟨_,_,J|⟨g,cap,cur,J,_,_,hh,_⟩⟩:=hr
  ·rw[J.1]at hb;cases hb
  ·rw[J]at hb;cases hb;exact(akv.1 hh).1
 |vec e k cs=>
  have hb:G.ow n=some b:=hb;obtain⟨_,_,_,J|⟨g,cap,cur,J,_,_,hh,_⟩⟩:=hr
  ·rw[J.1]at hb;cases hb
  ·rw[J]at hb;cases hb;exact(akv.1 hh).1
theorem er.kH{G:Gh}{w:ak9}{n b:Nat}{B:ao}(hr:er G w n B)(hb:B.dZ G n=some b):¬G.Z b:=by
 cases B with
 |gone=>cases hb
 |cells cs=>cases hb;exact hr.1
 |lp ls p as bd cs=>cases hb;exact hr.1
 |it sn cs=>cases hb;exact hr.1
 |eO T0 cs=>cases hb;exact hr.1
 |map kv=>cases hb;exact hr.1
 |ie kv=>cases hb;exact hr.1
 |front e k len=>
  have hb:G.ow n=some b:=hb;obtain⟨_,_,J|⟨g,cap,cur,J,_,hz,_⟩⟩:=hr
  ·rw[J.1]at hb;cases hb
  ·rw[J]at hb;cases hb;exact hz
 |byt e b2=>
  have hb:G.ow n=some b:=hb;obtain⟨_,_,J|⟨g,cap,cur,J,_,hz,_⟩⟩:=hr
  ·rw[J.1]at hb;cases hb
  ·rw[J]at hb;cases hb;exact hz
 |vec e k cs=>
  have hb:G.ow n=some b:=hb;obtain⟨_,_,_,J|⟨g,cap,cur,J,_,hz,_⟩⟩:=hr
  ·rw[J.1]at hb;cases hb
  ·rw[J]at hb;cases hb;exact hz
theorem se.keep{S S':Nat->Nat->Prop}{w w':ak9}{es:Array MapEntry}{c:Nat}{kv:ak4 (ak5×D)}(h:se S w es c kv)(hS:∀b o,S b o->S' b o)(hc:∀b o,S b o->w'.cell? ⟨b,o,none⟩=w.cell? ⟨b,o,none⟩):se S' w' es c kv:=
 ⟨h.size,h.stamped,λe he=>let ⟨s,d,J,h2,h3⟩:=h.yk e he;⟨s,d,J,h2,h3.keep hS hc⟩,h.all,h.len,h.born,h.AS⟩
theorem wg.keep{S S':Nat->Nat->Prop}{w w':ak9}{es:Array MapEntry}{c:Nat}{kv:ak4 (ak5×D)}(h:wg S w es c kv)(hS:∀b o,S b o->S' b o)(hc:∀b o,S b o->w'.cell? ⟨b,o,none⟩=w.cell? ⟨b,o,none⟩):wg S' w' es c kv:=
 ⟨h.ok.keep hS hc,λi e he=>let ⟨p,J,h2,h3⟩:=h.ord i e he;⟨p,J,h2,h3.keep hS hc⟩,h.all⟩
theorem er.keep{G G':Gh}{w w':ak9}{n:Nat}(hn:n<G.N)(hE:bP G.N G w G' w')(hN:G.N<=G'.N){B:ao}
 (hg:G'.fl n=G.fl n/\G'.sg n=G.sg n/\G'.ow n=G.ow n)
 (ho:∀b,B.dZ G n=some b->w'.heap[b]?=w.heap[b]?/\∀o,¬G.S b o->¬G'.S b o)
 (h:er G w n B):er G' w' n B:=by
 obtain⟨f1,f2,f3⟩:=hg;cases B with
 |gone=>trivial
 |cells cs=>
  obtain⟨J,h2,vs,T,h3,h4,h5⟩:=h;obtain⟨c2,c1⟩:=ho _ rfl;refine⟨by rw[hE.aM n hn];exact hE.kH (akv.1 h3).1 J,by rw[hE.aM n hn];exact λo=>c1 o (h2 o),vs,T,by rw[hE.aM n hn,c2];exact h3,h4,λi u c hu hc=>(h5 i u c hu hc).keep hE hN⟩
 |lp ls p as bd cs=>
  obtain⟨J,h2,fn,vs,T,h3,h4,h5⟩:=h;obtain⟨c2,c1⟩:=ho _ rfl;refine⟨by rw[hE.aM n hn];exact hE.kH (akv.1 h3).1 J,by rw[hE.aM n hn];exact λo=>c1 o (h2 o),fn,vs,T,by rw[hE.aM n hn,c2];exact h3,h4,λi u c hu hc=>(h5 i u c hu hc).keep hE hN⟩
 |it sn cs=>
  obtain⟨J,h2,fn,vs,T,h3,h4,h5⟩:=h;obtain⟨c2,c1⟩:=ho _ rfl;refine⟨by rw[hE.aM n hn];exact hE.kH (akv.1 h3).1 J,by rw[hE.aM n hn];exact λo=>c1 o (h2 o),fn,vs,T,by rw[hE.aM n hn,c2];exact h3,h4,λi u c hu hc=>(h5 i u c hu hc).keep hE hN⟩
 |eO T0 cs=>
  obtain⟨J,h2,fn,vs,T,h3,h4,h5⟩:=h;obtain⟨c2,c1⟩:=ho _ rfl;refine⟨by rw[hE.aM n hn];exact hE.kH (akv.1 h3).1 J,by rw[hE.aM n hn];exact λo=>c1 o (h2 o),fn,vs,T,by rw[hE.aM n hn,c2];exact h3,by rw[hE.aM n hn];exact h4,λi u c hu hc=>(h5 i u c hu hc).keep hE hN⟩
 |map kv=>
  obtain⟨J,h2,es,c,h3,h4⟩:=h;obtain⟨c2,c1⟩:=ho _ rfl;exact⟨by rw[hE.aM n hn];exact hE.kH (akv.1 h3).1 J,by rw[hE.aM n hn];exact λo=>c1 o (h2 o),es,c,by rw[hE.aM n hn,c2];exact h3,h4.keep hE.S hE.cell⟩
 |ie kv=>
  obtain⟨J,h2,es,c,h3,h4⟩:=h;obtain⟨c2,c1⟩:=ho _ rfl;exact⟨by rw[hE.aM n hn];exact hE.kH (akv.1 h3).1 J,by rw[hE.aM n hn];exact λo=>c1 o (h2 o),es,c,by rw[hE.aM n hn,c2];exact h3,h4.keep hE.S hE.cell⟩
 |byt e b=>
  obtain⟨J,hm,h2⟩:=h;refine⟨f1.trans J,hm,?_⟩;rcases h2 with⟨h2,h0,A,h3⟩|⟨g,cap,cur,h2,h3,h4,h5,h6,h7,h8,h9,aO⟩
  ·exact .inl ⟨f3.trans h2,h0,A,f2.trans h3⟩
  ·obtain⟨f5,f6⟩:=ho g h2;exact .inr ⟨g,cap,cur,f3.trans h2,f2.trans h3,hE.kH (akv.1 h5).1 h4,f5.trans h5,h6,h7,h8,λo=>f6 o (h9 o),aO⟩
 |front e k len=>
  obtain⟨J,hm,h2⟩:=h;refine⟨f1.trans J,hm,?_⟩;rcases h2 with⟨h2,A,h3⟩|⟨g,cap,cur,h2,h3,h4,h5,h6,h7,h8,h9⟩
  ·exact .inl ⟨f3.trans h2,A,f2.trans h3⟩
  ·obtain⟨f5,f6⟩:=ho g h2;exact .inr ⟨g,cap,cur,f3.trans h2,f2.trans h3,hE.kH (akv.1 h5).1 h4,f5.trans h5,h6,h7,h8,λo ho=>f6 o (h9 o ho)⟩
 |vec e k cs=>
  obtain⟨J,hm,hk,h2⟩:=h;refine⟨f1.trans J,hm,hk,?_⟩;rcases h2 with⟨h2,e2,A,h3⟩|⟨g,cap,cur,h2,h3,h4,h5,h6,h7,h8,h9,aO⟩
  ·exact .inl ⟨f3.trans h2,e2,A,f2.trans h3⟩
  ·obtain⟨f5,f6⟩:=ho g h2;exact .inr ⟨g,cap,cur,f3.trans h2,f2.trans h3,hE.kH (akv.1 h5).1 h4,f5.trans h5,h6,h7,h8,λo=>f6 o (h9 o),λi j c x u hc hx hu=>(aO i j c x u hc hx hu).keep hE hN⟩
theorem db.put{G:Gh}{w:ak9}{a:Act}{s:St}(h:db G w a s){v:ak8}{x:AV}(hv:aD G w v x)(dst:ak6 Nat):db G w (a.put dst v) (s.put dst x):=by
 cases dst with
 |none=>exact h
 |some d=>
  by_cases hd:d<s.n
  ·have e1:s.put (some d) x={s with t:=(d,x)::s.t}:=qd hd x;rw[e1];refine⟨by simp [Act.put,h.size],λi=> ?_,h.inv,h.df⟩;by_cases hi:i=d
   ·subst hi;have:(a.tmps.setIfInBounds i v).getD i undef=v:=by simp [Array.getD,h.size,hd]
    simp only[Act.put,this,kO,if_true];exact hv
   ·have:(a.tmps.setIfInBounds d v).getD i undef=a.tmps.getD i undef:=by simp [Array.getElem?_setIfInBounds_ne (Ne.symm hi)]
    simp only[Act.put,this,kO,if_neg hi];exact h.tmp i
  ·have e1:s.put (some d) x=s:=Ca hd x;have e2:a.put (some d) v=a:=by
    have:a.tmps.setIfInBounds d v=a.tmps:=Array.setIfInBounds_eq_of_size_le (by rw[h.size];omega);simp [Act.put,this]
   rw[e1,e2];exact h
theorem db.move{G G':Gh}{w w':ak9}{a:Act}{s:St}(h:db G w a s)(hE:bP G.N G w G' w')(hN:G.N<=G'.N){h':ak4 ao}(hi:bU G' w' h'):db G' w' a {s with h:=h'}:=
 ⟨h.size,λi=>(h.tmp i).keep hE hN,hi,h.df.keep hE⟩
theorem db.ev{G:Gh}{w:ak9}{a:Act}{s:St}(h:db G w a s)(x:Operand):aD G w (a.eval x) (ev s x):=by
 cases x with
 |tmp t=>exact h.tmp t
 |const v=>
  show aD G w v (OX v);unfold OX;split
  ·rename_i vs
   exact .agg vs _ (by simp) λi u c hu hc=>by
    simp only[akn,akD,hu,Option.map_some,Option.some.injEq]at hc;subst hc;exact .d (.v u)
  ·rename_i vs
   exact .aW vs _ (by simp) λi u c hu hc=>by
    simp only[akn,akD,hu,Option.map_some,Option.some.injEq]at hc;subst hc;exact .d (.v u)
  ·exact .d (.v v)
 |global g=>
  show aD G w (.pointer (some ⟨g,0,none⟩)) (match xw w8 g with|some l=> .bn [l.map .v] 0 0|none=> .dead);split
  ·next l hl=>
   have hg:=h.inv.gl.1 g l (WB hl);have:=aD.bn (G:=G) (w:=w) [l.map .v] 0 0 g 0 (λj=>l.getD j undef) (l.map .v) rfl (λj hj=> ?_) (λj d hd=> ?_)
   ·exact this
   ·rw[akl]at hj;have e:l[j]?=some l[j]:=akk hj;rw[akA];refine⟨(hg j _ e).1,?_⟩;rw[(hg j _ e).2];simp [hj]
   ·rw[akn]at hd;cases e:l[j]? with
    |none=>rw[e]at hd;cases hd
    |some v=>
     rw[e]at hd;cases hd
     have:l.getD j undef=v:=by simp [List.getD,e]
     rw[this];exact .v v
  ·exact .dead _
 |func f=>exact .fn f #[] [] rfl λi u c hu=>by simp at hu
def Gh.dg(G:Gh)(b:Nat):Gh:={G with N:=G.N+1,aM:=λn=>if n=G.N then b else G.aM n}
theorem rB(G:Gh)(w:ak9)(hz:∀b,G.Z b->b<w.heap.size)(hS:∀b o,G.S b o->b<w.heap.size)(o:Obj):bP G.N G w (G.dg w.heap.size) (w.alloc o):=
 ⟨by simp,λ_ _ h=>h,λb _ h=>World.cell?_alloc_lt _ _ _ (hS _ _ h),λn hn=>by simp [Gh.dg,Nat.ne_of_lt hn],λ_ _=> .inl ⟨rfl,rfl⟩,gQ rfl,
  λb hb=>Below.heap_alloc w o b (hz b hb),rfl,rfl,rfl,λ_ _ h=> .inl h⟩
theorem Td{G:Gh}{w:ak9}{h:ak4 ao}(hi:bU G w h)(vs:Array ak8)(T:TypeId)(cs:ak4 AV)(hl:vs.size=cs.length)
 (hr:∀(i:Nat)(u:ak8)(c:AV),vs[i]?=some u->cs[i]?=some c->aD G w u c):
 bU (G.dg w.heap.size) (w.alloc (.cells vs T)) (h++[.cells cs])/\aD (G.dg w.heap.size) (w.alloc (.cells vs T)) (.pointer (some ⟨w.heap.size,0,none⟩)) (.ptr h.length 0):=by
 have hE:=rB G w hi.z hi.S (.cells vs T);have hN:G.N<=(G.dg w.heap.size).N:=Nat.le_succ _;have gi:(G.dg w.heap.size).aM h.length=w.heap.size:=by simp [Gh.dg,hi.len]
 have kQ:∀n(B:ao),n<G.N->B.dZ (G.dg w.heap.size) n=B.dZ G n:=λn B hn=>by
  cases B<;>simp [ao.dZ,Gh.dg,Nat.ne_of_lt hn]
 have fk:∀n,n<G.N->bR (h++[.cells cs]) (G.dg w.heap.size) n=bR h G n:=λn hn=>by
  have aL:n<h.length:=by rw[hi.len];exact hn
  unfold bR;rw[akq aL,akk aL];exact kQ n _ hn
 have qV:bR (h++[.cells cs]) (G.dg w.heap.size) h.length=some w.heap.size:=by
  rw[dM (B:= .cells cs) (by simp)];exact congrArg some gi
 refine⟨⟨by simp [Gh.dg,hi.len],λb hb=>akE (hi.z b hb) hE.size,λb o hs=>akE (hi.S b o hs) hE.size,λn B hB=> ?_,λm n b hm hn=> ?_,hi.gl.keep hE⟩,?_⟩
 ·by_cases hn:n<h.length
  ·rw[akq hn]at hB;have eZ:n<G.N:=hi.len▸hn;exact er.keep eZ hE hN ⟨rfl,rfl,rfl⟩ (λb hb=>⟨Below.heap_alloc w _ _ (hi.gW (n:=n) ((dM hB).trans hb)),λo h=>h⟩) (hi.dn n B hB)
  ·have jY:n=h.length:=by
    have:=(akg.1 hB).1;simp at this;omega
   subst jY;simp at hB;subst hB;exact⟨by rw[gi];exact λhz=>akU _ (hi.z _ hz),λo hs=>by rw[gi]at hs;exact akU _ (hi.S _ _ hs),vs,T,by rw[gi];exact World.alloc_heap_new w _,hl,λi u c hu hc=>(hr i u c hu hc).keep hE hN⟩
 ·have key:∀n b,bR (h++[.cells cs]) (G.dg w.heap.size) n=some b->(n<G.N/\bR h G n=some b)\/(n=h.length/\b=w.heap.size):=λn b hn=>by
   by_cases aL:n<G.N
   ·exact .inl ⟨aL,by rw[<-fk n aL];exact hn⟩
   ·by_cases e:n=h.length
    ·subst e;rw[qV]at hn;cases hn;exact .inr ⟨rfl,rfl⟩
    ·rw[sB (akM (by simp;have:=hi.len;omega))]at hn;cases hn
  rcases key m b hm with⟨_,h1⟩|⟨rfl,rfl⟩<;>rcases key n _ hn with⟨_,eZ⟩|⟨rfl,hb⟩
  ·exact hi.inj m n b h1 eZ
  ·have:=hi.gW h1;omega
  ·have:=hi.gW eZ;omega
  ·rfl
 ·have:=aD.ptr (G:=G.dg w.heap.size) (w:=w.alloc (.cells vs T)) h.length 0 (by simp [Gh.dg,hi.len])
  rwa [gi]at this
theorem Jp(w:ak9)(g:Nat)(cs:Array ak8):(w.setRow g cs).heap.size=w.heap.size:=by simp [World.setRow]
theorem abF(w:ak9)(g:Nat)(cs:Array ak8)(b o:Nat)(h:b≠g):(w.setRow g cs).cell? ⟨b,o,none⟩=w.cell? ⟨b,o,none⟩:=World.cell?_of_block (setRow_other w g b cs h)
theorem ahO{G:Gh}{w:ak9}{g:Nat}(cs:Array ak8)(hg:¬G.Z g)(hS:∀b o,G.S b o->(w.setRow g cs).cell? ⟨b,o,none⟩=w.cell? ⟨b,o,none⟩):bP G.N G w G (w.setRow g cs):=
 ⟨by rw[Jp];exact akr _,λ_ _ h=>h,hS,λ_ _=>rfl,λ_ _=> .inl ⟨rfl,rfl⟩,gQ rfl,λb hb=>setRow_other w g b cs (λe=>hg (e▸hb)),rfl,rfl,rfl,λ_ _ h=> .inl h⟩
theorem Ax(cs ys:ak4 AV)(off:Nat)(h:off+ys.length<=cs.length):(iz cs off ys).length=cs.length:=by
 simp [iz];omega
theorem aiO{R:ak8->AV->Prop}(vs us:Array ak8)(cs ys:ak4 AV)(off:Nat)(hl:vs.size=cs.length)(hu:us.size=ys.length)(hb:off+ys.length<=cs.length)
 (hr:∀(i:Nat)(u:ak8)(c:AV),vs[i]?=some u->cs[i]?=some c->R u c) (oa:∀(i:Nat)(u:ak8)(c:AV),us[i]?=some u->ys[i]?=some c->R u c):
 ∀(i:Nat)(u:ak8)(c:AV),(vs.toList.take off++us.toList++vs.toList.drop (off+us.toList.length)).toArray[i]?=some u->(iz cs off ys)[i]?=some c->R u c:=by
 intro i u c J h2;have nq:us.toList.length=ys.length:=by rw[akN,hu]
 rw[nq]at J;rw[List.getElem?_toArray]at J;unfold iz at h2;simp only[akx]at J h2;have uf:vs.toList.length=cs.length:=by rw[akN,hl]
 by_cases h:i<off
 ·rw[akq (by simp;omega),List.getElem?_take_of_lt h]at J;rw[akq (by simp;omega),List.getElem?_take_of_lt h]at h2;exact hr i u c (by rw[<-akD];exact J) h2
 ·rw[akw (by simp;omega)]at J h2;simp only[List.length_take,uf]at J h2;rw[Nat.min_eq_left (by omega)]at J h2;by_cases h':i-off<ys.length
  ·rw[akq (by rw[nq];exact h')]at J;rw[akq h']at h2;exact oa (i-off) u c (by rw[<-akD];exact J) h2
  ·rw[akw (by rw[nq];omega),List.getElem?_drop]at J;rw[akw (by omega),List.getElem?_drop]at h2;rw[nq]at J;rw[show off+ys.length+(i-off-ys.length)=i by omega]at J h2;exact hr i u c (by rw[<-akD];exact J) h2
theorem ahn{P:ak7}{G:Gh}{w:ak9}{h:ak4 ao}(hi:bU G w h){n off:Nat}{cs:ak4 AV}(hn:h[n]?=some (.cells cs)){t:TypeId}{v:ak8}{x:AV}
 (hv:aD G w v x) (hb:x.jl=true) (ht:gj P t=some x.cells.length) (ho:off+x.cells.length<=cs.length):
 ∃w',(storeVar t ⟨G.aM n,off,none⟩ v).run P w= .ok () w'/\bP G.N G w G w'/\bU G w' (h.set n (.cells (iz cs off x.cells))):=by
 obtain⟨hz,hS,vs,T,hh,hl,hr⟩:=hi.dn n _ hn;obtain⟨zh,Um⟩:=hv.cells hb;obtain⟨i,jC,kC⟩:∃i,P.info? t=some i/\i.size=x.cells.length:=by
  unfold gj at ht;cases hq:P.info? t with
  |none=>rw[hq]at ht;cases ht
  |some i=>rw[hq]at ht;exact⟨i,rfl,by simpa using ht⟩
 have kT:=run_storeCells_at P (G.aM n) off T v.cells.toList 0 vs w hh (by rw[akN,zh,hl];simpa using ho) (λu hu=>by
  obtain⟨j,hj⟩:=List.mem_iff_getElem?.1 hu;have iC:v.cells[j]?=some u:=by rw[<-akD];exact hj
  have zi:j<x.cells.length:=by rw[<-zh];exact(akv.1 iC).1
  exact(Um j u _ iC (akk zi)).2)
 simp only[Nat.add_zero]at kT;obtain⟨w',e9⟩:∃w',w'=w.setRow (G.aM n) (vs.toList.take off++v.cells.toList++vs.toList.drop (off+v.cells.toList.length)).toArray:=⟨_,rfl⟩;rw[<-e9]at kT;have hE:bP G.N G w G w':=by
  rw[e9];exact ahO _ hz λb o hs=>abF w _ _ b o (λe=>hS o (e▸hs))
 have fz:∀m,m≠n->(h.set n (.cells (iz cs off x.cells)))[m]?=h[m]?:=λm hm=>by rw[akO (Ne.symm hm)]
 have lT:(h.set n (.cells (iz cs off x.cells)))[n]?=some (.cells (iz cs off x.cells)):=by
  rw[akJ (akg.1 hn).1]
 have eF:∀m,bR (h.set n (.cells (iz cs off x.cells))) G m=bR h G m:=λm=>by
  by_cases e:m=n
  ·subst e;rw[dM lT,dM hn];rfl
  ·unfold bR;rw[fz m e]
 have lr:bR h G n=some (G.aM n):=dM hn;refine⟨w',?_,hE,⟨by rw[List.length_set];exact hi.len,λb hb=>akE (hi.z b hb) hE.size,λb o hs=>akE (hi.S b o hs) hE.size,λm B hB=> ?_,λm m' b J h2=>hi.inj m m' b (by rw[<-eF];exact J) (by rw[<-eF];exact h2),hi.gl.keep hE⟩⟩
 ·unfold storeVar;simp only[sizeOf,typeInfo,Sem.run_bind,zh];simp [jC,kC,kT]
 ·by_cases e:m=n
  ·subst e;rw[lT]at hB;cases hB
   refine⟨hz,hS,_,T,by rw[e9];exact setRow_heap w _ vs _ T _ hh,?_,λi u c hu hc=> ?_⟩
   ·rw[Ax _ _ _ ho];have:v.cells.toList.length=x.cells.length:=by rw[akN];exact zh
    simp only[List.size_toArray,akh,List.length_take,List.length_drop,akN,hl,zh];omega
   ·exact(aiO (R:=aD G w) vs v.cells cs x.cells off hl zh ho hr (λi u c J h2=>(Um i u c J h2).1) i u c hu hc).keep hE (akr _)
  ·rw[fz m e]at hB;have cN:∀b,bR h G m=some b->b≠G.aM n:=λb hb eb=>e (hi.inj m n b hb (by rw[eb];exact lr));refine er.keep (hi.lt hB) hE (akr _) ⟨rfl,rfl,rfl⟩ (λb hb=>⟨?_,λo h=>h⟩) (hi.dn m B hB);rw[e9];exact setRow_other w _ _ _ (cN _ ((dM hB).trans hb))
theorem dz.oY{S:Nat->Nat->Prop}{w:ak9}{v:ak8}{xs:ak4 (ak4 D)}(h:dz S w v (.sl xs)):
 ∃(A:ak6 Addr)(b o c k:Nat)(u:Nat->Nat->ak8),v= .slice A xs.length c/\(xs≠ []->A=some ⟨b,o,none⟩)/\xs.length<=c/\c<=maxLen/\(∀x∈xs,x.length=k)/\
  (∀i j,i<xs.length->j<k->S b (o+i*k+j)/\w.cell? ⟨b,o+i*k+j,none⟩=some (u i j)/\(u i j).oneCell'=true)/\
  (∀(i j:Nat)(x:ak4 D)(d:D),xs[i]?=some x->x[j]?=some d->dz S w (u i j) d):=by
 cases h with
 |sl A b o c k xs u hA hc hm hk hS hu=>exact⟨A,b,o,c,k,u,rfl,hA,hc,hm,hk,hS,hu⟩
structure Rd(S:Nat->Nat->Prop)(w:World)(k:Nat)(xs:List (List D))(us:List Value):Prop where
 len:us.length=xs.length*k
 wid:∀x∈xs,x.length=k
 one:∀u∈us,u.oneCell'=true
 rel:∀(i j:Nat)(x:List D)(d:D),xs[i]?=some x->x[j]?=some d->∃u,us[i*k+j]?=some u/\dz S w u d
theorem Rd.keep{S S':Nat->Nat->Prop}{w w':ak9}{k:Nat}{xs:ak4 (ak4 D)}{us:ak4 ak8}(h:Rd S w k xs us)(hS:∀b o,S b o->S' b o)(hc:∀b o,S b o->w'.cell? ⟨b,o,none⟩=w.cell? ⟨b,o,none⟩):Rd S' w' k xs us:=
 ⟨h.len,h.wid,h.one,λi j x d hx hd=>let ⟨u,J,h2⟩:=h.rel i j x d hx hd;⟨u,J,h2.keep hS hc⟩⟩
theorem Rd.append{S:Nat->Nat->Prop}{w:ak9}{k:Nat}{xs ys:ak4 (ak4 D)}{us vs:ak4 ak8}(h:Rd S w k xs us)(h':Rd S w k ys vs):Rd S w k (xs++ys) (us++vs):=by
 refine⟨by rw[akh,akh,h.len,h'.len,Nat.add_mul],λx hx=> ?_,λu hu=> ?_,λi j x d hx hd=> ?_⟩
 ·rcases akS.1 hx with hx|hx
  ·exact h.wid x hx
  ·exact h'.wid x hx
 ·rcases akS.1 hu with hu|hu
  ·exact h.one u hu
  ·exact h'.one u hu
 ·by_cases hi:i<xs.length
  ·rw[akq hi]at hx;obtain⟨u,J,h2⟩:=h.rel i j x d hx hd;exact⟨u,by rw[akq (akg.1 J).1];exact J,h2⟩
  ·rw[akw (by omega)]at hx;obtain⟨u,J,h2⟩:=h'.rel (i-xs.length) j x d hx hd;refine⟨u,?_,h2⟩;have e:i*k+j=xs.length*k+((i-xs.length)*k+j):=by rw[Nat.sub_mul];have:=Nat.mul_le_mul_right k (Nat.le_of_not_lt hi);omega
   rw[e,akw (by rw[h.len];omega),h.len,Nat.add_sub_cancel_left];exact J
theorem Rd.Cm{S:Nat->Nat->Prop}{w:ak9}{k:Nat}{xs:ak4 (ak4 D)}{us:ak4 ak8}(h:Rd S w k xs us)(b c:Nat)(hc:xs.length<=c)(hm:c<=maxLen)
 (hS:∀o,o<xs.length*k->S b o) (hJ:∀(o:Nat)(u:ak8),us[o]?=some u->w.cell? ⟨b,o,none⟩=some u):dz S w (.slice (some ⟨b,0,none⟩) xs.length c) (.sl xs):=by
 refine .sl _ b 0 c k xs (λi j=>us.getD (i*k+j) undef) (λ_=>rfl) hc hm h.wid (λi j hi hj=> ?_) (λi j x d hx hd=> ?_)
 ·have aL:i*k+j<xs.length*k:=by
   have:(i+1)*k<=xs.length*k:=Nat.mul_le_mul_right k hi;rw[Nat.add_mul]at this;omega
  have hg:us[i*k+j]?=some (us[i*k+j]'(by rw[h.len];exact aL)):=akk (by rw[h.len];exact aL);rw[akA];refine⟨hS _ aL,?_,?_⟩
  ·rw[hJ _ _ hg];simp [hg]
  ·simp only[List.getD_eq_getElem?_getD,hg,Option.getD_some];exact h.one _ (List.getElem_mem _)
 ·obtain⟨u,J,h2⟩:=h.rel i j x d hx hd;simp only[List.getD_eq_getElem?_getD,J,Option.getD_some];exact h2
theorem dz.rd{S:Nat->Nat->Prop}{w:ak9}{v:ak8}{xs:ak4 (ak4 D)}{k:Nat}(h:dz S w v (.sl xs))(gL:0<k)(hk:∀x∈xs,x.length=k):
 ∃us,Rd S w k xs us/\∃A c,v= .slice A xs.length c/\xs.length<=c/\c<=maxLen/\(xs≠ []->∃b o,A=some ⟨b,o,none⟩/\∀(j:Nat)(u:ak8),us[j]?=some u->S b (o+j)/\w.cell? ⟨b,o+j,none⟩=some u):=by
 obtain⟨A,b,o,c,k',u,rfl,hA,hc,hm,iP,hS,hu⟩:=h.oY;by_cases hx:xs=[]
 ·subst hx;exact⟨[],⟨by simp,(λ_ h=>by cases h),(λ_ h=>by cases h),λi j x d hx=>by simp at hx⟩,A,c,rfl,hc,hm,λh=>absurd rfl h⟩
 ·have ek:k'=k:=by
   obtain⟨x,nG⟩:=List.exists_mem_of_ne_nil xs hx;rw[<-iP x nG,hk x nG]
  subst ek;refine⟨(List.range (xs.length*k')).map λt=>u (t / k') (t%k'),⟨by simp,hk,λv hv=> ?_,λi j x d hx hd=> ?_⟩,A,c,rfl,hc,hm,λcN=>⟨b,o,hA cN,λj v hv=> ?_⟩⟩
  ·obtain⟨t,ht,rfl⟩:=List.mem_map.1 hv;have ph:=List.mem_range.1 ht;exact(hS (t / k') (t%k') (Nat.div_lt_of_lt_mul (by rw[Nat.mul_comm];exact ph)) (Nat.mod_lt _ gL)).2.2
  ·have hj:j<k':=by rw[<-hk x (akt hx)];exact(akg.1 hd).1
   have hi:i<xs.length:=(akg.1 hx).1;refine⟨u i j,?_,hu i j x d hx hd⟩;have aL:i*k'+j<xs.length*k':=by
    have:(i+1)*k'<=xs.length*k':=Nat.mul_le_mul_right k' hi;rw[Nat.add_mul]at this;omega
   rw[akn,List.getElem?_range aL];simp only[Option.map_some,Option.some.injEq];rw[show(i*k'+j)/ k'=i by rw[Nat.add_comm,Nat.add_mul_div_right _ _ gL,Nat.div_eq_of_lt hj,akA],show(i*k'+j)%k'=j by rw[Nat.add_comm,Nat.add_mul_mod_self_right,Nat.mod_eq_of_lt hj]]
  ·rw[akn]at hv;by_cases hj:j<xs.length*k'
   ·rw[List.getElem?_range hj]at hv;simp only[Option.map_some,Option.some.injEq]at hv;subst hv;have:=hS (j / k') (j%k') (Nat.div_lt_of_lt_mul (by rw[Nat.mul_comm];exact hj)) (Nat.mod_lt _ gL);have e:o+j / k'*k'+j%k'=o+j:=by have:=Nat.div_add_mod j k';rw[Nat.mul_comm]at this;omega
    rw[e]at this;exact⟨this.1,this.2.1⟩
   ·rw[akM (by simp;omega)]at hv;cases hv
theorem dz.src{P:ak7}{S:Nat->Nat->Prop}{w:ak9}{v:ak8}{xs:ak4 (ak4 D)}{k:Nat}(h:dz S w v (.sl xs))(gL:0<k)(hk:∀x∈xs,x.length=k){tx e':TypeId}(ht:P.underlying tx=some (.slice e')):
 ∃us,Rd S w k xs us/\Src P k tx v xs.length us w:=by
 obtain⟨us,hr,A,c,rfl,_,_,hA⟩:=h.rd gL hk;refine⟨us,hr,?_⟩;by_cases hx:xs=[]
 ·subst hx;have lY:us=[]:=List.eq_nil_of_length_eq_zero (by rw[hr.len];simp);subst lY;cases A with
  |none=>exact Src.ofNil w ht c
  |some a=>exact Src.ofSlice w ht a 0 c [] (by simp) (λj u hu=>by simp at hu) (λu hu=>by cases hu)
 ·obtain⟨b,o,rfl,hc⟩:=hA hx;exact Src.ofSlice w ht _ _ c us hr.len (λj u hu=>by rw[lg];exact(hc j u hu).2) hr.one
def Gh.addF(G:Gh)(v:ak8)(len:Nat):Gh:=
 {G with N:=G.N+1,sg:=λn=>if n=G.N then v else G.sg n,fl:=λn=>if n=G.N then len else G.fl n,ow:=λn=>if n=G.N then none else G.ow n}
theorem Pl{G:Gh}{w:ak9}{h:ak4 ao}(hi:bU G w h){v:ak8}{xs:ak4 (ak4 D)}(hv:dz G.S w v (.sl xs))(hf:∃A,v= .slice A xs.length xs.length)(e:TypeId)(k:Nat):
 bP G.N G w (G.addF v xs.length) w/\G.N<=(G.addF v xs.length).N/\bU (G.addF v xs.length) w (h++[.front e k xs.length])/\aD (G.addF v xs.length) w v (.own h.length xs):=by
 have cN:∀n,n<G.N->n≠G.N:=λn hn=>Nat.ne_of_lt hn;have hE:bP G.N G w (G.addF v xs.length) w:=⟨akr _,λ_ _ h=>h,λ_ _ _=>rfl,λ_ _=>rfl,λn hn=> .inl ⟨by simp [Gh.addF,cN n hn],by simp [Gh.addF,cN n hn]⟩,gQ rfl,λ_ _=>rfl,rfl,rfl,rfl,λ_ _ h=> .inl h⟩;have hN:G.N<=(G.addF v xs.length).N:=Nat.le_succ _;have Q0:xs.length<=maxLen:=by
  obtain⟨A,b,o,c,k',u,_,_,J,h2,_⟩:=hv.oY;exact aky J h2
 have kQ:∀n(B:ao),n<G.N->B.dZ (G.addF v xs.length) n=B.dZ G n:=λn B hn=>by
  cases B<;>simp [ao.dZ,Gh.addF,Nat.ne_of_lt hn]
 have hold:∀n b,bR (h++[.front e k xs.length]) (G.addF v xs.length) n=some b->bR h G n=some b:=λn b hb=>by
  by_cases hn:n<h.length
  ·unfold bR at hb ⊢;rw[akq hn,akk hn]at hb;rw[akk hn];rw[<-hb];exact(kQ n _ (hi.len▸hn)).symm
  ·by_cases en:n=h.length
   ·subst en;rw[dM (B:= .front e k xs.length) (by simp)]at hb;simp [ao.dZ,Gh.addF,hi.len]at hb
   ·rw[sB (akM (by simp;omega))]at hb;cases hb
 refine⟨hE,hN,⟨by simp [Gh.addF,hi.len],hi.z,hi.S,λn B hB=> ?_,λm n b hm hn=>hi.inj m n b (hold m b hm) (hold n b hn),hi.gl.keep hE⟩,?_⟩
 ·by_cases hn:n<h.length
  ·rw[akq hn]at hB;have eZ:n<G.N:=hi.len▸hn;exact er.keep eZ hE hN ⟨by simp [Gh.addF,cN n eZ],by simp [Gh.addF,cN n eZ],by simp [Gh.addF,cN n eZ]⟩ (λb hb=>⟨rfl,λo h=>h⟩) (hi.dn n B hB)
  ·have jY:n=h.length:=by
    have:=(akg.1 hB).1;simp at this;omega
   subst jY;simp at hB;subst hB;obtain⟨A,hA⟩:=hf;exact⟨by simp [Gh.addF,hi.len],Q0, .inl ⟨by simp [Gh.addF,hi.len],A,by simp [Gh.addF,hi.len,hA]⟩⟩
 ·exact .own h.length xs (by simp [Gh.addF,hi.len]) hv (by simp [Gh.addF,hi.len]) (λ_=>by simp [Gh.addF,hi.len])
theorem Ny{P:ak7}{e k b:Nat}(hk:gj P e=some k)(hb:px P e=some b):∃i,P.info? e=some i/\i.size=k/\i.bytes=b:=by
 unfold gj at hk;unfold px at hb;cases hq:P.info? e with
 |none=>rw[hq]at hk;cases hk
 |some i=>rw[hq]at hk hb;exact⟨i,rfl,by simpa using hk,by simpa using hb⟩
def Gh.grow(G:Gh)(n:Nat)(S:Nat->Nat->Prop)(v:ak8)(len:Nat)(ow:ak6 Nat):Gh:=
 {G with S:=S,sg:=λm=>if m=n then v else G.sg m,fl:=λm=>if m=n then len else G.fl m,ow:=λm=>if m=n then ow else G.ow m}
theorem TB{G:Gh}{w w':ak9}{h:ak4 ao}(hi:bU G w h){n e k len gN:Nat}(hn:h[n]?=some (.front e k len))(S:Nat->Nat->Prop)(v:ak8)(g:Nat)
 (hE:bP G.N G w (G.grow n S v gN (some g)) w') (hg:g=w.heap.size\/G.ow n=some g) (hgw:g<w'.heap.size)
 (hS:∀b o,S b o->G.S b o\/b=g) (iH:∀b,b<w.heap.size->b≠g->w'.heap[b]?=w.heap[b]?)
 (hB:er (G.grow n S v gN (some g)) w' n (.front e k gN)):bU (G.grow n S v gN (some g)) w' (h.set n (.front e k gN)):=by
 have fz:∀m,m≠n->(h.set n (.front e k gN))[m]?=h[m]?:=λm hm=>by rw[akO (Ne.symm hm)]
 have lT:(h.set n (.front e k gN))[n]?=some (.front e k gN):=by rw[akJ (akg.1 hn).1]
 have kQ:∀m(B:ao),m≠n->B.dZ (G.grow n S v gN (some g)) m=B.dZ G m:=λm B hm=>by
  cases B<;>simp [ao.dZ,Gh.grow,hm]
 have eF:∀m,m≠n->bR (h.set n (.front e k gN)) (G.grow n S v gN (some g)) m=bR h G m:=λm hm=>by
  unfold bR;rw[fz m hm];cases h[m]? with
  |none=>rfl
  |some B=>exact kQ m B hm
 have uP:∀m,m≠n->bR h G m≠some g:=λm hm hb=>by
  rcases hg with hg|hg
  ·have:=hi.gW hb;omega
  ·exact hm (hi.inj m n g hb ((dM hn).trans hg))
 refine⟨by rw[List.length_set];exact hi.len,λb hb=>akE (hi.z b hb) hE.size,λb o hs=> ?_,λm B hm=> ?_,λm m' b J h2=> ?_,hi.gl.keep hE⟩
 ·rcases hS b o hs with hs|hs
  ·exact akE (hi.S b o hs) hE.size
  ·rw[hs];exact hgw
 ·by_cases em:m=n
  ·subst em;rw[lT]at hm;cases hm;exact hB
  ·rw[fz m em]at hm;refine er.keep (hi.lt hm) hE (akr _) ⟨by simp [Gh.grow,em],by simp [Gh.grow,em],by simp [Gh.grow,em]⟩ (λb hb=> ?_) (hi.dn m B hm);have hr:bR h G m=some b:=(dM hm).trans hb;have cN:b≠g:=λe'=>uP m em (by rw[hr,e']);refine⟨iH _ (hi.gW hr) cN,λo jy hs=> ?_⟩;rcases hS _ o hs with hs|hs
   ·exact jy hs
   ·exact cN hs
 ·by_cases e1:m=n<;>by_cases e2:m'=n
  ·rw[e1,e2]
  ·subst e1;rw[eF m' e2]at h2;have:bR (h.set m (.front e k gN)) (G.grow m S v gN (some g)) m=some g:=by rw[dM lT];simp [ao.dZ,Gh.grow]
   rw[this]at J;cases J;exact absurd h2 (uP m' e2)
  ·subst e2;rw[eF m e1]at J;have:bR (h.set m' (.front e k gN)) (G.grow m' S v gN (some g)) m'=some g:=by rw[dM lT];simp [ao.dZ,Gh.grow]
   rw[this]at h2;cases h2;exact absurd J (uP m e1)
  ·rw[eF m e1]at J;rw[eF m' e2]at h2;exact hi.inj m m' b J h2
set_option maxHeartbeats 1000000 in
theorem Xw{P:ak7}{G:Gh}{w:ak9}{h:ak4 ao}(hi:bU G w h){T tx ty e k de:Nat}{i:TypeInfo}{z:ak8}(hT:P.underlying T=some (.slice e))(kD:P.info? e=some i)(hz:i.zero=some z)(mZ:i.size=k)(ub:i.bytes=de)(jP:z.cells.size=k)
 (gL:0<k) {n:Nat} {xs ys:ak4 (ak4 D)} (hn:h[n]?=some (.front e k xs.length)) {u v:ak8} (hu:aD G w u (.own n xs)) (m5:∀x∈xs,x.length=k)
 {us:ak4 ak8} (hr:Rd G.S w k ys us) (hs:Src P k tx v ys.length us w) (tU:xs.length+ys.length<=maxLen) (n8:(xs.length+ys.length)*de<=140737488355328):
 ∃r w' G',(Builtin.append_ #[T,tx] ty #[u,v]).run P w= .ok r w'/\bP G.N G w G' w'/\G.N<=G'.N/\bU G' w' (h.set n (.front e k (xs.length+ys.length)))/\aD G' w' r (.own n (xs++ys)):=by
 subst mZ;subst ub;have nE:=hi.lt hn;obtain⟨l4,Q0,hbr⟩:=hi.dn n _ hn;obtain⟨hp,UT⟩:dz G.S w u (.sl xs)/\u=G.sg n:=by
  cases hu with
  |own _ _ _ hp hle hf=>exact⟨hp,hf l4.symm⟩
 obtain⟨olds,xY,A,c,wN,kG,vY,hA⟩:=hp.rd gL m5;have No:h.set n (.front e i.size (xs.length+0))=h:=by
  rw[Nat.add_zero];refine List.ext_getElem? λm=> ?_;by_cases em:m=n
  ·subst em;rw[akJ (akg.1 hn).1,hn]
  ·rw[akO (Ne.symm em)]
 by_cases hy:ys.length=0
 ·have jo:ys=[]:=List.eq_nil_of_length_eq_zero hy;subst jo;have lY:us=[]:=List.eq_nil_of_length_eq_zero (by rw[hr.len];simp);subst lY;have:=run_append_nothing (P:=P) w T tx ty e i hT kD A xs.length c kG v hs;refine⟨u,w,G,by rw[wN];exact this,bP.refl _ _ _,akr _,?_,by rw[akB];exact hu⟩;simp only[aks];rw[No];exact hi
 ·have Pu:0<ys.length:=Nat.pos_of_ne_zero hy;have NP:xs.length+ys.length<=9223372036854775807:=by simp only[maxLen]at tU;omega
  have JB:Rd G.S w i.size (xs++ys) (olds++us):=xY.append hr;have grow:c<xs.length+ys.length->∃r w' G',(Builtin.append_ #[T,tx] ty #[u,v]).run P w= .ok r w'/\bP G.N G w G' w'/\G.N<=G'.N/\bU G' w' (h.set n (.front e i.size (xs.length+ys.length)))/\aD G' w' r (.own n (xs++ys)):=by
   intro hg;have hold:(Builtin.firstCells i.size xs.length (.slice A xs.length c)).run P w.drew= .ok olds.toArray w.drew:=by
    by_cases hx:xs=[]
    ·subst hx;have:olds=[]:=List.eq_nil_of_length_eq_zero (by rw[xY.len];simp);subst this;cases A with
     |none=>exact run_firstCells_none _ _ _ _ _
     |some a=>exact run_firstCells_some _ _ _ _ _ _ [] (by simp) (λj u hu=>by simp at hu)
    ·obtain⟨b,o,rfl,hc⟩:=hA hx;exact run_firstCells_some _ _ _ _ _ _ olds xY.len (λj u hu=>by rw[lg];exact(hc j u hu).2)
   have dO:=run_append_grow_src (P:=P) w T tx ty e i z hT kD hz A xs.length c olds hold v ys.length us hs hg (by omega) (growslice_fits hg n8);obtain⟨cap,jD⟩:∃cap,cap=grownCap w (xs.length+ys.length) c e:=⟨_,rfl⟩;have kt:xs.length+ys.length<=cap:=by rw[jD];exact grownCap_ge _ _ _ _
   have hle:cap<=maxLen:=by rw[jD];exact grownCap_le_maxLen _ _ _ _ tU
   rw[<-jD]at dO;obtain⟨cur,jZ⟩:∃cur,cur=(olds++us).toArray++Builtin.zeroCells z.cells (cap-(xs.length+ys.length)):=⟨_,rfl⟩;rw[<-jZ]at dO;obtain⟨w',e9⟩:∃w',w'=w.drew.alloc (.cells cur e):=⟨_,rfl⟩;rw[<-e9]at dO;have gw:cur.size=cap*i.size:=by
     have:=size_zeroCells z.cells (cap-(xs.length+ys.length));rw[jZ,Array.size_append,this,List.size_toArray,JB.len,jP,akh,<-Nat.add_mul]
     congr 1
     omega
   have fk:w'.heap[w.heap.size]?=some (.cells cur e (0,0)):=by rw[e9];exact World.alloc_heap_new w.drew _
   have Nk:∀b,b<w.heap.size->w'.heap[b]?=w.heap[b]?:=λb hb=>by rw[e9];exact Below.heap_alloc w.drew _ b hb
   have ic:w'.heap.size=w.heap.size+1:=by rw[e9];simp
   obtain⟨S,hS⟩:∃S:Nat->Nat->Prop,S=λb o=>G.S b o\/(b=w.heap.size/\o<(xs.length+ys.length)*i.size):=⟨_,rfl⟩;have hJ:∀b o,G.S b o->w'.cell? ⟨b,o,none⟩=w.cell? ⟨b,o,none⟩:=λb o hs=>World.cell?_of_block (Nk b (hi.S b o hs));have hE:bP G.N G w (G.grow n S (.slice (some ⟨w.heap.size,0,none⟩) (xs.length+ys.length) cap) (xs.length+ys.length) (some w.heap.size)) w':=
    ⟨by rw[ic];exact Nat.le_succ _,λb o h=>by show S b o;rw[hS];exact .inl h,hJ,λ_ _=>rfl,
     λm _=>by
      by_cases em:m=n
      ·right;subst em;simp only[Gh.grow,if_true,l4];omega
      ·left;exact⟨by simp [Gh.grow,em],by simp [Gh.grow,em]⟩,
     gQ rfl,λb hb=>Nk b (hi.z b hb),by rw[e9];rfl,by rw[e9];rfl,by rw[e9];rfl,λb o hs=>by
      have cM:S b o:=hs;rw[hS]at cM;rcases cM with h|⟨rfl,_⟩
      ·exact .inl h
      ·exact .inr λhz=>akU _ (hi.z _ hz)⟩
   have hP:dz S w' (.slice (some ⟨w.heap.size,0,none⟩) (xs++ys).length cap) (.sl (xs++ys)):=by
    refine(JB.keep (S':=S) (w':=w') (λb o h=>by rw[hS];exact .inl h) hJ).Cm w.heap.size cap (by rw[akh];exact kt) hle (λo ho=>by rw[hS];exact .inr ⟨rfl,by rw[akh]at ho;exact ho⟩) (λo x ho=> ?_);rw[cell_of_row w' w.heap.size o cur e (0,0) fk,jZ,Array.getElem?_append_left (by simp only[List.size_toArray];exact(akg.1 ho).1),List.getElem?_toArray];exact ho
   rw[akh]at hP;refine⟨_,w',_,by rw[wN];exact dO,hE,akr _,TB hi hn S _ w.heap.size hE (.inl rfl) (by rw[ic];exact ak2 _) (λb o hs=> ?_) (λb hb _=>Nk b hb) ?_,?_⟩
   ·rw[hS]at hs;exact hs.imp id And.left
   ·refine⟨by simp [Gh.grow],tU, .inr ⟨w.heap.size,cap,cur,by simp [Gh.grow],by simp [Gh.grow],λhz=>akU _ (hi.z _ hz),fk,kt,hle,gw,λo ho hs=> ?_⟩⟩;have cM:S w.heap.size o:=hs;rw[hS]at cM;rcases cM with cM|⟨_,cM⟩
    ·have:=hi.S _ _ cM;omega
    ·omega
   ·exact .own n (xs++ys) nE hP (by simp [Gh.grow]) (λ_=>by simp [Gh.grow])
  rcases hbr with⟨iR,A',kg⟩|⟨g,cap,cur,iR,kg,EA,pR,O3,LK,SD,XM⟩
  ·refine grow ?_;rw[UT,kg]at wN;cases wN
   omega
  ·have Uw:=wN;rw[UT,kg]at Uw;injection Uw with eA0 _ e1;have e2:=e1.symm;subst e2;subst eA0;by_cases qi:xs.length+ys.length<=c
   ·
    have lE:xs.length*i.size+us.length<=cur.size:=by rw[hr.len,SD,<-Nat.add_mul];exact Nat.mul_le_mul_right _ qi
    have DK:∀o,w.cell? ⟨g,o,none⟩=cur[o]?:=λo=>cell_of_row w g o cur e (0,0) pR;have xl:∀j,j<us.length->(w.cell? ⟨g,0+xs.length*i.size+j,none⟩).isSome=true:=λj hj=>by
     rw[DK,akA,akC (by omega)];rfl
    have dO:=run_append_room_src (P:=P) w T tx ty e i hT kD g 0 xs.length c v ys.length us hs qi xl
     (λj hj=>by unfold World.frozen?;rw[pR];simp)
    rw[akA]at dO xl;obtain⟨w',e9⟩:∃w',w'=w.setCells g (xs.length*i.size) us:=⟨_,rfl⟩;rw[<-e9]at dO;have ai1:g<w.heap.size:=(akv.1 pR).1;have kT:=run_storeCells_at P g (xs.length*i.size) e us 0 cur w pR (by simpa using lE) hs.one;have uk:=run_storeCells_cells (P:=P) g (xs.length*i.size) us 0 w (by simpa using xl) (λj hj=>by unfold World.frozen?;rw[pR];simp) hs.one;simp only[Nat.add_zero]at kT uk;rw[kT]at uk;have vP:w'=w.setRow g (cur.toList.take (xs.length*i.size)++us++cur.toList.drop (xs.length*i.size+us.length)).toArray:=by
      rw[e9];injection uk with _ e2;exact e2.symm
    obtain⟨oF,Kj⟩:∃oF:Array ak8,oF=(cur.toList.take (xs.length*i.size)++us++cur.toList.drop (xs.length*i.size+us.length)).toArray:=⟨_,rfl⟩;rw[<-Kj]at vP;have nO:w'.heap[g]?=some (.cells oF e (0,0)):=by rw[vP];exact setRow_heap w g cur oF e _ pR
    have iH:∀b,b≠g->w'.heap[b]?=w.heap[b]?:=λb hb=>by rw[vP];exact setRow_other w g b oF hb
    have ic:w'.heap.size=w.heap.size:=by rw[vP];exact Jp w g oF
    have fM:∀o,oF[o]?=if o<xs.length*i.size then cur[o]? else if o<xs.length*i.size+us.length then us[o-xs.length*i.size]? else cur[o]?:=λo=>by
     rw[Kj,List.getElem?_toArray,akx];have hl:cur.toList.length=cur.size:=akN;by_cases J:o<xs.length*i.size
     ·rw[if_pos J,akq (by simp;omega),List.getElem?_take_of_lt J,akD]
     ·rw[if_neg J,akw (by simp;omega)];simp only[List.length_take,hl];rw[Nat.min_eq_left (by omega)];by_cases h2:o<xs.length*i.size+us.length
      ·rw[if_pos h2,akq (by omega)]
      ·rw[if_neg h2,akw (by omega),List.getElem?_drop,show xs.length*i.size+us.length+(o-xs.length*i.size-us.length)=o by omega,akD]
    have agE:oF.size=cur.size:=by
     rw[Kj];simp only[List.size_toArray,akh,List.length_take,List.length_drop,akN];omega
    have hJ:∀b o,G.S b o->w'.cell? ⟨b,o,none⟩=w.cell? ⟨b,o,none⟩:=λb o hs=>by
     by_cases eb:b=g
     ·subst eb;have ho:o<xs.length*i.size:=Nat.lt_of_not_le λhle=>XM o hle hs;rw[DK,cell_of_row w' b o oF e (0,0) nO,fM,if_pos ho]
     ·exact World.cell?_of_block (iH b eb)
    obtain⟨S,hS⟩:∃S:Nat->Nat->Prop,S=λb o=>G.S b o\/(b=g/\o<(xs.length+ys.length)*i.size):=⟨_,rfl⟩;have hE:bP G.N G w (G.grow n S (.slice (some ⟨g,0,none⟩) (xs.length+ys.length) c) (xs.length+ys.length) (some g)) w':=
     ⟨by rw[ic];exact akr _,λb o h=>by show S b o;rw[hS];exact .inl h,hJ,λ_ _=>rfl,
      λm _=>by
       by_cases em:m=n
       ·right;subst em;simp only[Gh.grow,if_true,l4];omega
       ·left;exact⟨by simp [Gh.grow,em],by simp [Gh.grow,em]⟩,
      gQ rfl,λb hb=>iH b (λe=>EA (e▸hb)),by rw[vP];rfl,by rw[vP];rfl,by rw[vP];rfl,λb o hs=>by
       have cM:S b o:=hs;rw[hS]at cM;rcases cM with h|⟨rfl,_⟩
       ·exact .inl h
       ·exact .inr EA⟩
    have hP:dz S w' (.slice (some ⟨g,0,none⟩) (xs++ys).length c) (.sl (xs++ys)):=by
     refine(JB.keep (S':=S) (w':=w') (λb o h=>by rw[hS];exact .inl h) hJ).Cm g c (by rw[akh];exact qi) LK (λo ho=>by rw[hS];exact .inr ⟨rfl,by rw[akh]at ho;exact ho⟩) (λo x ho=> ?_);rw[cell_of_row w' g o oF e (0,0) nO,fM];have j0:olds.length=xs.length*i.size:=xY.len;by_cases J:o<xs.length*i.size
     ·rw[if_pos J];rw[akq (by omega)]at ho;have hx:xs≠ []:=λe=>by subst e;simp at J
      obtain⟨b,o',eA,hc⟩:=hA hx;cases eA
      have:=(hc o x ho).2;rw[akA,DK]at this;exact this
     ·rw[if_neg J];rw[akw (by omega),j0]at ho;have:=(akg.1 ho).1;rw[if_pos (by omega)];exact ho
    rw[akh]at hP;refine⟨_,w',_,by rw[wN];exact dO,hE,akr _,TB hi hn S _ g hE (.inr iR) (by rw[ic];exact ai1) (λb o hs=> ?_) (λb _ hb=>iH b hb) ?_,?_⟩
    ·rw[hS]at hs;exact hs.imp id And.left
    ·refine⟨by simp [Gh.grow],tU, .inr ⟨g,c,oF,by simp [Gh.grow],by simp [Gh.grow],EA,nO,qi,LK,by rw[agE,SD],λo ho hs=> ?_⟩⟩;have cM:S g o:=hs;rw[hS]at cM;rcases cM with cM|⟨_,cM⟩
     ·exact XM o (aky (Nat.mul_le_mul_right _ (akV _ _)) ho) cM
     ·omega
    ·exact .own n (xs++ys) nE hP (by simp [Gh.grow]) (λ_=>by simp [Gh.grow])
   ·exact grow (by omega)
def WF(r:ak6 Nat):Fence:={Fence.wide with round:=r}
def iv(N0:Nat)(G:Gh)(w:ak9)(K:St->Prop)(a':Act)(w':ak9):Prop:=∃G' s',bP N0 G w G' w'/\N0<=G'.N/\db G' w' a' s'/\K s'
section
variable {P:ak7} {r:ak6 Nat} {n N0:Nat} {G:Gh} {w:ak9} {a:Act} {s:St} {o:Oper} {K:St->Prop} {Q:Exit->Act->ak9->Prop}
theorem lW(gX:∀c,o.op≠ .defer c)(hs:db G w a s)(cw:N0<=G.N){v:ak8}{x:AV}{w':ak9}{G':Gh}{h':ak4 ao}(hr:(execOp a.eval o).run P w= .ok (.value v) w')
 (hE:bP G.N G w G' w') (hN:G.N<=G'.N) (hi:bU G' w' h') (hv:aD G' w' v x) (hK:K ((s.wh h').put o.dst x)):o.wpIn (WF r) n P a w (iv N0 G w K) Q:=by
 refine⟨λ_ _=>trivial,?_⟩;rw[Oper.semAt_eq _ _ _ gX,hr];exact⟨G',_,hE.less cw,aky cw hN,((hs.move hE hN hi).put hv o.dst),hK⟩
theorem fx(gX:∀c,o.op≠ .defer c)(hs:db G w a s)(cw:N0<=G.N){v:ak8}{x:AV}(hr:(execOp a.eval o).run P w= .ok (.value v) w)(hv:aD G w v x)(hK:K (s.put o.dst x)):
 o.wpIn (WF r) n P a w (iv N0 G w K) Q:=
 lW gX hs cw hr (bP.refl _ _ _) (akr _) hs.inv hv hK
theorem J4(gX:∀c,o.op≠ .defer c)(hs:db G w a s)(cw:N0<=G.N){w':ak9}{G':Gh}{h':ak4 ao}(hr:(execOp a.eval o).run P w= .ok .skip w')
 (hE:bP G.N G w G' w') (hN:G.N<=G'.N) (hi:bU G' w' h') (hK:K ((s.wh h').put o.dst (.d (.v undef)))):o.wpIn (WF r) n P a w (iv N0 G w K) Q:=by
 refine⟨λ_ _=>trivial,?_⟩;rw[Oper.semAt_eq _ _ _ gX,hr];exact⟨G',_,hE.less cw,aky cw hN,((hs.move hE hN hi).put (.d (.v undef)) o.dst),hK⟩
theorem XF{t k:Nat}(h:gj P t=some k):∃i,P.info? t=some i/\i.size=k:=by
 unfold gj at h;cases hq:P.info? t with
 |none=>rw[hq]at h;cases h
 |some i=>rw[hq]at h;exact⟨i,rfl,by simpa using h⟩
theorem EN{t:Nat}{z:ak8}(h:iw P t=some z):∃i,P.info? t=some i/\i.zero=some z:=by
 unfold iw at h;cases hq:P.info? t with
 |none=>rw[hq]at h;cases h
 |some i=>rw[hq]at h;exact⟨i,rfl,by simpa using h⟩
theorem BD{t:Nat}{z:ak8}(h:iw P t=some z)(w:ak9):(zeroValue t).run P w= .ok z w:=by
 obtain⟨i,J,h2⟩:=EN h;simp [zeroValue,typeInfo,J,h2]
theorem lI{t k:Nat}(h:gj P t=some k)(w:ak9):(sizeOf t).run P w= .ok k w:=by
 obtain⟨i,J,h2⟩:=XF h;simp [sizeOf,typeInfo,J,h2]
theorem A4{t:Nat}{g:Bool}(h:lK P t=some g)(w:ak9):(isAgg t).run P w= .ok g w:=by
 unfold lK at h;cases hq:P.underlying t with
 |none=>rw[hq]at h;cases h
 |some d=>
  rw[hq]at h;unfold isAgg;rw[Sem.run_bind,run_underlying hq w];simp only[Option.map_some,Option.some.injEq]at h;subst h;cases d<;>rfl
theorem agz{t:Nat}(h:lK P t=some true):∃d,P.underlying t=some d/\d.isRow=true:=by
 unfold lK at h;cases hq:P.underlying t with
 |none=>rw[hq]at h;cases h
 |some d=>rw[hq]at h;refine⟨d,rfl,?_⟩;cases d<;>simp_all [TypeDesc.isRow]
theorem TP{t:Nat}{C:AV->Prop}:∀(b o:Nat)(cs:ak4 AV)(off:Nat)(us:Nat->ak8),(∀j,j<cs.length->w.cell? ⟨b,o+j,none⟩=some (us j))->(∀(j:Nat)(c:AV),cs[j]?=some c->aD G w (us j) c)->
 (match lK P t,gj P t with
  |some true,some k=>gy (ct (off+k) cs.length) (C (.agg ((cs.drop off).take k)))
  |some false,some _=>match cs[off]? with
   |some c=>C c
   |none=>False
  |_,_=>False)->∃u x,(loadVar t ⟨b,o+off,none⟩).run P w= .ok u w/\aD G w u x/\C x:=by
 intro b o cs off us J h2 h3;split at h3
 ·rename_i k hg hk
  obtain⟨hlen,hC⟩:=bV.1 h3;rw[dy]at hlen;obtain⟨d,CR,nM⟩:=agz hg;have FQ:((List.range k).map λj=>us (off+j)).length=k:=by simp
  have dO:=run_loadVar_mid (P:=P) w b (o+off) t ((List.range k).map λj=>us (off+j)) d (λj u hu=>by
   rw[akn]at hu;by_cases hj:j<k
   ·rw[List.getElem?_range hj]at hu;simp only[Option.map_some,Option.some.injEq]at hu;subst hu;have:=J (off+j) (by omega)
    rwa [<-Nat.add_assoc]at this
   ·rw[akM (by simp;omega)]at hu;cases hu) CR nM (by rw[FQ];exact hk)
  refine⟨_,_,dO, .agg _ _ (by simp;omega) λi u c hu hc=> ?_,hC⟩;rw[List.getElem?_toArray,akn]at hu;rw[List.getElem?_take]at hc;split at hc
  ·rename_i mZ
   rw[List.getElem?_range mZ]at hu;simp only[Option.map_some,Option.some.injEq]at hu;subst hu;rw[List.getElem?_drop]at hc;exact h2 (off+i) c hc
  ·cases hc
 ·rename_i k hg hk
  split at h3
  ·rename_i c hc
   refine⟨us off,c,?_,h2 off c hc,h3⟩;unfold loadVar;rw[Sem.run_bind,A4 hg w];simp only[Result.andThen_ok,Bool.false_eq_true,if_false];unfold load;simp only[Sem.run,J off (akg.1 hc).1]
  ·exact h3.elim
 ·exact h3.elim
theorem Xt{t:Nat}{p:AV}{v:ak8}{C:AV->Prop}(hi:bU G w s.h)(hv:aD G w v p)(h:nx P t s.h p C):∃u x,(Instr.loadAt t v).run P w= .ok u w/\aD G w u x/\C x:=by
 have key:=TP (P:=P) (G:=G) (w:=w) (t:=t) (C:=C);unfold nx rN at h;cases p with
 |ptr m off=>
  simp only at h;split at h
  ·rename_i cs hm
   obtain⟨_,_,vs,T,hh,hl,hr⟩:=hi.dn m _ hm;cases hv with
   |ptr _ _ tX=>
    obtain⟨u,x,J,h2,h3⟩:=key (G.aM m) 0 cs off (λj=>vs.getD j undef) (λj hj=>by
     have iC:j<vs.size:=by rw[hl];exact hj
     rw[akA,cell_of_row w (G.aM m) j vs T (0,0) hh];simp [Array.getD,iC]) (λj c hc=>by
     have iC:j<vs.size:=by rw[hl];exact(akg.1 hc).1
     exact hr j _ c (by simp [Array.getD,iC]) hc) h
    rw[akA]at J;exact⟨u,x,by simp [Instr.loadAt,Instr.sureAddr,J],h2,h3⟩
  ·exact h.elim
 |bn xs i off=>
  simp only at h;split at h
  ·rename_i cs gw
   cases hv with
   |bn _ _ _ b o us x hx hS hu=>
    rw[hx]at gw;cases gw
    obtain⟨u,y,J,h2,h3⟩:=key b o (cs.map .d) off us (λj hj=>(hS j (by simpa using hj)).2) (λj c hc=>by
     rw[akn]at hc;cases hd:cs[j]? with
     |none=>rw[hd]at hc;cases hc
     |some d=>rw[hd]at hc;cases hc;exact .d (hu j d hd)) h
    exact⟨u,y,by simp [Instr.loadAt,Instr.sureAddr,J],h2,h3⟩
  ·exact h.elim
 |_=>exact h.elim
theorem aD.list{u:ak8}{x:AV}{xs:ak4 (ak4 D)}(h:aD G w u x)(hx:x.fF=some xs):dz G.S w u (.sl xs):=by
 unfold AV.fF at hx;split at hx
 ·cases hx;cases h with|d h=>exact h
 ·cases hx;cases h with|own _ _ _ h=>exact h
 ·cases hx;cases h with|full _ h=>exact h
 ·cases hx
  cases h with
  |d h=>
   cases h with
   |v=>exact .sl none 0 0 0 0 [] (λ_ _=>undef) (λh=>absurd rfl h) (akr _) (by simp) (λ_ h=>by cases h) (λi j hi=>by simp at hi) (λi j x d hx=>by simp at hx)
 ·cases hx
theorem aD.int{u:ak8}{x:AV}{z:Int}(h:aD G w u x)(hx:x.int?=some z):∃k,u= .int k z:=by
 unfold AV.int? at hx;split at hx
 ·rename_i k m
  cases hx
  cases h with
  |d h=>cases h with|v=>exact⟨k,rfl⟩
 ·cases hx
theorem aD.bool{u:ak8}{t:Bool}(h:aD G w u (.d (.v (.bool t)))):u= .bool t:=by
 cases h with|d h=>cases h with|v=>rfl
theorem aD.val{u v:ak8}(h:aD G w u (.d (.v v))):u=v:=by
 cases h with|d h=>cases h with|v=>rfl
theorem jB{T e k:Nat}(h:eS P T=some (e,k)):P.underlying T=some (.slice e)/\gj P e=some k:=by
 unfold eS at h;split at h
 ·rename_i e' he
  cases hq:gj P e' with
  |none=>rw[hq]at h;cases h
  |some k'=>rw[hq]at h;simp at h;obtain⟨rfl,rfl⟩:=h;exact⟨he,hq⟩
 ·cases h
theorem MI{T m e k:Nat}(h:sE P T=some (m,e,k)):P.underlying T=some (.array m e)/\gj P e=some k:=by
 unfold sE at h;split at h
 ·rename_i m' e' he
  cases hq:gj P e' with
  |none=>rw[hq]at h;cases h
  |some k'=>rw[hq]at h;simp at h;obtain⟨rfl,rfl,rfl⟩:=h;exact⟨he,hq⟩
 ·cases h
theorem afQ{T:Nat}{x i:AV}{u v:ak8}{C:AV->Prop}(hu:aD G w u x)(hv:aD G w v i)(h:rJ P T x i C):∃p y,(Instr.indexAt T u v).run P w= .ok p w/\aD G w p y/\C y:=by
 unfold rJ at h;split at h
 ·rename_i e k hT
  obtain⟨fI,fP⟩:=jB hT;split at h
  ·rename_i m off len cap k'
   split at h
   ·rename_i z hz
    obtain⟨sa,h0,aL,hC⟩:=bV.1 h;rw[beq_iff_eq]at sa;subst sa;obtain⟨kz,rfl⟩:=hv.int hz;cases hu with
    |row _ _ _ _ _ hm hl oH=>
     have hN:(z.toNat:Int)=z:=Int.toNat_of_nonneg h0;refine⟨_,_,?_, .ptr m (off+z.toNat*k') hm,hC⟩;simp [Instr.indexAt,asIntOf,run_underlying fI,h0,aL,lI fP,lg]
   ·exact h.elim
  ·split at h
   ·rename_i xs z ld hz
    obtain⟨h0,h⟩:=h;obtain⟨kz,rfl⟩:=hv.int hz;split at h
    ·rename_i c hc
     obtain⟨hk,hC⟩:=h;obtain⟨A,b,o,cc,k',us,rfl,hA,kG,vY,iP,hS,lY⟩:=(hu.list ld).oY;have aL:z.toNat<xs.length:=(akg.1 hc).1;have cN:xs≠ []:=λe=>by subst e;simp at aL
     have ek:k'=k:=by rw[<-iP c (akt hc),hk]
     subst ek;rw[hA cN];have N3:z<(xs.length:Int):=by omega
     refine⟨_, .bn [c] 0 0,?_, .bn [c] 0 0 b (o+z.toNat*k') (us z.toNat) c rfl (λj hj=> ?_) (λj d hd=>lY _ _ _ _ hc hd),hC⟩
     ·simp [Instr.indexAt,asIntOf,run_underlying fI,h0,N3,lI fP,lg]
     ·have:=hS z.toNat j aL (by rw[hk]at hj;exact hj);exact⟨this.1,this.2.1⟩
    ·exact h.elim
   ·exact h.elim
 ·split at h
  ·rename_i m e k b off z hT hz
   obtain⟨h0,aL,hC⟩:=h;obtain⟨fI,fP⟩:=MI hT;obtain⟨kz,rfl⟩:=hv.int hz;cases hu with
   |ptr _ _ hb=>
    refine⟨_,_,?_, .ptr b (off+z.toNat*k) hb,hC⟩;simp [Instr.indexAt,Instr.sureAddr,asIntOf,run_underlying fI,h0,aL,lI fP,lg]
  ·rename_i m e k xs i' off z hT hz
   obtain⟨kN,h0,aL,h9⟩:=bV.1 h;rw[beq_iff_eq]at kN;subst kN;obtain⟨fI,fP⟩:=MI hT;obtain⟨kz,rfl⟩:=hv.int hz;split at h9
   ·rename_i c hc
    split at h9
    ·rename_i d hd
     cases hu with
     |bn _ _ _ b o us c' fM hS lY=>
      rw[hc]at fM;cases fM
      have adj:=(akg.1 hd).1;refine⟨_, .bn [[d]] 0 0,?_, .bn [[d]] 0 0 b (o+(off+z.toNat)) (λ_=>us (off+z.toNat)) [d] rfl (λj hj=> ?_) (λj d' jH=> ?_),h9⟩
      ·simp [Instr.indexAt,Instr.sureAddr,asIntOf,run_underlying fI,h0,aL,lI fP,lg,Nat.add_assoc]
      ·simp at hj;subst hj;exact hS _ adj
      ·match j with
       |0=>simp at jH;subst jH;exact lY _ _ hd
       |j+1=>simp at jH
    ·exact h9.elim
   ·exact h9.elim
  ·exact h.elim
theorem qQ{T:Nat}(h:gZ P T=true):P.underlying T=some .string:=by
 unfold gZ at h;split at h
 ·assumption
 ·cases h
theorem aa3{T:Nat}{x:AV}{u:ak8}{ty:Nat}{C:Nat->Prop}(hu:aD G w u x)(h:qw P T x C):∃m:Nat,(Builtin.len_ #[T] ty #[u]).run P w= .ok (.int .i64 m) w/\C m:=by
 have Qg:∀(A:ak6 Addr)(l c:Nat),(eS P T).isSome=true->(Builtin.len_ #[T] ty #[.slice A l c]).run P w= .ok (.int .i64 l) w:=by
  intro A l c hT;obtain⟨⟨e,k⟩,hT⟩:=Option.isSome_iff_exists.1 hT;simp [Builtin.len_,run_underlying (jB hT).1,goInt]
 unfold qw at h;split at h
 ·rename_i b
  have:=hu.val;subst this;obtain⟨hT,hC⟩:=bV.1 h;exact⟨b.size,by simp [Builtin.len_,run_underlying (qQ hT),goInt],hC⟩
 ·cases hu with
  |row=>exact⟨_,Qg _ _ _ (bV.1 h).1,(bV.1 h).2⟩
 ·split at h
  ·rename_i xs ld
   obtain⟨A,b,o,c,k,us,rfl,_⟩:=(hu.list ld).oY;exact⟨_,Qg _ _ _ (bV.1 h).1,(bV.1 h).2⟩
  ·exact h.elim
def Aa(a:Act)(x:ak6 Operand)(d m:Nat):Prop:=match x with|none=>m=d|some y=>∃k z,a.eval y= .int k z/\0<=z/\m=z.toNat
theorem rU{x:ak6 Operand}{d:Nat}{C:Nat->Prop}(hs:db G w a s)(h:jF (ev s) x d C):∃m,C m/\Aa a x d m:=by
 cases x with
 |none=>exact⟨_,h,rfl⟩
 |some y=>
  unfold jF at h;simp only at h;split at h
  ·rename_i z hz
   obtain⟨k,hk⟩:=(hs.ev y).int hz;exact⟨_,h.2,k,z,hk,h.1,rfl⟩
  ·exact h.elim
theorem w9{k:IntKind}{z:Int}{y:Nat}{code:BoundsCode}(h0:0<=z)(h:z.toNat<=y)(w:ak9):(Instr.sliceBound (.int k z) y code).run P w= .ok z.toNat w:=by
 have:z<=(y:Int):=by omega
 simp [Instr.sliceBound,asIntOf,h0,this]
theorem Cq{lo hi:ak6 Operand}{len cap l h:Nat}{xh:Bool}(j0:Aa a lo 0 l)(qa:Aa a hi len h)(hl:l<=h)(hh:h<=cap)(w:ak9):
 (Instr.sliceBounds xh len cap (lo.map a.eval) (hi.map a.eval) none).run P w= .ok (l,h,cap) w:=by
 unfold Aa at j0 qa;cases lo with
 |none=>
  subst j0;cases hi with
  |none=>subst qa;simp [Instr.sliceBounds]
  |some y=>
   obtain⟨k,z,e,h0,rfl⟩:=qa;simp [Instr.sliceBounds,e,w9 h0 hh]
 |some x=>
  obtain⟨k',z',e',Vo,rfl⟩:=j0;cases hi with
  |none=>subst qa;simp [Instr.sliceBounds,e',w9 Vo hl]
  |some y=>
   obtain⟨k,z,e,h0,rfl⟩:=qa;simp [Instr.sliceBounds,e,e',w9 h0 hh,w9 Vo hl]
theorem dz.part{S:Nat->Nat->Prop}{v:ak8}{xs:ak4 (ak4 D)}{k:Nat}(hp:dz S w v (.sl xs))(hk:∀c∈xs,c.length=k){l h:Nat}(hl:l<=h)(hh:h<=xs.length):
 ∃A c,v= .slice A xs.length c/\xs.length<=c/\dz S w (.slice (if c=l then A else A.map (·.add (l*k))) (h-l) (c-l)) (.sl ((xs.take h).drop l)):=by
 obtain⟨A,b,o,c,k',us,rfl,hA,kG,vY,iP,hS,lY⟩:=hp.oY;refine⟨A,c,rfl,kG,?_⟩;have hlen:((xs.take h).drop l).length=h-l:=by simp;omega
 rw[<-hlen];by_cases hx:xs=[]
 ·subst hx;have e:((([]:ak4 (ak4 D)).take h).drop l)=[]:=by simp
  rw[e];exact .sl _ 0 0 (c-l) 0 [] (λ_ _=>undef) (λh=>absurd rfl h) (Nat.zero_le _) (by omega) (λ_ h=>by cases h) (λi j hi=>by simp at hi) (λi j x d hx=>by simp at hx)
 ·have ek:k'=k:=by
   obtain⟨x,nG⟩:=List.exists_mem_of_ne_nil xs hx;rw[<-iP x nG,hk x nG]
  subst ek;have fz:∀i,i<h-l->((xs.take h).drop l)[i]?=xs[l+i]?:=λi hi=>by
   rw[List.getElem?_drop,List.getElem?_take_of_lt (by omega)]
  refine .sl _ b (o+l*k') (c-l) k' _ (λi j=>us (l+i) j) (λcN=> ?_) (by rw[hlen];omega) (by omega) (λx hx=>hk x (List.mem_of_mem_take (List.mem_of_mem_drop hx))) (λi j hi hj=> ?_) (λi j x d hx hd=> ?_)
  ·have NQ:0<((xs.take h).drop l).length:=List.length_pos_iff.2 cN;rw[hlen]at NQ;rw[if_neg (by omega),hA hx];simp [lg]
  ·rw[hlen]at hi;have:=hS (l+i) j (by omega) hj;rw[Nat.add_mul,<-Nat.add_assoc]at this;exact this
  ·have hi:=(akg.1 hx).1;rw[hlen]at hi;rw[fz i hi]at hx;exact lY _ _ _ _ hx hd
theorem Zw{T:Nat}{x:AV}{u:ak8}{lo hi mx:ak6 Operand}{C:AV->Prop}(hs:db G w a s)(hu:aD G w u x)(h:tA P T (ev s) x lo hi mx C):
 ∃p y,(Instr.sliceAt T u (lo.map a.eval) (hi.map a.eval) (mx.map a.eval)).run P w= .ok p w/\aD G w p y/\C y:=by
 unfold tA at h;split at h
 ·split at h
  ·rename_i b
   obtain⟨hT,h⟩:=bV.1 h;have hT:=qQ hT;have:=hu.val;subst this;obtain⟨m,h,hm⟩:=rU hs h;obtain⟨vm,h⟩:=h;obtain⟨l,h,hl⟩:=rU hs h;obtain⟨rm,h⟩:=h;refine⟨_,_,?_, .d (.v _),h⟩;have hb:=Cq (P:=P) (xh:=false) hl hm rm vm w;simp [Instr.sliceAt,Instr.slice,run_underlying hT,hb]
  ·rename_i m off
   split at h
   ·rename_i c e k hT
    rw[bV,dy]at h;obtain⟨vY,h⟩:=h;have vY:c<=maxLen:=by unfold maxLen;omega
    obtain⟨fI,fP⟩:=MI hT;obtain⟨hh,h,hm⟩:=rU hs h;obtain⟨vm,h⟩:=bV.1 h;rw[dy]at vm;obtain⟨l,h,hl⟩:=rU hs h;obtain⟨rm,h⟩:=bV.1 h;simp only[aki,dy,Bool.not_eq_true',<-Bool.not_eq_true,Nat.not_le]at rm;obtain⟨rm,kG⟩:=rm;have hb:=Cq (P:=P) (xh:=false) hl hm rm vm w;cases hu with
    |ptr _ _ tX=>
     refine⟨_,_,?_, .row m (off+l*k) (hh-l) (c-l) k tX (by omega) (by omega),h⟩;simp [Instr.sliceAt,Instr.sureAddr,run_underlying fI,hb,lI fP,lg,Nat.ne_of_gt kG]
   ·exact h.elim
  ·split at h
   ·rename_i xs e k ld hT
    obtain⟨hk,h⟩:=h;obtain⟨fI,fP⟩:=jB hT;obtain⟨hh,h,hm⟩:=rU hs h;obtain⟨vm,h⟩:=h;obtain⟨l,h,hl⟩:=rU hs h;obtain⟨rm,h⟩:=h;obtain⟨A,c,rfl,kG,hp⟩:=(hu.list ld).part hk rm vm;have hb:=Cq (P:=P) (xh:=true) hl hm rm (aky vm kG) w;refine⟨_,_,?_, .d hp,h⟩;simp [Instr.sliceAt,Instr.slice,run_underlying fI,hb,lI fP]
   ·exact h.elim
 ·rename_i y
  split at h
  case h_2=>exact h.elim
  rename_i yh
  split at h
  ·rename_i xs e k ld hT
   obtain⟨hk,h⟩:=h;obtain⟨fI,fP⟩:=jB hT;obtain⟨c',h3,hc⟩:=rU hs h;obtain⟨gg,h3⟩:=h3;obtain⟨hh,h4,hm⟩:=rU hs h3;obtain⟨rfl,h5⟩:=h4;clear h h3;obtain⟨k1,z1,e1,p1,q1⟩:=hc;obtain⟨k2,z2,e2,p2,q2⟩:=hm;obtain⟨A,c,rfl,kG,hp⟩:=(hu.list ld).part hk (Nat.zero_le hh) gg;have hp':dz G.S w (.slice A hh hh) (.sl (xs.take hh)):=by
    have J:(if c=0 then A else A.map (·.add (0*k)))=A:=by
     split
     ·rfl
     ·cases A<;>simp [Addr.add]
    rw[J,akP]at hp;obtain⟨A',b,o,c2,k',us,e,r1,r2,r3,r4,r5,r6⟩:=hp.oY;have hl:(xs.take hh).length=hh:=by simp;omega
    injection e with eA e3 e4;subst eA;have:=dz.sl (S:=G.S) (w:=w) A b o hh k' (xs.take hh) us r1 (by omega) (by omega) r4 r5 r6
    rwa [hl]at this
   refine⟨.slice A hh hh, .full (xs.take hh),?_, .full _ hp' ⟨A,by simp;omega⟩,h5⟩;have b1:(Instr.sliceBound (.int k1 z1) c .slice3Acap).run P w= .ok hh w:=by rw[w9 p1 (by omega),q1]
   have b2:(Instr.sliceBound (.int k2 z2) hh .slice3B).run P w= .ok hh w:=by rw[w9 p2 (by omega),<-q2]
   simp only[Option.map_some,Option.map_none,e1,e2];have hA:A.map (·.add 0)=A:=by cases A<;>simp [Addr.add]
   simp [Instr.sliceAt,Instr.slice,Instr.sliceBounds,run_underlying fI,b1,b2,lI fP,hA]
  ·exact h.elim
theorem GG:∀{cs:ak4 AV}{ds:ak4 D},mr cs=some ds->ds.length=cs.length/\∀(i:Nat)(c:AV)(d:D),cs[i]?=some c->ds[i]?=some d->c.vy=some d
 |[],ds,h=>by simp [mr]at h;subst h;simp
 |c::cs,ds,h=>by
  unfold mr at h;split at h
  ·rename_i d l hd hl
   cases h
   obtain⟨J,h2⟩:=GG hl;refine⟨by simp [J],λi c' d' hc jH=> ?_⟩
   match i with
   |0=>simp at hc jH;subst hc;subst jH;exact hd
   |i+1=>exact h2 i c' d' (by simpa using hc) (by simpa using jH)
  ·cases h
theorem dz.sx{S:Nat->Nat->Prop}{w:ak9}{u:ak8}{x:D}(h:dz S w u x):dz S w u x.sx:=by
 unfold D.sx;split
 ·cases h with
  |v=>exact .sl none 0 0 0 0 [] (λ_ _=>undef) (λh=>absurd rfl h) (akr _) (Nat.zero_le _) (λ_ h=>absurd h akW) (λi j hi=>absurd hi (akI _)) (λi j x d hx=>by simp at hx)
 ·exact h
theorem aD.Hq{u:ak8}{x:AV}{d:D}(h:aD G w u x)(hx:x.vy=some d):dz G.S w u d:=by
 unfold AV.vy at hx;split at hx
 ·cases hx;cases h with|d h=>exact h.sx
 ·cases hx;cases h with|own _ _ _ h=>exact h
 ·cases hx;cases h with|full _ h=>exact h
 ·cases hx
theorem qJ(k:Nat):∀(m:Nat)(l:ak4 D),(nf k m l).length=m
 |0,_=>rfl
 |m+1,l=>by simp [nf,qJ k m]
theorem JY(k:Nat):∀(m:Nat)(l:ak4 D)(i:Nat),i<m->(nf k m l)[i]?=some ((l.drop (i*k)).take k)
 |0,_,_,h=>by omega
 |m+1,l,0,_=>by simp [nf]
 |m+1,l,i+1,h=>by
  have:=JY k m (l.drop k) i (by omega);rw[nf,akR,this,List.drop_drop,Nat.add_mul,Nat.one_mul,Nat.add_comm k]
theorem Rk{k m:Nat}{us:ak4 ak8}{ds:ak4 D}(hl:ds.length=m*k)(hu:us.length=m*k)(J:∀u∈us,u.oneCell'=true)
 (hr:∀(i:Nat)(u:ak8)(d:D),us[i]?=some u->ds[i]?=some d->dz G.S w u d):Rd G.S w k (nf k m ds) us:=by
 have hb:∀i,i<m->(i+1)*k<=m*k:=λi hi=>Nat.mul_le_mul_right k hi;refine⟨by rw[qJ,hu],λx hx=> ?_,J,λi j x d hx hd=> ?_⟩
 ·obtain⟨i,hi⟩:=List.mem_iff_getElem?.1 hx;have Gb:i<m:=by have:=(akg.1 hi).1;rwa [qJ]at this
  rw[JY k m ds i Gb]at hi;cases hi
  have:=hb i Gb;rw[Nat.add_mul]at this;simp;omega
 ·have Gb:i<m:=by have:=(akg.1 hx).1;rwa [qJ]at this
  rw[JY k m ds i Gb]at hx;cases hx
  rw[List.getElem?_take]at hd;split at hd
  ·rw[List.getElem?_drop]at hd;have:=(akg.1 hd).1;have aL:i*k+j<us.length:=by omega
   exact⟨us[i*k+j],akk aL,hr _ _ _ (akk aL) hd⟩
  ·cases hd
theorem acg{k U e':Nat}{y:AV}{v:ak8}{C:ak4 (ak4 D)->Prop}(hi:bU G w s.h)(hv:aD G w v y)(hk:0<k)(hU:P.underlying U=some (.slice e'))(h:sr s.h k y C):
 ∃ys us,Rd G.S w k ys us/\Src P k U v ys.length us w/\C ys:=by
 unfold sr at h;split at h
 ·rename_i m off len cap k'
  split at h
  ·rename_i cs hm
   split at h
   ·rename_i ds qj
    obtain⟨fD,hC⟩:=bV.1 h;simp only[aki,beq_iff_eq,dy]at fD;obtain⟨⟨rfl,hlen⟩,iU⟩:=fD;obtain⟨J,h2⟩:=GG qj;obtain⟨_,_,vs,T,hh,hl,hr⟩:=hi.dn m _ hm;cases hv with
    |row _ _ _ _ _ tX kG oH=>
     have hdl:ds.length=len*k':=by rw[J];simp;omega
     have nq:((vs.toList.drop off).take (len*k')).length=len*k':=by simp;omega
     have zS:∀(i:Nat)(u:ak8)(c:AV),((vs.toList.drop off).take (len*k'))[i]?=some u->((cs.drop off).take (len*k'))[i]?=some c->aD G w u c:=λi u c hu hc=>by
      rw[List.getElem?_take]at hu hc;split at hu
      ·rename_i mZ
       rw[if_pos mZ]at hc;rw[List.getElem?_drop]at hu hc;exact hr _ u c (by rw[<-akD];exact hu) hc
      ·cases hu
     have gg:((cs.drop off).take (len*k')).length=len*k':=by simp;omega
     have TF:∀u∈(vs.toList.drop off).take (len*k'),u.oneCell'=true:=λu hu=>by
      obtain⟨i,hi⟩:=List.mem_iff_getElem?.1 hu;have jh:i<len*k':=by rw[<-nq];exact(akg.1 hi).1
      have CV:=akk (l:=(cs.drop off).take (len*k')) (i:=i) (by rw[gg];exact jh);exact(zS i u _ hi CV).jR (akG.1 iU _ (akt CV))
     have vA:=Rk (G:=G) (w:=w) (k:=k') (m:=len) hdl nq TF (λi u d hu hd=>by
      have jh:i<len*k':=by rw[<-nq];exact(akg.1 hu).1
      have CV:=akk (l:=(cs.drop off).take (len*k')) (i:=i) (by rw[gg];exact jh);exact(zS i u _ hu CV).Hq (h2 i _ d CV hd))
     refine⟨_,_,vA,?_,hC⟩;rw[qJ];refine Src.ofSlice w hU _ len cap _ nq (λj u hu=> ?_) TF;rw[List.getElem?_take]at hu;split at hu
     ·rw[List.getElem?_drop,akD]at hu;rw[lg,cell_of_row w _ _ vs T (0,0) hh];exact hu
     ·cases hu
   ·exact h.elim
  ·exact h.elim
 ·split at h
  ·rename_i ys jo
   obtain⟨us,J,h2⟩:=(hv.list jo).src (P:=P) hk h.1 hU;exact⟨ys,us,J,h2,h.2⟩
  ·exact h.elim
theorem DS:dz G.S w (.slice none 0 0) (.sl []):=
 .sl none 0 0 0 0 [] (λ_ _=>undef) (λh=>absurd rfl h) (akr _) (by simp) (λ_ h=>by cases h) (λi j hi=>by simp at hi) (λi j x d hx=>by simp at hx)
theorem ZO(h:ak4 ao)(x y:ao):(h++[x]).set h.length y=h++[y]:=by simp
theorem abZ{T U ty e':Nat}{x y:AV}{u v:ak8}{C:AV->ak4 ao->Prop}(hi:bU G w s.h)(hu:aD G w u x)(hv:aD G w v y)(hU:P.underlying U=some (.slice e'))(h:sD P T s.h x y C):
 ∃p w' G' q h',(Builtin.append_ #[T,U] ty #[u,v]).run P w= .ok p w'/\bP G.N G w G' w'/\G.N<=G'.N/\bU G' w' h'/\aD G' w' p q/\C q h':=by
 unfold sD at h;split at h
 ·rename_i e k hT
  obtain⟨fI,fP⟩:=jB hT;split at h
  ·rename_i z de hz n8
   obtain⟨fD,h⟩:=bV.1 h;simp only[aki,beq_iff_eq,dy,akN]at fD;obtain⟨hk,jP⟩:=fD;obtain⟨i,jC,kC,GU⟩:=Ny fP n8;have VB:i.zero=some z:=by
    obtain⟨i',J,h2⟩:=EN hz;rw[jC]at J;cases J;exact h2
   obtain⟨ys,us,hr,hs,h2⟩:=acg hi hv hk hU h;clear h;have fresh:∀(xs:ak4 (ak4 D)),dz G.S w u (.sl xs)->(∃A,u= .slice A xs.length xs.length)->(∀c∈xs,c.length=k)->xs.length+ys.length<=maxLen->(xs.length+ys.length)*de<=140737488355328->
    C (.own s.h.length (xs++ys)) (s.h++[.front e k (xs.length+ys.length)])->
    ∃p w' G' q h',(Builtin.append_ #[T,U] ty #[u,v]).run P w= .ok p w'/\bP G.N G w G' w'/\G.N<=G'.N/\bU G' w' h'/\aD G' w' p q/\C q h':=by
    intro xs hp hf m5 hm hb hC;obtain⟨a1,a2,a3,a4⟩:=Pl hi hp hf e k;obtain⟨p,w',G',r1,r2,r3,r4,r5⟩:=Xw (P:=P) (ty:=ty) a3 fI jC VB kC GU jP hk (n:=s.h.length) (xs:=xs) (ys:=ys) (by simp) a4 m5 (hr.keep a1.S a1.cell) hs hm hb;rw[ZO]at r4;exact⟨p,w',G',_,_,r1,a1.trans (r2.less a2),aky a2 r3,r4,r5,hC⟩
   split at h2
   ·rename_i m xs
    split at h2
    ·rename_i e2 k2 len hm
     obtain⟨fD,rfl,m5,oH,hb,hC⟩:=bV.1 h2;simp only[aki,beq_iff_eq]at fD;obtain⟨rfl,rfl⟩:=fD;obtain⟨p,w',G',r1,r2,r3,r4,r5⟩:=Xw (P:=P) (ty:=ty) hi fI jC VB kC GU jP hk hm hu m5 hr hs oH hb;exact⟨p,w',G',_,_,r1,r2,r3,r4,r5,hC⟩
    ·exact h2.elim
   ·have:=hu.val;subst this;obtain⟨oH,hb,hC⟩:=h2;exact fresh [] DS ⟨none,rfl⟩ (λ_ h=>by cases h) (by simpa using oH) (by simpa using hb) (by simpa using hC)
   ·rename_i xs
    obtain⟨m5,oH,hb,hC⟩:=h2;cases hu with
    |full _ hp hf=>exact fresh xs hp hf m5 oH hb hC
   ·exact h2.elim
  ·exact h.elim
 ·exact h.elim
end
theorem Wa(off:Nat):∀(l:ak4 ak8)(k:Nat)(cs:Array ak8),((l.zipIdx k).foldl (λcs(p:ak8×Nat)=>cs.setIfInBounds (off+p.2) p.1) cs).size=cs.size/\
 ∀i,off+k+l.length<=cs.size->((l.zipIdx k).foldl (λcs(p:ak8×Nat)=>cs.setIfInBounds (off+p.2) p.1) cs)[i]?=if off+k<=i/\i<off+k+l.length then l[i-(off+k)]? else cs[i]?
 |[],k,cs=>⟨rfl,λi _=>by
    have h:¬(off+k<=i/\i<off+k+([]:ak4 ak8).length):=by simp
    rw[if_neg h];rfl⟩
 |u::l,k,cs=>by
  obtain⟨J,h2⟩:=Wa off l (k+1) (cs.setIfInBounds (off+k) u);simp only[List.zipIdx_cons,List.foldl_cons];refine⟨by rw[J];simp,λi hi=> ?_⟩;simp only[akj]at hi ⊢;rw[h2 i (by simp;omega)];by_cases ha:off+(k+1)<=i/\i<off+(k+1)+l.length
  ·rw[if_pos ha,if_pos ⟨by omega,by omega⟩];rw[show i-(off+k)=i-(off+(k+1))+1 by omega,akR]
  ·rw[if_neg ha];by_cases hb:i=off+k
   ·subst hb;rw[if_pos ⟨akr _,by omega⟩,Nat.sub_self,List.getElem?_cons_zero,Array.getElem?_setIfInBounds_self_of_lt (by omega)]
   ·rw[if_neg (by omega),Array.getElem?_setIfInBounds_ne (Ne.symm hb)]
section
variable {P:ak7} {G:Gh} {w:ak9}
structure Row(G:Gh)(w:World)(vs:Array Value)(cs:List AV):Prop where
 len:vs.size=cs.length
 rel:∀(i:Nat)(u:Value)(c:AV),vs[i]?=some u->cs[i]?=some c->aD G w u c
 one:∀(i:Nat)(u:Value),vs[i]?=some u->u.oneCell'=true
theorem aaS{vs us:Array ak8}{cs ys:ak4 AV}(h:Row G w vs cs)(h':Row G w us ys){off:Nat}(hb:off+ys.length<=cs.length):
 Row G w (us.zipIdx.foldl (λcs(p:ak8×Nat)=>cs.setIfInBounds (off+p.2) p.1) vs) (iz cs off ys):=by
 have e:us.zipIdx.foldl (λcs(p:ak8×Nat)=>cs.setIfInBounds (off+p.2) p.1) vs=(us.toList.zipIdx 0).foldl (λcs(p:ak8×Nat)=>cs.setIfInBounds (off+p.2) p.1) vs:=by
  rw[<-Array.foldl_toList,Array.toList_zipIdx]
 obtain⟨J,h2⟩:=Wa off us.toList 0 vs;rw[<-e]at J h2;have hl:us.toList.length=ys.length:=by rw[akN,h'.len]
 have hle:off+0+us.toList.length<=vs.size:=by rw[hl,h.len];omega
 have hs:∀i,(iz cs off ys)[i]?=if off+0<=i/\i<off+0+us.toList.length then ys[i-off]? else cs[i]?:=λi=>by
  unfold iz;rw[akx];by_cases ha:i<off
  ·rw[akq (by simp;omega),List.getElem?_take_of_lt ha,if_neg (by omega)]
  ·rw[akw (by simp;omega)];simp only[List.length_take];rw[Nat.min_eq_left (by omega)];by_cases hb:i-off<ys.length
   ·rw[akq hb,if_pos (by omega)]
   ·rw[akw (by omega),List.getElem?_drop,if_neg (by omega),show off+ys.length+(i-off-ys.length)=i by omega]
 refine⟨by rw[J,Ax _ _ _ hb,h.len],λi u c hu hc=> ?_,λi u hu=> ?_⟩
 ·rw[h2 i hle]at hu;rw[hs]at hc;split at hu
  ·rename_i hp
   rw[if_pos hp]at hc;exact h'.rel _ _ _ (by rw[<-akD];exact hu) hc
  ·rename_i hp
   rw[if_neg hp]at hc;exact h.rel _ _ _ hu hc
 ·rw[h2 i hle]at hu;split at hu
  ·exact h'.one _ _ (by rw[<-akD];exact hu)
  ·exact h.one _ _ hu
theorem aD.R0{u:ak8}{x:AV}(h:aD G w u x)(hb:x.jl=true):Row G w u.cells x.cells:=by
 obtain⟨J,h2⟩:=h.cells hb;refine⟨J,λi v c hv hc=>(h2 i v c hv hc).1,λi v hv=> ?_⟩;have aL:i<x.cells.length:=by rw[<-J];exact(akv.1 hv).1
 exact(h2 i v _ hv (akk aL)).2
theorem Jt(place:Nat->ak6 (Nat×Nat))(places:ak4 (Nat×Nat))(hp:∀i pl,places[i]?=some pl->place i=some pl):∀(ps:ak4 (Nat×AV))(qs:ak4 (Nat×ak8))(cs cD:ak4 AV)(vs:Array ak8),Row G w vs cs->
 qs.length=ps.length->(∀(i:Nat)(p:Nat×AV)(q:Nat×ak8),ps[i]?=some p->qs[i]?=some q->q.1=p.1/\aD G w q.2 p.2)->(ps.all λp=>p.2.jl)=true->o6 places cs ps=some cD->
 ∃fJ,Instr.fill place vs qs=some fJ/\Row G w fJ cD
 |[],[],cs,cD,vs,h,_,_,_,hf=>by
  simp only[o6,Option.some.injEq]at hf;subst hf;exact⟨vs,rfl,h⟩
 |[],_::_,_,_,_,_,hl,_,_,_=>by simp at hl
 |_::_,[],_,_,_,_,hl,_,_,_=>by simp at hl
 |(j,x)::ps,(j',u)::qs,cs,cD,vs,h,hl,hr,hb,hf=>by
  obtain⟨e1,e2⟩:=hr 0 (j,x) (j',u) rfl rfl;simp only at e1 e2;subst e1;simp only[ak0,aki]at hb;unfold o6 at hf;split at hf
  ·rename_i off k BE
   rw[cond_eq_ite]at hf;split at hf
   ·rename_i hc
    simp only[aki,beq_iff_eq,dy]at hc;have nO:=e2.R0 hb.1;obtain⟨fJ,J,h2⟩:=Jt place places hp ps qs _ cD _ (aaS h nO (by rw[hc.1];exact hc.2)) (by simpa using hl) (λi p q hp hq=>hr (i+1) p q (by simpa using hp) (by simpa using hq)) hb.2 hf;refine⟨fJ,?_,h2⟩;unfold Instr.fill;rw[hp _ _ BE];have h3:¬(u.cells.size≠k||decide (off+u.cells.size>vs.size))=true:=by
     rw[nO.len,hc.1,h.len];simp;exact hc.2
    simp only[h3];exact J
   ·cases hf
  ·cases hf
theorem Yk{z:Array ak8}(h:z.toList.all Value.oneCell'=true):z.all (·.oneCell')=true:=by
 rw[akG]at h;exact Array.all_eq_true_iff_forall_mem.2 λu hu=>h u (Array.mem_toList_iff.2 hu)
theorem ac0(z:ak8)(h:z.cells.all (·.oneCell')=true):Row G w z.cells (z.cells.toList.map λu=> .d (.v u)):=by
 refine⟨by simp,λi u c hu hc=> ?_,λi u hu=>Array.all_eq_true_iff_forall_mem.1 h u (Array.mem_of_getElem? hu)⟩;rw[akn,akD,hu]at hc;cases hc
 exact .d (.v u)
theorem WW:∀(fs:ak4 Field)(ps:ak4 (Nat×Nat))(w:ak9),AT P fs=some ps->(fs.mapM (m:=Sem) λf=>do pure (f.offset,<-sizeOf f.type)).run P w= .ok ps w
 |[],ps,w,h=>by simp [AT]at h;subst h;simp
 |f::fs,ps,w,h=>by
  unfold AT at h;simp only[List.mapM_cons,Option.bind_eq_bind,Option.bind_eq_some_iff,Option.map_eq_some_iff,Option.pure_def,Option.some.injEq]at h;obtain⟨p,⟨k,hk,rfl⟩,qs,hq,rfl⟩:=h;have ih:=WW fs qs w hq;simp only[List.mapM_cons,Sem.run_bind,lI hk,Sem.run_pure,Result.andThen_ok,ih]
theorem ahS{T:Nat}{ps:ak4 (Nat×AV)}{qs:Array (Nat×ak8)}{C:AV->Prop}(hl:qs.toList.length=ps.length)
 (hr:∀(i:Nat)(p:Nat×AV)(q:Nat×ak8),ps[i]?=some p->qs.toList[i]?=some q->q.1=p.1/\aD G w q.2 p.2) (h:vf P T ps C):∃u y,(Instr.build T qs).run P w= .ok u w/\aD G w u y/\C y:=by
 unfold vf at h;split at h
 ·rename_i places z IL hz
  obtain⟨fs,hT,BE⟩:∃fs,P.underlying T=some (.struct fs)/\AT P fs.toList=some places:=by
   unfold KK at IL;split at IL
   ·exact⟨_,by assumption,IL⟩
   ·cases IL
  ·split at h
   ·rename_i cs hf
    obtain⟨fD,hC⟩:=bV.1 h;simp only[aki]at fD;obtain⟨hb,iU⟩:=fD;have iU:=Yk iU;have l4:(fs.mapM (m:=Sem) λf=>do pure (f.offset,<-sizeOf f.type)).run P w= .ok places.toArray w:=by
     rw[Array.mapM_eq_mapM_toList];have:=WW fs.toList places w BE;have e:(Functor.map List.toArray (fs.toList.mapM (m:=Sem) λf=>do pure (f.offset,<-sizeOf f.type)):Sem _)=(fs.toList.mapM (m:=Sem) λf=>do pure (f.offset,<-sizeOf f.type))>>=λl=>pure l.toArray:=rfl;rw[e,Sem.run_bind,this];rfl
    obtain⟨fJ,J,h2⟩:=Jt (λi=>places.toArray[i]?) places (λi pl h=>by simpa using h) ps qs.toList _ cs z.cells (ac0 (G:=G) (w:=w) z iU) hl hr hb hf;refine⟨.agg fJ, .agg cs,?_, .agg fJ cs h2.len h2.rel,hC⟩;unfold Instr.build;simp only[Sem.run_bind,BD hz,Result.andThen_ok,run_underlying hT,l4,J,Sem.run_pure]
   ·exact h.elim
 ·exact h.elim
theorem T5{T:Nat}(h:zg P T=true):P.underlying T=some .bool:=by
 unfold zg at h;split at h
 ·assumption
 ·cases h
theorem Ir{T:Nat}{k:IntKind}(h:pn P T=some k):P.underlying T=some (.int k):=by
 unfold pn at h;split at h
 ·cases h;assumption
 ·cases h
theorem V1{t off:Nat}{vs:Array ak8}{u:ak8}(ha:lK P t=some false)(hu:vs[off]?=some u):(part t vs off).run P w= .ok u w:=by
 unfold part;rw[Sem.run_bind,A4 ha w];simp [hu]
theorem ag4{t:Nat}{u v:ak8}{x y:AV}{b:Bool}(d:Nat)(hu:aD G w u x)(hv:aD G w v y)(h:C5 P t x y=some b):(Op.equalIn (d+1) t u v).run P w= .ok b w:=by
 unfold C5 at h;split at h
 ·have e1:=hu.val;have e2:=hv.val;subst e1;subst e2
  rename_i k a k' b'
  cases hc:wj k k'&&(pn P t).isSome with
  |false=>rw[hc]at h;cases h
  |true=>
   rw[hc]at h;cases h;rw[aki,Ll]at hc;obtain⟨rfl,hc⟩:=hc;obtain⟨k2,hk⟩:=Option.isSome_iff_exists.1 hc;exact run_equalIn_int w d t k k2 a b' (Ir hk)
 ·have e1:=hu.val;have e2:=hv.val;subst e1;subst e2;cases hc:gZ P t with
  |false=>rw[hc]at h;cases h
  |true=>rw[hc]at h;cases h;rw[<-JA,<-JA];exact run_equalIn_string w d t _ _ (qQ hc)
 ·have e1:=hu.val;have e2:=hv.val;subst e1;subst e2;cases hc:zg P t with
  |false=>rw[hc]at h;cases h
  |true=>rw[hc]at h;cases h;exact run_equalIn_bool w d t _ _ (T5 hc)
 ·cases h
theorem afq{t off k:Nat}{vs:Array ak8}(ha:lK P t=some true)(hk:gj P t=some k):(part t vs off).run P w= .ok (.agg (vs.extract off (off+k))) w:=by
 unfold part;rw[Sem.run_bind,A4 ha w];simp [lI hk]
theorem XT{us:Array ak8}{xs:ak4 AV}{off k:Nat}(hx:us.size=xs.length)(hb:off+k<=xs.length)(hu:∀(i:Nat)(u:ak8)(c:AV),us[i]?=some u->xs[i]?=some c->aD G w u c):
 (us.extract off (off+k)).size=((xs.drop off).take k).length/\∀(i:Nat)(u:ak8)(c:AV),(us.extract off (off+k))[i]?=some u->((xs.drop off).take k)[i]?=some c->aD G w u c:=by
 refine⟨by simp;omega,λi u c J h2=> ?_⟩;rw[List.getElem?_take]at h2;split at h2
 ·next hi=>
  rw[List.getElem?_drop]at h2;rw[Array.getElem?_extract]at J;split at J
  ·exact hu _ _ _ J h2
  ·cases J
 ·cases h2
theorem Fu{sub:TypeId->ak4 AV->ak4 AV->ak6 Bool}(d:Nat)
 (rR:∀(T:Nat)(us vs:Array ak8)(xs ys:ak4 AV)(b:Bool),us.size=xs.length->vs.size=ys.length->(∀(i:Nat)(u:ak8)(c:AV),us[i]?=some u->xs[i]?=some c->aD G w u c)->(∀(i:Nat)(u:ak8)(c:AV),vs[i]?=some u->ys[i]?=some c->aD G w u c)->sub T xs ys=some b->(Op.equalIn (d+1) T (.agg us) (.agg vs)).run P w= .ok b w)
 {us vs:Array ak8} {xs ys:ak4 AV} (hx:us.size=xs.length) (hy:vs.size=ys.length)
 (hu:∀(i:Nat)(u:ak8)(c:AV),us[i]?=some u->xs[i]?=some c->aD G w u c) (hv:∀(i:Nat)(u:ak8)(c:AV),vs[i]?=some u->ys[i]?=some c->aD G w u c):
 ∀(fs:ak4 Field)(b:Bool),x8 P sub fs xs ys=some b->(Op.eqFields (d+1) us vs fs).run P w= .ok b w
 |[],b,h=>by cases h;simp [Op.eqFields]
 |f::fs,b,h=>by
  unfold x8 at h;cases hn:f.name== "_" with
  |true=>rw[hn]at h;cases h
  |false=>
   rw[hn]at h;simp only[cond_false]at h;have cN:f.name≠ "_" :=by simpa using hn
   split at h
   ·next e1=>
    split at h
    ·next x y e2 e3=>
     split at h
     ·next a c e4 e5=>
      cases h
      have l1:f.offset<us.size:=by rw[hx];exact(akg.1 e2).1
      have l2:f.offset<vs.size:=by rw[hy];exact(akg.1 e3).1
      have g1:=akC l1;have g2:=akC l2;simp only[Op.eqFields,if_pos cN,Sem.run_bind,V1 (w:=w) e1 g1,V1 (w:=w) e1 g2,Result.andThen_ok,ag4 d (hu _ _ _ g1 e2) (hv _ _ _ g2 e3) e4];cases a with
      |true=>simp only[Bool.not_true,Bool.false_eq_true,if_false,Bool.true_and];exact Fu d rR hx hy hu hv fs c e5
      |false=>simp
     ·cases h
    ·cases h
   ·next e1=>
    split at h
    ·next k e2=>
     cases mq:ct (f.offset+k) xs.length&&ct (f.offset+k) ys.length with
     |false=>rw[mq]at h;cases h
     |true=>
      rw[mq]at h;rw[aki,dy,dy]at mq;simp only[cond_true]at h;split at h
      ·next a c e4 e5=>
       cases h
       obtain⟨p1,p2⟩:=XT hx mq.1 hu;obtain⟨q1,q2⟩:=XT hy mq.2 hv;simp only[Op.eqFields,if_pos cN,Sem.run_bind,afq (w:=w) e1 e2,Result.andThen_ok,rR _ _ _ _ _ a p1 q1 p2 q2 e4];cases a with
       |true=>simp only[Bool.not_true,Bool.false_eq_true,if_false,Bool.true_and];exact Fu d rR hx hy hu hv fs c e5
       |false=>simp
      ·cases h
    ·cases h
   ·cases h
theorem SB:∀(n d:Nat)(T:Nat)(us vs:Array ak8)(xs ys:ak4 AV)(b:Bool),us.size=xs.length->vs.size=ys.length->(∀(i:Nat)(u:ak8)(c:AV),us[i]?=some u->xs[i]?=some c->aD G w u c)->(∀(i:Nat)(u:ak8)(c:AV),vs[i]?=some u->ys[i]?=some c->aD G w u c)->Ep P n T xs ys=some b->(Op.equalIn (d+n+1) T (.agg us) (.agg vs)).run P w= .ok b w
 |0,_,_,_,_,_,_,_,_,_,_,_,h=>by cases h
 |n+1,d,T,us,vs,xs,ys,b,hx,hy,hu,hv,h=>by
  unfold Ep at h;split at h
  ·next fs hT=>
   cases hc:P.stoodInHeld T with
   |true=>rw[hc]at h;cases h
   |false=>
    rw[hc]at h;have hf:P.fieldsOf T=fs:=by unfold Program.fieldsOf;rw[hT]
    rw[show d+(n+1)+1=(d+n+1)+1 by omega,run_equalIn_struct w (d+n+1) T us vs (by rw[hf];exact hT) hc,hf];exact Fu (d+n) (λT' NF fJ Pk NY b'=>SB n d T' NF fJ Pk NY b') hx hy hu hv _ b h
  ·cases h
theorem aja{T:Nat}{us vs:Array ak8}{xs ys:ak4 AV}{b:Bool}(hx:us.size=xs.length)(hy:vs.size=ys.length)
 (hu:∀(i:Nat)(u:ak8)(c:AV),us[i]?=some u->xs[i]?=some c->aD G w u c) (hv:∀(i:Nat)(u:ak8)(c:AV),vs[i]?=some u->ys[i]?=some c->aD G w u c) (h:Ip P T xs ys=some b):
 P.eqGuardType P.depth T=false/\(Op.equalIn 10000 T (.agg us) (.agg vs)).run P w= .ok b w:=by
 unfold Ip at h;split at h
 ·next fs hT=>
  cases hc:P.stoodInHeld T||P.eqGuardType P.depth T with
  |true=>rw[hc]at h;cases h
  |false=>
   rw[hc]at h;rw[ak3]at hc;refine⟨hc.2,?_⟩;have hf:P.fieldsOf T=fs:=by unfold Program.fieldsOf;rw[hT]
   rw[run_equalIn_struct w 9999 T us vs (by rw[hf];exact hT) hc.1,hf];exact Fu 9998 (λT' NF fJ Pk NY b'=>SB 4 9994 T' NF fJ Pk NY b') hx hy hu hv _ b h
 ·cases h
theorem Y1{op:BinOp}{x y:AV}{u v:ak8}{T:Nat}{X Y:Operand}{C:AV->Prop}(hu:aD G w u x)(hv:aD G w v y)(h:vN P T op x y C):
 ∃r z,(do eqGuard op T X Y u v;binOp op T u v:Sem ak8).run P w= .ok r w/\aD G w r z/\C z:=by
 unfold vN at h;split at h
 ·rename_i k a k' b
  have e1:=hu.val;have e2:=hv.val;subst e1;subst e2;have hg:(eqGuard op T X Y (.int k a) (.int k' b)).run P w= .ok () w:=by unfold eqGuard;cases op<;>simp
  rw[Sem.run_bind,hg];simp only[Result.andThen_ok];split at h
  ·rename_i z hq
   obtain⟨sa,hp,hC⟩:=bV.1 h;rw[Ll]at sa;subst sa;refine⟨z,_,?_, .d (.v z),hC⟩;cases op<;>simp [Oa]at hq<;>subst hq<;>simp [binOp,Op.intDiv,hp]
  ·split at h
   ·rename_i z hq
    refine⟨z,_,?_, .d (.v z),h.2⟩;have hb:¬b<0:=by omega
    cases op<;>simp [MP]at hq<;>subst hq<;>simp [binOp,Op.shift,hb]
   ·split at h
    ·rename_i z hq
     obtain⟨sa,hC⟩:=bV.1 h;rw[Ll]at sa;subst sa;refine⟨z,_,?_, .d (.v z),hC⟩;cases op<;>simp [Oz]at hq<;>subst hq<;>simp [binOp,Op.intArith,Op.intCmp,Op.intBits]
    ·exact h.elim
 ·rename_i a b
  have e1:=hu.val;have e2:=hv.val;subst e1;subst e2;have hg:(eqGuard op T X Y (.string a) (.string b)).run P w= .ok () w:=by unfold eqGuard;cases op<;>simp
  rw[Sem.run_bind,hg];simp only[Result.andThen_ok];split at h
  ·rename_i z hq
   refine⟨z,_,?_, .d (.v z),h⟩;cases op<;>simp [L4]at hq<;>subst hq<;>simp [binOp,Op.stringOp,JA]
  ·split at h
   ·refine⟨_,_,?_, .d (.v _),h.2⟩;have hm:¬(((a.size+b.size:Nat):Int)>IntKind.i64.max):=by
     have:=h.1;unfold maxLen at this;have e:IntKind.i64.max=9223372036854775807:=by decide
     rw[e];omega
    simp only[binOp,Op.stringOp];rw[if_neg hm];rfl
   ·exact h.elim
 ·rename_i a b
  have e1:=hu.val;have e2:=hv.val;subst e1;subst e2;have hg:(eqGuard op T X Y (.bool a) (.bool b)).run P w= .ok () w:=by unfold eqGuard;cases op<;>simp
  rw[Sem.run_bind,hg];simp only[Result.andThen_ok];split at h
  ·rename_i z hq
   obtain⟨hT,hC⟩:=bV.1 h;have hT:=T5 hT;refine⟨z,_,?_, .d (.v z),hC⟩;have hb:=run_equalIn_bool (P:=P) w 9999 T a b hT;cases op<;>simp [Kw]at hq<;>subst hq<;>simp [binOp,Op.equal,Op.maxDepth,hb]
  ·exact h.elim
 ·rename_i xs ys
  cases hu with
  |agg us _ hl1 DM=>
   cases hv with
   |agg vs _ Iu Bx=>
    split at h
    ·next b hb=>
     obtain⟨hg,he⟩:=aja hl1 Iu DM Bx hb;rw[Sem.run_bind,run_eqGuard_agg w op T X Y us vs hg];simp only[Result.andThen_ok];split at h
     ·next z hz=>
      refine⟨z,_,?_, .d (.v z),h⟩;cases op<;>simp [wi]at hz<;>subst hz
      ·rw[run_eql_struct,he];rfl
      ·rw[run_neq_struct,he];rfl
     ·exact h.elim
    ·exact h.elim
 ·exact h.elim
theorem aik{op:UnOp}{x:AV}{u:ak8}{C:AV->Prop}(hu:aD G w u x)(h:vD op x C):∃r z,(Op.unary op u).run P w= .ok r w/\aD G w r z/\C z:=by
 unfold vD at h;split at h
 ·rename_i v
  have e:=hu.val;subst e;split at h
  ·rename_i z hq
   refine⟨z,_,?_, .d (.v z),h⟩;unfold II at hq;split at hq
   ·cases hq;simp [Op.unary]
   ·cases hq;simp [Op.unary,Op.intArith]
   ·cases hq;simp [Op.unary,Op.intBits]
   ·cases hq
  ·exact h.elim
 ·exact h.elim
theorem ad2{T:Nat}(h:BP P T=true):P.underlying T=some (.int .u8):=by
 unfold BP at h;split at h
 ·assumption
 ·cases h
theorem ae0{a b:Nat}{x:AV}{u:ak8}{C:AV->Prop}(hu:aD G w u x)(h:vJ P a b x C):∃r z,(convert a b u).run P w= .ok r w/\aD G w r z/\C z:=by
 unfold vJ at h;split at h
 ·rename_i k2 m
  have e:=hu.val;subst e;split at h
  ·rename_i k1 k J h2
   refine⟨_,_,?_, .d (.v _),h⟩;simp [convert,run_underlying (Ir J),run_underlying (Ir h2),Conv.intToInt]
  ·exact h.elim
 ·rename_i s
  have e:=hu.val;subst e;obtain⟨fD,hC⟩:=bV.1 h;rw[aki]at fD;refine⟨_,_,?_, .d (.v _),hC⟩;simp [convert,run_underlying (qQ fD.1),run_underlying (qQ fD.2)]
 ·split at h
  ·rename_i xs e k ld hT
   obtain⟨fD,ns,rfl,hC⟩:=bV.1 h;rw[aki]at fD;refine⟨_,_,?_, .d (.v _),hC⟩;obtain⟨A,bb,o,cc,k',us,rfl,hA,kG,vY,iP,hS,lY⟩:=(hu.list ld).oY;rw[run_convert_bytes_string w a b e A _ cc (jB hT).1 (ad2 fD.1) (qQ fD.2)];simp only[akl]at hA kG hS ⊢;cases ns with
   |nil=>
    cases A with
    |none=>rfl
    |some ad=>
     have hl:=run_loadCells_list (P:=P) w ad (([]:ak4 Int).map (Value.int .u8)) (λj v hj=>by simp at hj);simp only[List.map_nil,aks]at hl;have:=run_bytesToString (P:=P) w ad 0 cc [] (by simpa using hl);exact this
   |cons n0 ns=>
    have Fk:=hA (by simp);subst Fk;have kN:k'=1:=(iP [.v (.int .u8 n0)] (by simp)).symm;subst kN;have hl:=run_loadCells_list (P:=P) w ⟨bb,o,none⟩ ((n0::ns).map (Value.int .u8)) (λj v hj=>by
     have aL:=(akg.1 hj).1;rw[akl]at aL;have J:=(hS j 0 aL (by omega)).2.1;rw[akn,akk aL]at hj;cases hj
     have h2:=lY j 0 [.v (.int .u8 ((n0::ns)[j]))] (.v (.int .u8 ((n0::ns)[j]))) (by rw[akn,akk aL];rfl) rfl;have h3:us j 0= .int .u8 ((n0::ns)[j]):=by
      generalize us j 0=q at h2;cases h2;rfl
     rw[lg];rw[h3]at J
     simpa using J)
    rw[akl]at hl;rw[run_bytesToString w _ _ cc _ hl];have key:∀(l:ak4 Int)(r:ak5),l.foldl (λr n=>r.push (UInt8.ofNat n.toNat)) r=⟨r.data++(l.map λn=>UInt8.ofNat n.toNat).toArray⟩:=by
      intro l
      induction l with
      |nil=>intro r;simp
      |cons x l ih=>intro r;rw[List.foldl_cons,ih];simp [ByteArray.push]
    rw[key];have DI:ByteArray.empty.data= #[]:=rfl;rw[DI];simp
  ·exact h.elim
theorem KV{T f off k:Nat}{g:Bool}(h:qU P T f=some (off,k,g)):∃fs fd,P.underlying T=some (.struct fs)/\fs[f]?=some fd/\gj P fd.type=some k/\0<k/\lK P fd.type=some g/\fd.offset=off:=by
 unfold qU at h;split at h
 ·rename_i fs hT
  split at h
  ·rename_i fd hf
   split at h
   ·rename_i k' g' J h2
    cases h
    exact⟨fs,fd,hT,hf,J,Nat.succ_pos _,h2,rfl⟩
   ·cases h
  ·cases h
 ·cases h
theorem LF{T f off k o b:Nat}{g:Bool}(h:qU P T f=some (off,k,g)):(Instr.fieldAt T (.pointer (some ⟨b,o,none⟩)) f).run P w= .ok (.pointer (some ⟨b,o+off,none⟩)) w:=by
 obtain⟨fs,fd,J,h2,h3,h4,h5,rfl⟩:=KV h;simp [Instr.fieldAt,run_underlying J,h2,Instr.sureAddr,fieldPlace,lI h3,Nat.ne_of_gt h4,lg]
theorem ahi{T f:Nat}{x:AV}{u:ak8}{C:AV->Prop}(hu:aD G w u x)(h:uu P T x f C):∃r z,(Instr.field T u f).run P w= .ok r w/\aD G w r z/\C z:=by
 unfold uu at h;split at h
 ·rename_i off k cs hT
  obtain⟨hl,hC⟩:=bV.1 h;rw[dy]at hl;obtain⟨fs,fd,J,h2,h3,h4,h5,rfl⟩:=KV hT;cases hu with
  |agg vs _ hlen hr=>
   refine⟨.agg (vs.extract fd.offset (fd.offset+k)),_,?_, .agg _ _ ?_ λi u c hu hc=> ?_,hC⟩
   ·simp [Instr.field,run_underlying J,h2,asAgg,part,A4 h5,lI h3]
   ·simp;omega
   ·rw[Array.getElem?_extract]at hu;rw[List.getElem?_take]at hc;split at hc
    ·rw[List.getElem?_drop]at hc;split at hu
     ·exact hr _ u c hu hc
     ·cases hu
    ·cases hc
 ·rename_i off k cs hT
  obtain⟨fs,fd,J,h2,h3,h4,h5,rfl⟩:=KV hT;split at h
  ·rename_i c hc
   cases hu with
   |agg vs _ hlen hr=>
    have aL:fd.offset<vs.size:=by rw[hlen];exact(akg.1 hc).1
    refine⟨vs[fd.offset],c,?_,hr _ _ c (akC aL) hc,h⟩;simp [Instr.field,run_underlying J,h2,asAgg,part,A4 h5,akC aL]
  ·exact h.elim
 ·exact h.elim
end
def Gh.oK(G:Gh)(b m:Nat):Gh:={G with S:=λc o=>G.S c o\/(c=b/\o<m)}
theorem WI{G:Gh}{w:ak9}{h:ak4 ao}(hi:bU G w h)(ob:Obj)(m:Nat):bP G.N G w (G.oK w.heap.size m) (w.alloc ob)/\bU (G.oK w.heap.size m) (w.alloc ob) h:=by
 have hE:bP G.N G w (G.oK w.heap.size m) (w.alloc ob):=
  ⟨by simp,λ_ _ h=> .inl h,λb _ h=>World.cell?_alloc_lt _ _ _ (hi.S _ _ h),λ_ _=>rfl,λ_ _=> .inl ⟨rfl,rfl⟩,gQ rfl,λb hb=>Below.heap_alloc w ob b (hi.z b hb),rfl,rfl,rfl,λb o hs=>hs.imp id fun⟨e,_⟩ hz=>akU _ (hi.z _ (e▸hz))⟩
 refine⟨hE,hi.len,λb hb=>akE (hi.z b hb) hE.size,λb o hs=> ?_,λn B hB=> ?_,λm n b J h2=>hi.inj m n b J h2,hi.gl.keep hE⟩
 ·rcases hs with hs|⟨rfl,_⟩
  ·exact akE (hi.S b o hs) hE.size
  ·simp
 ·refine er.keep (hi.lt hB) hE (akr _) ⟨rfl,rfl,rfl⟩ (λb hb=> ?_) (hi.dn n B hB);have aL:=hi.gW (n:=n) (b:=b) ((dM hB).trans hb);refine⟨Below.heap_alloc w _ _ aL,λo jy hs=> ?_⟩;rcases hs with hs|⟨e,_⟩
  ·exact jy hs
  ·omega
theorem TA(k:Nat):∀(n o i:Nat)(pl:Nat×Nat),(rT k o n)[i]?=some pl->pl=(o+i*k,k)
 |0,_,_,_,h=>by simp [rT]at h
 |n+1,o,0,pl,h=>by simp [rT]at h;rw[<-h];simp
 |n+1,o,i+1,pl,h=>by
  have:=TA k n (o+k) i pl (by simpa [rT]using h);rw[this,Nat.add_mul];simp;omega
theorem Tx(l:ak4 AV):∀n,(qY n l).length=n*l.length
 |0=>by simp [qY]
 |n+1=>by rw[qY,akh,Tx l n,Nat.add_mul];omega
theorem Xc(l:ak4 AV):∀(n i:Nat),i<n*l.length->(qY n l)[i]?=l[i%l.length]?
 |0,i,h=>by omega
 |n+1,i,h=>by
  rw[qY];by_cases hi:i<l.length
  ·rw[akq hi,Nat.mod_eq_of_lt hi]
  ·rw[akw (by omega),Xc l n _ (by rw[Nat.add_mul]at h;omega),<-Nat.mod_eq_sub_mod (by omega)]
theorem ajx(z:ak8){k:Nat}(hz:z.cells.size=k)(n:Nat):qY n (z.cells.toList.map λu=> .d (.v u))=(List.range (n*k)).map λi=> .d (.v (z.cells[i%z.cells.size]!)):=by
 have hl:(z.cells.toList.map λu=>AV.d (.v u)).length=k:=by simp [hz]
 refine List.ext_getElem? λi=> ?_;by_cases hi:i<n*k
 ·rw[Xc _ _ _ (by rw[hl];exact hi),akn,akn,List.getElem?_range hi,hl,hz,akD];have hk:0<k:=Nat.pos_of_ne_zero λe=>by subst e;simp at hi
  have aL:i%k<z.cells.size:=by rw[hz];exact Nat.mod_lt _ hk
  rw[akC aL];simp only[Option.map_some];rw[getElem!_pos z.cells (i%k) aL]
 ·rw[akM (by rw[Tx,hl];omega),akM (by simp;omega)]
theorem Xv:∀{ps:ak4 (Nat×AV)}{places:ak4 (Nat×Nat)}{cs cD:ak4 AV},o6 places cs ps=some cD->cD.length=cs.length
 |[],_,_,_,h=>by simp only[o6,Option.some.injEq]at h;rw[h]
 |(i,x)::ps,places,cs,cD,h=>by
  unfold o6 at h;split at h
  ·rw[cond_eq_ite]at h;split at h
   ·rename_i hc
    simp only[aki,beq_iff_eq,dy]at hc;rw[Xv h,Ax _ _ _ (by rw[hc.1];exact hc.2)]
   ·cases h
  ·cases h
section
variable {P:ak7} {r:ak6 Nat} {n N0:Nat} {G:Gh} {w:ak9} {a:Act} {s:St} {o:Oper} {K:St->Prop} {Q:Exit->Act->ak9->Prop}
theorem adz{T len:Nat}{h:ak4 ao}{ps:ak4 (Nat×AV)}{qs:Array (Nat×ak8)}{C:AV->Prop}(hi:bU G w h)(hl:qs.toList.length=ps.length)
 (hr:∀(i:Nat)(p:Nat×AV)(q:Nat×ak8),ps[i]?=some p->qs.toList[i]?=some q->q.1=p.1/\aD G w q.2 p.2) (hC:uL P T len ps C):
 ∃u w' G' y,(Instr.buildSlice T len qs).run P w= .ok u w'/\bP G.N G w G' w'/\G.N<=G'.N/\bU G' w' h/\aD G' w' u y/\C y:=by
 unfold uL at hC;split at hC
 ·rename_i e k hT
  obtain⟨fI,fP⟩:=jB hT;split at hC
  ·rename_i z hz
   split at hC
   ·rename_i cs hf
    split at hC
    ·rename_i ds qj
     obtain⟨fD,hC⟩:=bV.1 hC;simp only[aki,beq_iff_eq,dy,akN]at fD;obtain⟨⟨⟨⟨hk,hsm⟩,jP⟩,iU⟩,hb⟩:=fD;have iU:=Yk iU;rw[ajx z jP]at hf;have BE:=TA k;obtain⟨z0,wa⟩:∃z0:Array ak8,z0=if len*k=0 then #[]else z.cells:=⟨_,rfl⟩
     obtain⟨zr,AL⟩:∃zr:Array ak8,zr=(Array.range (len*k)).map (z0[·%z0.size]!):=⟨_,rfl⟩;have nO:Row G w zr ((List.range (len*k)).map λi=> .d (.v (z.cells[i%z.cells.size]!))):=by
      have DO:∀i,i<len*k->z0[i%z0.size]! =z.cells[i%z.cells.size]! :=λi hi=>by rw[wa,if_neg (by omega)]
      refine⟨by rw[AL];simp,λi u c hu hc=> ?_,λi u hu=> ?_⟩
      ·rw[AL,Array.getElem?_map]at hu;rw[akn]at hc;by_cases hi:i<len*k
       ·rw[List.getElem?_range hi]at hc;rw[Array.getElem?_range,if_pos hi]at hu;simp only[Option.map_some,Option.some.injEq]at hu hc;subst hu;subst hc;rw[DO i hi];exact .d (.v _)
       ·rw[akM (by simp;omega)]at hc;cases hc
      ·rw[AL,Array.getElem?_map]at hu;by_cases hi:i<len*k
       ·rw[Array.getElem?_range,if_pos hi]at hu;simp only[Option.map_some,Option.some.injEq]at hu;subst hu;rw[DO i hi];have aL:i%z.cells.size<z.cells.size:=Nat.mod_lt _ (by omega);rw[getElem!_pos z.cells _ aL];exact Array.all_eq_true_iff_forall_mem.1 iU _ (Array.getElem_mem _)
       ·rw[Array.getElem?_eq_none (by simp;omega)]at hu;cases hu
     obtain⟨fJ,J,h2⟩:=Jt (λi=>some (i*k,k)) (rT k 0 len) (λi pl h=>by
      have:=BE len 0 i pl h;rw[this];simp) ps qs.toList _ cs zr nO hl hr hb hf
     obtain⟨d1,d2⟩:=GG qj;have gg:cs.length=len*k:=by
      have:=Xv hf;rw[this];simp
     have uf:fJ.size=len*k:=by rw[h2.len,gg]
     obtain⟨i1,i2⟩:=WI hi (.cells fJ e) (len*k);have vA:Rd G.S w k (nf k len ds) fJ.toList:=Rk (by rw[d1,gg]) (by rw[akN,uf]) (λu hu=>by
      obtain⟨j,hj⟩:=List.mem_iff_getElem?.1 hu;exact h2.one j u (by rw[<-akD];exact hj)) (λi u d hu hd=>by
      have aL:i<cs.length:=by rw[<-d1];exact(akg.1 hd).1
      exact(h2.rel i u _ (by rw[<-akD];exact hu) (akk aL)).Hq (d2 i _ d (akk aL) hd))
     have hp:dz (G.oK w.heap.size (len*k)).S (w.alloc (.cells fJ e)) (.slice (some ⟨w.heap.size,0,none⟩) len len) (.sl (nf k len ds)):=by
      have:=(vA.keep i1.S i1.cell).Cm w.heap.size len (by rw[qJ];exact akr _) (by have:=Nat.le_mul_of_pos_right len hk;simp only[maxLen];omega) (λo ho=> .inr ⟨rfl,by rw[qJ]at ho;exact ho⟩) (λo u hu=>by
       rw[World.cell?_alloc_new];rw[<-akD];exact hu)
      rwa [qJ]at this
     refine⟨_,_,_,_,?_,i1,akr _,i2, .full _ hp ⟨some ⟨w.heap.size,0,none⟩,by rw[qJ]⟩,hC⟩;have jy:¬(len*k>2^24):=by omega
     unfold Instr.buildSlice;simp only[Sem.run_bind,run_underlying fI,Result.andThen_ok,lI fP,jy,if_false];by_cases h0:len*k=0
     ·rw[if_pos h0]at wa;subst wa;subst AL;simp [h0]at J;simp [h0,J,newRow]
     ·rw[if_neg h0]at wa;subst wa;subst AL;simp [h0,BD hz,J,newRow]
    ·exact hC.elim
   ·exact hC.elim
  ·exact hC.elim
 ·exact hC.elim
end
section
variable {P:ak7} {G:Gh} {w:ak9} {h:ak4 ao}
theorem wO(k s:ak5)(d:D)(l:ak4 (ak5×D)):kE ((k,d)::l) s=if k=s then some d else kE l s:=by
 have e1:kE ((k,d)::l) s=bif bL k==bL s then some d else kE l s:=rfl;rw[e1];by_cases e:k=s
 ·subst e;rw[if_pos rfl];simp
 ·rw[if_neg e];have:(bL k==bL s)=false:=by rw[beq_eq_false_iff_ne];exact λhe=>e (Sn he)
  rw[this];rfl
theorem C1{T k e:TypeId}(h:tc P T=some (k,e)):P.underlying T=some (.map k e):=by
 unfold tc at h;split at h
 ·next k' e' hT=>cases h;exact hT
 ·cases h
theorem ae7(hi:bU G w h):bP G.N G w (G.dg w.heap.size) (w.alloc (.map #[] 0))/\bU (G.dg w.heap.size) (w.alloc (.map #[] 0)) (h++[.map []])/\aD (G.dg w.heap.size) (w.alloc (.map #[] 0)) (.map (some w.heap.size)) (.mp h.length):=by
 have hE:=rB G w hi.z hi.S (.map #[] 0);have hN:G.N<=(G.dg w.heap.size).N:=Nat.le_succ _;have gi:(G.dg w.heap.size).aM h.length=w.heap.size:=by simp [Gh.dg,hi.len]
 have kQ:∀n(B:ao),n<G.N->B.dZ (G.dg w.heap.size) n=B.dZ G n:=λn B hn=>by
  cases B<;>simp [ao.dZ,Gh.dg,Nat.ne_of_lt hn]
 have fk:∀n,n<G.N->bR (h++[.map []]) (G.dg w.heap.size) n=bR h G n:=λn hn=>by
  have aL:n<h.length:=by rw[hi.len];exact hn
  unfold bR;rw[akq aL,akk aL];exact kQ n _ hn
 have qV:bR (h++[.map []]) (G.dg w.heap.size) h.length=some w.heap.size:=by
  rw[dM (B:= .map []) (by simp)];exact congrArg some gi
 refine⟨hE,⟨by simp [Gh.dg,hi.len],λb hb=>akE (hi.z b hb) hE.size,λb o hs=>akE (hi.S b o hs) hE.size,λn B hB=> ?_,λm n b hm hn=> ?_,hi.gl.keep hE⟩,?_⟩
 ·by_cases hn:n<h.length
  ·rw[akq hn]at hB;have eZ:n<G.N:=hi.len▸hn;exact er.keep eZ hE hN ⟨rfl,rfl,rfl⟩ (λb hb=>⟨Below.heap_alloc w _ _ (hi.gW (n:=n) ((dM hB).trans hb)),λo h=>h⟩) (hi.dn n B hB)
  ·have jY:n=h.length:=by
    have:=(akg.1 hB).1;simp at this;omega
   subst jY;simp at hB;subst hB;exact⟨by rw[gi];exact λhz=>akU _ (hi.z _ hz),λo hs=>by rw[gi]at hs;exact akU _ (hi.S _ _ hs), #[],0,by rw[gi];exact World.alloc_heap_new w _,
    ⟨by simp,MapKept.stamped_empty 0,λe he=>(by simp at he),λs d hs=>(by cases hs),by simp,λi e he=>(by simp at he),rfl⟩⟩
 ·have key:∀n b,bR (h++[.map []]) (G.dg w.heap.size) n=some b->(n<G.N/\bR h G n=some b)\/(n=h.length/\b=w.heap.size):=λn b hn=>by
   by_cases aL:n<G.N
   ·exact .inl ⟨aL,by rw[<-fk n aL];exact hn⟩
   ·by_cases e:n=h.length
    ·subst e;rw[qV]at hn;cases hn;exact .inr ⟨rfl,rfl⟩
    ·rw[sB (akM (by simp;have:=hi.len;omega))]at hn;cases hn
  rcases key m b hm with⟨_,h1⟩|⟨rfl,rfl⟩<;>rcases key n _ hn with⟨_,eZ⟩|⟨rfl,hb⟩
  ·exact hi.inj m n b h1 eZ
  ·have:=hi.gW h1;omega
  ·have:=hi.gW eZ;omega
  ·rfl
 ·have:=aD.mp (G:=G.dg w.heap.size) (w:=w.alloc (.map #[] 0)) h.length (by simp [Gh.dg,hi.len])
  rwa [gi]at this
theorem aaQ{v:ak8}{d:D}(h:dz G.S w v d):aD G w v (DU d):=by
 cases d with
 |v x=>exact .d h
 |sl xs=>exact .d h
 |ag ds=>
  cases h with
  |ag vs _ hl h=>
   refine .agg vs _ (by rw[akl];exact hl) λi u c hu hc=> ?_;rw[akn]at hc;obtain⟨d,hd,rfl⟩:=Option.map_eq_some_iff.1 hc;exact .d (h i u d hu hd)
theorem ahm(z:ak8):aD G w z (xX z):=by
 unfold xX;split
 ·next vs=>
  refine .agg vs _ (by rw[akl];exact akN.symm) λi u c hu hc=> ?_;rw[akn,akD,hu]at hc;cases hc
  exact .d (dz.v u).sx
 ·exact .d (.v _)
theorem aD.toM{u:ak8}{x:AV}{d:D}(h:aD G w u x)(hx:x.Nv=some d):dz G.S w u d:=by
 unfold AV.Nv at hx;split at hx
 ·next cs=>
  obtain⟨ds,qj,rfl⟩:=Option.map_eq_some_iff.1 hx;obtain⟨J,h2⟩:=GG qj;cases h with
  |agg vs _ hl hc=>
   refine .ag vs ds (hl.trans J.symm) λi v e hv he=> ?_;have hi:i<cs.length:=by rw[<-J];exact(akg.1 he).1
   exact(hc i v _ hv (akk hi)).Hq (h2 i _ e (akk hi) he)
 ·exact h.Hq hx
theorem rO{s:ak5}:MapKept.IsKey .string (.string s):=trivial
theorem agM{T k e:TypeId}{z:ak8}{n:Nat}{kv:ak4 (ak5×D)}{s:ak5}{ok:Bool}(hi:bU G w h)(hT:tc P T=some (k,e))(hz:iw P e=some z)(hk:gZ P k=true)(hn:h[n]?=some (.map kv)):
 ∃v,(Instr.lookup T (.map (some (G.aM n))) (.string s) ok).run P w= .ok v w/\aD G w v (pN ok z (kE kv s)):=by
 obtain⟨_,_,es,clock,hh,hm⟩:=hi.dn n _ hn;have nF:∀x∈es.toList,MapKept.IsKey .string x.key:=λx hx=>by
  obtain⟨s',d,J,_⟩:=hm.yk x hx;rw[J];exact rO
 have rI:=qQ hk;have one:∀(v:ak8)(d:AV)(b:Bool),aD G w v d->aD G w (if ok then .tuple #[v, .bool b]else v) (bif ok then .aW [d, .d (.v (.bool b))]else d):=λv d b hp=>by
  cases ok with
  |false=>exact hp
  |true=>
   refine .aW #[v, .bool b] _ rfl λi u c hu hc=> ?_
   match i with
   |0=>simp at hu hc;subst hu;subst hc;exact hp
   |1=>simp at hu hc;subst hu;subst hc;exact .d (.v _)
   |i+2=>simp at hu
 rcases MapKept.findNow_spec (rO (s:=s)) es.toList 0 nF with⟨J,h2⟩|⟨j,e0,J,h2,h3⟩
 ·have acw:kE kv s=none:=by
   cases hq:kE kv s with
   |none=>rfl
   |some d=>
    obtain⟨x,hx,m5⟩:=hm.all s d hq;exact absurd m5 (h2 x hx)
  refine⟨if ok then .tuple #[z, .bool false]else z,?_,?_⟩
  ·simp [Instr.lookup,run_underlying (C1 hT),MapKept.run_getObj_map hh,MapKept.run_checkKey rI rO,MapKept.run_findKey rI J,BD hz,Result.andThen]
  ·rw[acw];have:=one z _ false (ahm z);unfold pN;exact this
 ·have jO:e0∈es.toList:=akt h2;obtain⟨s',d,k1,k2,k3⟩:=hm.yk e0 jO;rw[h3]at k1;cases k1
  refine⟨if ok then .tuple #[e0.val, .bool true]else e0.val,?_,?_⟩
  ·simp [Instr.lookup,run_underlying (C1 hT),MapKept.run_getObj_map hh,MapKept.run_checkKey rI rO,MapKept.run_findKey rI J,Result.andThen]
  ·rw[k2];have:=one e0.val _ true (aaQ k3);unfold pN;exact this
theorem aen{T k e:TypeId}{n:Nat}{kv:ak4 (ak5×D)}{s:ak5}{v:ak8}{d:D}(hi:bU G w h)(hT:tc P T=some (k,e))(hk:gZ P k=true)(hn:h[n]?=some (.map kv))(hv:dz G.S w v d)(hlen:kv.length<maxLen):
 ∃w',(Instr.mapUpdate T (.map (some (G.aM n))) (.string s) v).run P w= .ok () w'/\bP G.N G w G w'/\bU G w' (h.set n (.map ((s,d)::kv))):=by
 obtain⟨hZ,hS,es,clock,hh,hm⟩:=hi.dn n _ hn;have nF:∀x∈es.toList,MapKept.IsKey .string x.key:=λx hx=>by
  obtain⟨s',d,J,_⟩:=hm.yk x hx;rw[J];exact rO
 have rI:=qQ hk;have fin:∀(vK:Array MapEntry)(AY:Nat)(w':ak9),w'=ChangeMaps.setBlock w (G.aM n) (.map vK AY)->se G.S w vK AY ((s,d)::kv)->bP G.N G w G w'/\bU G w' (h.set n (.map ((s,d)::kv))):=by
  intro vK AY w' e9 h1;have iH:∀b,b≠G.aM n->w'.heap[b]?=w.heap[b]?:=λb hb=>by rw[e9];exact ChangeMaps.heap_setBlock_other hh _ hb
  have No:w'.heap[G.aM n]?=some (.map vK AY):=by rw[e9];exact ChangeMaps.heap_setBlock_same hh _
  have ic:w'.heap.size=w.heap.size:=by rw[e9];simp [ChangeMaps.setBlock]
  have hJ:∀b o,G.S b o->w'.cell? ⟨b,o,none⟩=w.cell? ⟨b,o,none⟩:=λb o hs=>World.cell?_of_block (iH b (λe=>hS o (e▸hs)));have hE:bP G.N G w G w':=⟨by rw[ic];exact akr _,λ_ _ h=>h,hJ,λ_ _=>rfl,λ_ _=> .inl ⟨rfl,rfl⟩,gQ rfl,λb hb=>iH b (λe=>hZ (e▸hb)),by rw[e9];rfl,by rw[e9];rfl,by rw[e9];rfl,λ_ _ h=> .inl h⟩;refine⟨hE,?_⟩;have lr:bR h G n=some (G.aM n):=dM hn;have lT:(h.set n (.map ((s,d)::kv)))[n]?=some (.map ((s,d)::kv)):=by rw[akJ (akg.1 hn).1]
  have fz:∀m,m≠n->(h.set n (.map ((s,d)::kv)))[m]?=h[m]?:=λm hm=>by rw[akO (Ne.symm hm)]
  have eF:∀m,bR (h.set n (.map ((s,d)::kv))) G m=bR h G m:=λm=>by
   by_cases e:m=n
   ·subst e;rw[dM lT,dM hn];rfl
   ·unfold bR;rw[fz m e]
  refine⟨by rw[List.length_set];exact hi.len,λb hb=>akE (hi.z b hb) hE.size,λb o hs=>akE (hi.S b o hs) hE.size,λm B hB=> ?_,λm m' b J h2=>hi.inj m m' b (by rw[<-eF];exact J) (by rw[<-eF];exact h2),hi.gl.keep hE⟩;by_cases e:m=n
  ·subst e;rw[lT]at hB;cases hB
   exact⟨hZ,hS,vK,AY,No,h1.keep (λ_ _ h=>h) hJ⟩
  ·rw[fz m e]at hB;have cN:∀b,bR h G m=some b->b≠G.aM n:=λb hb eb=>e (hi.inj m n b hb (by rw[eb];exact lr));exact er.keep (hi.lt hB) hE (akr _) ⟨rfl,rfl,rfl⟩ (λb hb=>⟨iH b (cN _ ((dM hB).trans hb)),λo h=>h⟩) (hi.dn m B hB)
 rcases MapKept.findNow_spec (rO (s:=s)) es.toList 0 nF with⟨J,h2⟩|⟨j,e0,J,h2,h3⟩
 ·have h1:se G.S w (es.push ⟨.string s,v,clock⟩) (clock+1) ((s,d)::kv):=by
   refine⟨by have:=hm.len;simp;omega,MapKept.stamped_push hm.stamped h2,λx hx=> ?_,λs' d' cM=> ?_,by have:=hm.len;simp;omega,λi e he=> ?_,by rw[hm.AS];simp⟩
   ·simp only[Array.toList_push,akS,List.mem_singleton]at hx;rcases hx with hx|rfl
    ·obtain⟨s',d',k1,k2,k3⟩:=hm.yk x hx;refine⟨s',d',k1,?_,k3⟩;rw[wO,if_neg (λe=>h2 x hx (by rw[k1,e]))];exact k2
    ·exact⟨s,d,rfl,by rw[wO,if_pos rfl],hv⟩
   ·rw[wO]at cM;simp only[Array.toList_push,akS,List.mem_singleton];split at cM
    ·next e=>subst e;exact⟨_, .inr rfl,rfl⟩
    ·obtain⟨x,hx,hk⟩:=hm.all s' d' cM;exact⟨x, .inl hx,hk⟩
   ·rw[Array.getElem?_push]at he;split at he
    ·next ei=>cases he;rw[ei];exact hm.AS
    ·exact hm.born i e he
  obtain⟨f1,f2⟩:=fin _ _ _ rfl h1;refine⟨_,?_,f1,f2⟩;simp [Instr.mapUpdate,run_underlying (C1 hT),MapKept.run_getObj_map hh,MapKept.run_checkKey rI rO,MapKept.run_findKey rI J,MapKept.run_setObj_map _ hh,Result.andThen,ChangeMaps.setBlock]
 ·have hj:es[j]?=some e0:=by simpa using h2
  have zi:j<es.toList.length:=(akg.1 h2).1;have ahE:∀e',es[j]?=some e'->({e' with key:= .string s,val:=v}:MapEntry).key=e'.key:=λe' qD=>by rw[hj]at qD;cases qD;exact h3.symm
  have FQ:(es.modify j (λe'=>{e' with key:= .string s,val:=v})).toList=es.toList.set j {e0 with key:= .string s,val:=v}:=by
   rw[Array.toList_modify];exact ChangeMaps.modify_eq_set _ _ _ _ h2
  have jz:(es.toList.map (·.key)).Nodup:=hm.stamped.2.2;have h1:se G.S w (es.modify j (λe'=>{e' with key:= .string s,val:=v})) clock ((s,d)::kv):=by
   refine⟨by simpa using hm.size,MapKept.stamped_modify hm.stamped _ _ (λ_ _=>rfl) (λe' _ qD=>ahE e' qD),λx hx=> ?_,λs' d' cM=> ?_,by have:=hm.len;simp;omega,λi e he=> ?_,by rw[hm.AS];simp⟩
   ·rw[FQ]at hx;obtain⟨i,dY,ex⟩:=List.getElem_of_mem hx;rw[List.getElem_set]at ex;split at ex
    ·rw[<-ex];exact⟨s,d,rfl,by rw[wO,if_pos rfl],hv⟩
    ·next cN=>
     have kC:i<es.toList.length:=by simpa using dY
     have nG:x∈es.toList:=by rw[<-ex];exact List.getElem_mem kC
     obtain⟨s',d',k1,k2,k3⟩:=hm.yk x nG;refine⟨s',d',k1,?_,k3⟩;rw[wO,if_neg ?_]
     ·exact k2
     ·intro vK;have a1:(es.toList.map (·.key))[i]?=some (.string s):=by rw[akn,akk kC,ex];simp [k1,vK]
      have a2:(es.toList.map (·.key))[j]?=some (.string s):=by rw[akn,h2];simp [h3]
      have YO:i<(es.toList.map (·.key)).length:=by simpa using kC
      exact cN ((List.getElem?_inj YO jz).1 (a1.trans a2.symm)).symm
   ·rw[FQ];rw[wO]at cM;split at cM
    ·next e=>subst e;exact⟨_,List.mem_iff_getElem?.2 ⟨j,akJ zi⟩,rfl⟩
    ·next cN=>
     obtain⟨x,hx,hk⟩:=hm.all s' d' cM;obtain⟨i,dY,ex⟩:=List.getElem_of_mem hx;refine⟨x,List.mem_iff_getElem.2 ⟨i,by simpa using dY,?_⟩,hk⟩;rw[List.getElem_set];split
     ·next e=>
      subst e;exfalso;have:es.toList[j]?=some x:=by rw[akk dY,ex]
      rw[this]at h2;cases h2
      rw[h3]at hk;injection hk with hk;exact cN hk
     ·exact ex
   ·rw[Array.getElem?_modify]at he;split at he
    ·next ei=>
     subst ei;rw[hj]at he;cases he
     exact hm.born _ e0 hj
    ·exact hm.born i e he
  obtain⟨f1,f2⟩:=fin _ _ _ rfl h1;refine⟨_,?_,f1,f2⟩;simp [Instr.mapUpdate,run_underlying (C1 hT),MapKept.run_getObj_map hh,MapKept.run_checkKey rI rO,MapKept.run_findKey rI J,hj,h3,MapKept.run_keyThatStays rO,MapKept.run_setObj_map _ hh,Result.andThen,ChangeMaps.setBlock]
end
set_option linter.unusedVariables false
set_option linter.unusedSimpArgs false
section
variable {P:ak7} {G:Gh} {w:ak9} {h:ak4 ao}
theorem Ha{w':ak9}(hi:bU G w h){n:Nat}{B B':ao}(hn:h[n]?=some B)(tI:∀G':Gh,B.dZ G' n=G'.ow n)(JR:∀G':Gh,B'.dZ G' n=G'.ow n)(S:Nat->Nat->Prop)(v:ak8)(len:Nat)(ow:ak6 Nat)
 (hE:bP G.N G w (G.grow n S v len ow) w') (hg:∀g,ow=some g->(g=w.heap.size\/G.ow n=some g)/\g<w'.heap.size)
 (hS:∀b o,S b o->G.S b o\/ow=some b) (iH:∀b,b<w.heap.size->ow≠some b->w'.heap[b]?=w.heap[b]?)
 (hB:er (G.grow n S v len ow) w' n B'):bU (G.grow n S v len ow) w' (h.set n B'):=by
 have fz:∀m,m≠n->(h.set n B')[m]?=h[m]?:=λm hm=>by rw[akO (Ne.symm hm)]
 have lT:(h.set n B')[n]?=some B':=by rw[akJ (akg.1 hn).1]
 have kQ:∀m(C:ao),m≠n->C.dZ (G.grow n S v len ow) m=C.dZ G m:=λm C hm=>by
  cases C<;>simp [ao.dZ,Gh.grow,hm]
 have eF:∀m,m≠n->bR (h.set n B') (G.grow n S v len ow) m=bR h G m:=λm hm=>by
  unfold bR;rw[fz m hm];cases h[m]? with
  |none=>rfl
  |some C=>exact kQ m C hm
 have BR:bR (h.set n B') (G.grow n S v len ow) n=ow:=by rw[dM lT,JR];simp [Gh.grow]
 have uP:∀m b,m≠n->ow=some b->bR h G m≠some b:=λm b hm ho hb=>by
  rcases (hg b ho).1 with hg|hg
  ·have:=hi.gW hb;omega
  ·exact hm (hi.inj m n b hb ((dM hn).trans ((tI G).trans hg)))
 refine⟨by rw[List.length_set];exact hi.len,λb hb=>akE (hi.z b hb) hE.size,λb o hs=> ?_,λm C hm=> ?_,λm m' b J h2=> ?_,hi.gl.keep hE⟩
 ·rcases hS b o hs with hs|hs
  ·exact akE (hi.S b o hs) hE.size
  ·exact(hg b hs).2
 ·by_cases em:m=n
  ·subst em;rw[lT]at hm;cases hm;exact hB
  ·rw[fz m em]at hm;refine er.keep (hi.lt hm) hE (akr _) ⟨by simp [Gh.grow,em],by simp [Gh.grow,em],by simp [Gh.grow,em]⟩ (λb hb=> ?_) (hi.dn m C hm);have hr:bR h G m=some b:=(dM hm).trans hb;have cN:ow≠some b:=λe'=>uP m b em e' hr;refine⟨iH _ (hi.gW hr) cN,λo jy hs=> ?_⟩;rcases hS _ o hs with hs|hs
   ·exact jy hs
   ·exact cN hs
 ·by_cases e1:m=n<;>by_cases e2:m'=n
  ·rw[e1,e2]
  ·subst e1;rw[eF m' e2]at h2;rw[BR]at J;exact absurd h2 (uP m' b e2 J)
  ·subst e2;rw[eF m e1]at J;rw[BR]at h2;exact absurd J (uP m b e1 h2)
  ·rw[eF m e1]at J;rw[eF m' e2]at h2;exact hi.inj m m' b J h2
def Gh.fb(G:Gh)(v:ak8)(len:Nat)(ow:ak6 Nat):Gh:=
 {G with N:=G.N+1,sg:=λn=>if n=G.N then v else G.sg n,fl:=λn=>if n=G.N then len else G.fl n,ow:=λn=>if n=G.N then ow else G.ow n}
theorem Pf{w':ak9}(hi:bU G w h)(B:ao)(tI:∀(G':Gh) n,B.dZ G' n=G'.ow n)(v:ak8)(len:Nat)(ow:ak6 Nat)(hw:(∀b,b<w.heap.size->w'.heap[b]?=w.heap[b]?)/\w.heap.size<=w'.heap.size/\w'.os=w.os/\w'.tape=w.tape/\w'.output=w.output)
 (how:∀g,ow=some g->w.heap.size<=g)
 (hB:er (G.fb v len ow) w' G.N B):bP G.N G w (G.fb v len ow) w'/\bU (G.fb v len ow) w' (h++[B]):=by
 have cN:∀n,n<G.N->n≠G.N:=λn hn=>Nat.ne_of_lt hn;have hE:bP G.N G w (G.fb v len ow) w':=⟨hw.2.1,λ_ _ h=>h,λb o hs=>World.cell?_of_block (hw.1 b (hi.S b o hs)),λ_ _=>rfl,λn hn=> .inl ⟨by simp [Gh.fb,cN n hn],by simp [Gh.fb,cN n hn]⟩,gQ rfl,λb hb=>hw.1 b (hi.z b hb),hw.2.2.1,hw.2.2.2.1,hw.2.2.2.2,λ_ _ h=> .inl h⟩;have hN:G.N<=(G.fb v len ow).N:=Nat.le_succ _;have kQ:∀n(C:ao),n<G.N->C.dZ (G.fb v len ow) n=C.dZ G n:=λn C hn=>by
  cases C<;>simp [ao.dZ,Gh.fb,Nat.ne_of_lt hn]
 have key:∀n b,bR (h++[B]) (G.fb v len ow) n=some b->(n<G.N/\bR h G n=some b)\/(n=G.N/\ow=some b):=λn b hb=>by
  by_cases hn:n<h.length
  ·unfold bR at hb;rw[akq hn,akk hn]at hb;exact .inl ⟨hi.len▸hn,by unfold bR;rw[akk hn,<-hb];exact(kQ n _ (hi.len▸hn)).symm⟩
  ·by_cases en:n=h.length
   ·subst en;rw[dM (B:=B) (by simp),tI]at hb;exact .inr ⟨hi.len,by simpa [Gh.fb,hi.len]using hb⟩
   ·rw[sB (akM (by simp;omega))]at hb;cases hb
 refine⟨hE,by simp [Gh.fb,hi.len],λb hb=>akE (hi.z b hb) hw.2.1,λb o hs=>akE (hi.S b o hs) hw.2.1,λn C hC=> ?_,λm n b J h2=> ?_,hi.gl.keep hE⟩
 ·by_cases hn:n<h.length
  ·rw[akq hn]at hC;have eZ:n<G.N:=hi.len▸hn;exact er.keep eZ hE hN ⟨by simp [Gh.fb,cN n eZ],by simp [Gh.fb,cN n eZ],by simp [Gh.fb,cN n eZ]⟩ (λb hb=>⟨hw.1 b (hi.gW ((dM hC).trans hb)),λo h=>h⟩) (hi.dn n C hC)
  ·have jY:n=h.length:=by
    have:=(akg.1 hC).1;simp at this;omega
   subst jY;simp at hC;subst hC;rw[hi.len];exact hB
 ·rcases key m b J with⟨_,a1⟩|⟨rfl,a1⟩<;>rcases key n b h2 with⟨_,b1⟩|⟨rfl,b1⟩
  ·exact hi.inj m n b a1 b1
  ·have:=hi.gW a1;have:=how b b1;omega
  ·have:=hi.gW b1;have:=how b a1;omega
  ·rfl
theorem aD.rY{n o len L k:Nat}{e:TypeId}{cs:ak4 (ak4 AV)}{u:ak8}(hi:bU G w h)(hn:h[n]?=some (.vec e k cs))(hL:cs.length=L)(hv:aD G w u (.vec n o len L k)):WU (G.sg n) u o len L k:=by
 have hb:=(hi.dn n _ hn).1;cases hv with|vec _ _ _ _ _ J h2 h3 h4=>exact h4 (by rw[<-hL,hb])
theorem aD.Xm{n i j L k:Nat}{e:TypeId}{k':Nat}{cs:ak4 (ak4 AV)}{u:ak8}(hi:bU G w h)(hn:h[n]?=some (.vec e k' cs))(hL:cs.length=L)(hv:aD G w u (.dF n i j L k)):V9 (G.sg n) u i j L k:=by
 have hb:=(hi.dn n _ hn).1;cases hv with|dF _ _ _ _ _ J h2 h3 h4=>exact h4 (by rw[<-hL,hb])
theorem CF{n:Nat}{e k:Nat}{cs:ak4 (ak4 AV)}(hi:bU G w h)(hn:h[n]?=some (.vec e k cs))(cN:cs≠ []):∃(g cap:Nat)(cur:Array ak8),G.ow n=some g/\G.sg n= .slice (some ⟨g,0,none⟩) cs.length cap/\¬G.Z g/\w.heap[g]?=some (.cells cur e (0,0))/\cs.length<=cap/\cap<=maxLen/\cur.size=cap*k/\(∀o,¬G.S g o)/\
        ∀(i j:Nat)(c:ak4 AV)(x:AV)(u:ak8),cs[i]?=some c->c[j]?=some x->cur[i*k+j]?=some u->aD G w u x:=by
 obtain⟨_,_,_,h4|h4⟩:=hi.dn n _ hn
 ·exact absurd h4.2.1 cN
 ·exact h4
theorem Cf{n:Nat}{e k:Nat}{cs:ak4 (ak4 AV)}(hi:bU G w h)(hn:h[n]?=some (.vec e k cs)):∀c∈cs,c.length=k:=(hi.dn n _ hn).2.2.1
theorem ma{i k L j:Nat}(hi:i<L)(hj:j<k):i*k+j<L*k:=by
 have:(i+1)*k<=L*k:=Nat.mul_le_mul_right k hi;rw[Nat.add_mul]at this;omega
theorem HO{i k j:Nat}(hj:j<k):(i*k+j)/ k=i/\(i*k+j)%k=j:=by
 have hk:0<k:=by omega
 exact⟨by rw[Nat.add_comm,Nat.add_mul_div_right _ _ hk,Nat.div_eq_of_lt hj,akA],by rw[Nat.add_comm,Nat.add_mul_mod_self_right,Nat.mod_eq_of_lt hj]⟩
theorem ahl{i i' j j' k:Nat}(hj:j<k)(iC:j'<k)(e:i*k+j=i'*k+j'):i=i'/\j=j':=by
 have J:=HO (i:=i) hj;have h2:=HO (i:=i') iC;exact⟨by rw[<-J.1,<-h2.1,e],by rw[<-J.2,<-h2.2,e]⟩
theorem ajv{t n i j L k:Nat}{e:TypeId}{cs:ak4 (ak4 AV)}{c:ak4 AV}{x:AV}{v:ak8}(hi:bU G w h)(hn:h[n]?=some (.vec e k cs))(hL:cs.length=L)(hc:cs[i]?=some c)(hx:Kp P t c j=some x)(hv:aD G w v (.dF n i j L k)):
 ∃u,(Instr.loadAt t v).run P w= .ok u w/\aD G w u x:=by
 have jh:i<cs.length:=(akg.1 hc).1;have WD:c.length=k:=Cf hi hn c (akt hc);obtain⟨g,cap,cur,r1,r2,r3,r4,r5,r6,r7,r8,r9⟩:=CF hi hn (λe=>by subst e;simp at jh);obtain⟨_,g',Bb,p1,p2⟩:=hv.Xm hi hn hL;rw[r2]at p1;cases p1
 have J:∀q,q<c.length->w.cell? ⟨g,i*k+q,none⟩=some (cur.getD (i*k+q) undef):=λq hq=>by
  rw[cell_of_row w g _ cur e (0,0) r4];have:i*k+q<cur.size:=by
    rw[r7];exact akE (ma jh (by omega)) (Nat.mul_le_mul_right k r5)
  simp [Array.getD,this]
 have h2:∀(q:Nat)(y:AV),c[q]?=some y->aD G w (cur.getD (i*k+q) undef) y:=λq y hq=>by
  have KW:=(akg.1 hq).1;have aL:i*k+q<cur.size:=by
   rw[r7];exact akE (ma jh (by omega)) (Nat.mul_le_mul_right k r5)
  have e1:cur[i*k+q]?=some (cur.getD (i*k+q) undef):=by simp [Array.getD,aL]
  exact r9 i q c y _ hc hq e1
 have key:=TP (P:=P) (G:=G) (w:=w) (t:=t) (C:=(·=x)) g (i*k) c j (λq=>cur.getD (i*k+q) undef) J h2 (by
  unfold Kp at hx;revert hx;cases lK P t with
  |none=>intro hx;cases hx
  |some ag=>
   cases gj P t with
   |none=>cases ag<;>(intro hx;cases hx)
   |some kk=>
    cases ag with
    |true=>
     simp only;intro hx;cases hb:ct (j+kk) c.length with
     |false=>rw[hb]at hx;cases hx
     |true=>rw[hb]at hx;cases hx;exact rfl
    |false=>
     simp only;intro hx;rw[hx])
 obtain⟨u,y,k1,k2,rfl⟩:=key;refine⟨u,?_,k2⟩;rw[p2];simp [Instr.loadAt,Instr.sureAddr,k1]
theorem aiT{t b off k:Nat}{T:TypeId}{v:ak8}{vs:Array ak8}(hh:w.heap[b]?=some (.cells vs T (0,0)))(ht:gj P t=some k)(hk:v.cells.size=k)(iU:∀u∈v.cells.toList,u.oneCell'=true)(hb:off+k<=vs.size):
 (storeVar t ⟨b,off,none⟩ v).run P w= .ok () (w.setRow b (vs.toList.take off++v.cells.toList++vs.toList.drop (off+v.cells.toList.length)).toArray):=by
 obtain⟨i,jC,kC⟩:=XF ht;have kT:=run_storeCells_at P b off T v.cells.toList 0 vs w hh (by rw[akN,hk];simpa using hb) iU;simp only[Nat.add_zero]at kT;unfold storeVar;simp only[sizeOf,typeInfo,Sem.run_bind,hk];simp [jC,kC,kT]
theorem XR(vs:Array ak8)(us:ak4 ak8)(off q:Nat)(hb:off+us.length<=vs.size):(vs.toList.take off++us++vs.toList.drop (off+us.length)).toArray[q]?=if off<=q/\q<off+us.length then us[q-off]? else vs[q]?:=by
 rw[List.getElem?_toArray,akx];have uf:vs.toList.length=vs.size:=akN;by_cases J:q<off
 ·rw[akq (by simp;omega),List.getElem?_take_of_lt J,if_neg (by omega),akD]
 ·rw[akw (by simp;omega)];simp only[List.length_take,uf];rw[Nat.min_eq_left (by omega)];by_cases h2:q<off+us.length
  ·rw[akq (by omega),if_pos (by omega)]
  ·rw[akw (by omega),List.getElem?_drop,if_neg (by omega),show off+us.length+(q-off-us.length)=q by omega,akD]
theorem Vf(vs:Array ak8)(us:ak4 ak8)(off:Nat)(hb:off+us.length<=vs.size):(vs.toList.take off++us++vs.toList.drop (off+us.length)).toArray.size=vs.size:=by
 simp only[List.size_toArray,akh,List.length_take,List.length_drop,akN];omega
theorem af6(cs ys:ak4 AV)(off q:Nat)(hb:off+ys.length<=cs.length):(iz cs off ys)[q]?=if off<=q/\q<off+ys.length then ys[q-off]? else cs[q]?:=by
 unfold iz;rw[akx];by_cases J:q<off
 ·rw[akq (by simp;omega),List.getElem?_take_of_lt J,if_neg (by omega)]
 ·rw[akw (by simp;omega)];simp only[List.length_take];rw[Nat.min_eq_left (by omega)];by_cases h2:q<off+ys.length
  ·rw[akq (by omega),if_pos (by omega)]
  ·rw[akw (by omega),List.getElem?_drop,if_neg (by omega),show off+ys.length+(q-off-ys.length)=q by omega]
theorem QA{n e k g cap:Nat}{cs cD:ak4 (ak4 AV)}{cur:Array ak8}{us:ak4 ak8}{off:Nat}(hi:bU G w h)(hn:h[n]?=some (.vec e k cs))(gL:0<k)(r1:G.ow n=some g)(r2:G.sg n= .slice (some ⟨g,0,none⟩) cs.length cap)(r3:¬G.Z g)(r4:w.heap[g]?=some (.cells cur e (0,0)))(r5:cs.length<=cap)(r6:cap<=maxLen)(r7:cur.size=cap*k)(r8:∀o,¬G.S g o)
 (hb:off+us.length<=cur.size) (hl:cD.length=cs.length) (iX:∀c∈cD,c.length=k)
 (zS:∀(i j:Nat)(c:ak4 AV)(x:AV)(u:ak8),cD[i]?=some c->c[j]?=some x->(if off<=i*k+j/\i*k+j<off+us.length then us[i*k+j-off]? else cur[i*k+j]?)=some u->aD G w u x):
 ∃G',bP G.N G w G' (w.setRow g (cur.toList.take off++us++cur.toList.drop (off+us.length)).toArray)/\G'.N=G.N/\bU G' (w.setRow g (cur.toList.take off++us++cur.toList.drop (off+us.length)).toArray) (h.set n (.vec e k cD))/\(∀m,G'.sg m=G.sg m)/\(∀m,G'.fl m=G.fl m):=by
 obtain⟨w',e9⟩:∃w',w'=w.setRow g (cur.toList.take off++us++cur.toList.drop (off+us.length)).toArray:=⟨_,rfl⟩;rw[<-e9];have iH:∀b,b≠g->w'.heap[b]?=w.heap[b]?:=λb hb=>by rw[e9];exact setRow_other w g b _ hb
 have nO:w'.heap[g]?=some (.cells (cur.toList.take off++us++cur.toList.drop (off+us.length)).toArray e (0,0)):=by rw[e9];exact setRow_heap w g cur _ e _ r4
 have ic:w'.heap.size=w.heap.size:=by rw[e9];exact Jp w g _
 obtain⟨G',gn⟩:∃G',G'=G.grow n G.S (G.sg n) (G.fl n) (some g):=⟨_,rfl⟩;have zC:∀m,G'.sg m=G.sg m:=λm=>by rw[gn];simp only[Gh.grow];split<;>simp_all
 have l4:∀m,G'.fl m=G.fl m:=λm=>by rw[gn];simp only[Gh.grow];split<;>simp_all
 have hE:bP G.N G w G' w':=⟨by rw[ic];exact akr _,λb o h=>by rw[gn];exact h,λb o hs=>World.cell?_of_block (iH b (λe=>r8 o (e▸hs))),λ_ _=>by rw[gn];rfl,λm _=> .inl ⟨l4 m,zC m⟩,gQ (by rw[gn];rfl) (by rw[gn];rfl),λb hb=>iH b (λe=>r3 (e▸hb)),by rw[e9];rfl,by rw[e9];rfl,by rw[e9];rfl,λb o hs=> .inl (by rw[gn]at hs;exact hs)⟩;have nd:=hi.dn n _ hn;refine⟨G',hE,by rw[gn];rfl,?_,zC,l4⟩;subst gn;refine Ha hi hn (λ_=>rfl) (λ_=>rfl) _ _ _ _ hE (λg' rM=> ?_) (λb o hs=> .inl hs) (λb _ gV=>iH b (λe=>gV (by rw[e]))) ?_
 ·cases rM;exact⟨.inr r1,by rw[ic];exact(akv.1 r4).1⟩
 ·refine⟨by rw[l4,hl];exact nd.1,by rw[hl];exact nd.2.1,iX, .inr ⟨g,cap,_,by simp [Gh.grow],by rw[zC,hl];exact r2,r3,nO,by rw[hl];exact r5,r6,by rw[Vf _ _ _ hb];exact r7,r8,λi j c x u hc hx hu=> ?_⟩⟩;rw[XR _ _ _ _ hb]at hu;exact(zS i j c x u hc hx hu).keep hE (akr _)
theorem agK{t n i j L k:Nat}{e:TypeId}{cs:ak4 (ak4 AV)}{c:ak4 AV}{x:AV}{v u:ak8}(hi:bU G w h)(hn:h[n]?=some (.vec e k cs))(hL:cs.length=L)(hc:cs[i]?=some c)(hv:aD G w v (.dF n i j L k))(hx:aD G w u x)(Mn:x.jl=true)(ht:gj P t=some x.cells.length)(hj:j+x.cells.length<=k)(gL:0<k):
 ∃w' G',(Instr.storeAt t v u).run P w= .ok () w'/\bP G.N G w G' w'/\G.N<=G'.N/\bU G' w' (h.set n (.vec e k (cs.set i (iz c j x.cells)))):=by
 have jh:i<cs.length:=(akg.1 hc).1;have iX:=Cf hi hn;have WD:c.length=k:=iX c (akt hc);obtain⟨g,cap,cur,r1,r2,r3,r4,r5,r6,r7,r8,r9⟩:=CF hi hn (λe=>by subst e;simp at jh);obtain⟨_,g',Bb,p1,p2⟩:=hv.Xm hi hn hL;rw[r2]at p1;cases p1
 obtain⟨c1,c2⟩:=hx.cells Mn;have nq:u.cells.toList.length=x.cells.length:=by rw[akN,c1]
 have iU:∀y∈u.cells.toList,y.oneCell'=true:=λy hy=>by
  obtain⟨q,hq⟩:=List.mem_iff_getElem?.1 hy;have KW:u.cells[q]?=some y:=by rw[<-akD];exact hq
  have hql:q<x.cells.length:=by rw[<-c1];exact(akv.1 KW).1
  exact(c2 q y _ KW (akk hql)).2
 have lE:i*k+j+x.cells.length<=cur.size:=by
  have J:(i+1)*k<=cap*k:=Nat.mul_le_mul_right k (akE jh r5);rw[Nat.add_mul]at J;rw[r7];omega
 have dO:=aiT (P:=P) (off:=i*k+j) r4 ht c1 iU lE;obtain⟨G',e1,e2,e3,_⟩:=QA (us:=u.cells.toList) (off:=i*k+j) (cD:=cs.set i (iz c j x.cells)) hi hn gL r1 r2 r3 r4 r5 r6 r7 r8 (by rw[nq];exact lE) (by rw[List.length_set]) (λd hd=>by
     obtain⟨q,hq⟩:=List.mem_iff_getElem?.1 hd;by_cases e:i=q
     ·subst e;rw[akJ jh]at hq;cases hq
      rw[Ax _ _ _ (by omega)];exact WD
     ·rw[akO e]at hq;exact iX d (akt hq)) (λa b d y z hd hy hz=>by
     have iQ:b<k:=by
      by_cases e:i=a
      ·subst e;rw[akJ jh]at hd;cases hd
       have:=(akg.1 hy).1;rw[Ax _ _ _ (by omega)]at this;omega
      ·rw[akO e]at hd;rw[<-iX d (akt hd)];exact(akg.1 hy).1
     rw[nq]at hz;by_cases e:i=a
     ·subst e;rw[akJ jh]at hd;cases hd
      rw[af6 _ _ _ _ (by omega)]at hy;by_cases hb:j<=b/\b<j+x.cells.length
      ·rw[if_pos hb]at hy;rw[if_pos (by omega),show i*k+b-(i*k+j)=b-j by omega,akD]at hz;exact(c2 _ _ _ hz hy).1
      ·rw[if_neg hb]at hy;rw[if_neg (by omega)]at hz;exact r9 i b c y z hc hy hz
     ·rw[akO e]at hd;rw[if_neg ?_]at hz
      ·exact r9 a b d y z hd hy hz
      ·intro hh;have:a*k+b=i*k+(a*k+b-i*k):=by omega
       exact e ((ahl (i:=a) (i':=i) (j:=b) (j':=a*k+b-i*k) iQ (by omega) this).1.symm))
 refine⟨_,G',?_,e1,by rw[e2];exact akr _,e3⟩;rw[p2];simp [Instr.storeAt,Instr.sureAddr,dO]
end
section
variable {P:ak7} {G:Gh} {w:ak9} {h:ak4 ao}
structure ze(G:Gh)(w:World)(k:Nat)(ys:List (List AV))(us:List Value):Prop where
 len:us.length=ys.length*k
 wid:∀c∈ys,c.length=k
 one:∀u∈us,u.oneCell'=true
 rel:∀(i j:Nat)(c:List AV)(x:AV)(u:Value),ys[i]?=some c->c[j]?=some x->us[i*k+j]?=some u->aD G w u x
theorem KA{k tx e':Nat}{y:AV}{v:ak8}{ys:ak4 (ak4 AV)}(hi:bU G w h)(hv:aD G w v y)(hs:xz h k y ys)(gL:0<k)(hT:P.underlying tx=some (.slice e')):
 ∃us,ze G w k ys us/\Src P k tx v ys.length us w:=by
 rcases hs with⟨xs,J,h2,rfl⟩|⟨n,o,len,L,e,cs,rfl,h2,h3,h4,h5⟩
 ·obtain⟨us,hr,ug⟩:=(hv.list J).src gL h2 hT;have hl:(ck xs).length=xs.length:=by unfold ck;rw[akl]
  refine⟨us,⟨by rw[hl];exact hr.len,λc hc=> ?_,hr.one,λi j c x u hc hx hu=> ?_⟩,by rw[hl];exact ug⟩
  ·unfold ck at hc;obtain⟨d,hd,rfl⟩:=List.mem_map.1 hc;rw[akl];exact h2 d hd
  ·unfold ck at hc;rw[akn]at hc;cases nG:xs[i]? with
   |none=>rw[nG]at hc;cases hc
   |some d=>
    rw[nG]at hc;cases hc
    rw[akn]at hx;cases hy:d[j]? with
    |none=>rw[hy]at hx;cases hx
    |some z=>
     rw[hy]at hx;cases hx
     obtain⟨u',a1,a2⟩:=hr.rel i j d z nG hy;rw[a1]at hu;cases hu
     exact .d a2
 ·have ln:=hv.rY hi h2 h3;obtain⟨A,c,rfl,c1,c2,c3,c4⟩:=ln.sl;have oh:ys.length=len:=by rw[h4,List.length_take,List.length_drop,h3];have:=ln.ol;omega
  by_cases h0:len=0
  ·subst h0;have:ys=[]:=List.eq_nil_of_length_eq_zero oh;subst this;refine⟨[],⟨by simp,(λ_ h=>by cases h),(λ_ h=>by cases h),λi j c x u hc=>by simp at hc⟩,?_⟩;cases A with
   |none=>exact Src.ofNil w hT c
   |some a=>exact Src.ofSlice w hT a 0 c [] (by simp) (λj u hu=>by simp at hu) (λu hu=>by cases hu)
  ·have ho:o<L:=by have:=ln.ol;omega
   obtain⟨g,cap,p1,rfl,p3⟩:=c4 ho;have cN:cs≠ []:=λe=>by subst e;simp at h3;omega
   obtain⟨g',Bb,cur,r1,r2,r3,r4,r5,r6,r7,r8,r9⟩:=CF hi h2 cN;rw[r2]at p1;cases p1
   have iX:=Cf hi h2;have hJ:∀q,q<len*k->o*k+q<cur.size:=λq hq=>by
    have J:(o+len)*k<=cap*k:=Nat.mul_le_mul_right k (by have:=ln.ol;omega);rw[Nat.add_mul]at J;rw[r7];omega
   have jo:∀i,i<len->ys[i]?=cs[o+i]?:=λi dY=>by rw[h4,List.getElem?_take_of_lt dY,List.getElem?_drop]
   have iU:∀q,q<len*k->(cur.getD (o*k+q) undef).oneCell'=true:=λq hq=>by
    have MR:q / k<len:=Nat.div_lt_of_lt_mul (by rw[Nat.mul_comm];exact hq);have hkj:q%k<k:=Nat.mod_lt _ gL;obtain⟨d,gw⟩:∃d,cs[o+q / k]?=some d:=⟨_,akk (by have:=ln.ol;omega)⟩;have DK:=iX _ (akt gw);obtain⟨x,hx⟩:∃x,d[q%k]?=some x:=⟨_,akk (by rw[DK];exact hkj)⟩;have e1:(o+q / k)*k+q%k=o*k+q:=by
     rw[Nat.add_mul];have:=Nat.div_add_mod q k;rw[Nat.mul_comm]at this;omega
    have hu':cur[(o+q / k)*k+q%k]?=some (cur.getD (o*k+q) undef):=by
     rw[e1];simp [Array.getD,hJ q hq]
    refine(r9 _ _ _ _ _ gw hx hu').jR ?_;have jO:d∈ys:=akt ((jo _ MR).trans gw);have:=h5 _ jO;rw[akG]at this;exact this _ (akt hx)
   refine⟨(List.range (len*k)).map λq=>cur.getD (o*k+q) undef,⟨by rw[oh];simp,λc hc=>iX c ?_,λu hu=> ?_,λi j c x u hc hx hu=> ?_⟩,?_⟩
   ·rw[h4]at hc;exact List.mem_of_mem_drop (List.mem_of_mem_take hc)
   ·obtain⟨q,hq,rfl⟩:=List.mem_map.1 hu;exact iU q (List.mem_range.1 hq)
   ·have jh:i<len:=by rw[<-oh];exact(akg.1 hc).1
    rw[jo i jh]at hc;have HP:j<k:=by rw[<-iX c (akt hc)];exact(akg.1 hx).1
    have aL:i*k+j<len*k:=ma jh HP;rw[akn,List.getElem?_range aL]at hu;simp only[Option.map_some,Option.some.injEq]at hu;refine r9 (o+i) j c x u hc hx ?_;rw[<-hu,show(o+i)*k+j=o*k+(i*k+j) by rw[Nat.add_mul];omega];simp [Array.getD,hJ _ aL]
   ·rw[oh];refine Src.ofSlice w hT _ len c _ (by simp) (λj u hu=> ?_) (λu hu=> ?_)
    ·rw[lg,cell_of_row w g _ cur e (0,0) r4];rw[akn]at hu;by_cases hj:j<len*k
     ·rw[List.getElem?_range hj]at hu;simp only[Option.map_some,Option.some.injEq]at hu;rw[<-hu];simp [Array.getD,hJ _ hj]
     ·rw[akM (by simp;omega)]at hu;cases hu
    ·obtain⟨q,hq,rfl⟩:=List.mem_map.1 hu;exact iU q (List.mem_range.1 hq)
theorem ze.keep{G':Gh}{w':ak9}{k:Nat}{ys:ak4 (ak4 AV)}{us:ak4 ak8}(h:ze G w k ys us)(hE:bP G.N G w G' w')(hN:G.N<=G'.N):ze G' w' k ys us:=
 ⟨h.len,h.wid,h.one,λi j c x u J h2 h3=>(h.rel i j c x u J h2 h3).keep hE hN⟩
theorem ahd{α:Type}{k:Nat}(l:ak4 α)(us:ak4 α)(m i j:Nat)(hl:l.length=m*k)(hj:j<k):(l++us)[i*k+j]?=if i<m then l[i*k+j]? else us[(i-m)*k+j]?:=by
 by_cases h:i<m
 ·rw[if_pos h,akq (by rw[hl];exact ma h hj)]
 ·have J:m*k<=i*k:=Nat.mul_le_mul_right k (by omega);rw[if_neg h,akw (by rw[hl];omega),hl,Nat.sub_mul,show i*k+j-m*k=i*k-m*k+j by omega]
theorem LL{e k cap:Nat}{cs:ak4 (ak4 AV)}{cur:Array ak8}(hi:bU G w h)(J:cs.length<=cap)(h2:cap<=maxLen)(h3:cur.size=cap*k)(iX:∀c∈cs,c.length=k)(w0:ak9)(pv:w0.heap=w.heap/\w0.os=w.os/\w0.tape=w.tape/\w0.output=w.output)
 (zS:∀(i j:Nat)(c:ak4 AV)(x:AV)(u:ak8),cs[i]?=some c->c[j]?=some x->cur[i*k+j]?=some u->aD G w u x):
 ∃G',bP G.N G w G' (w0.alloc (.cells cur e))/\G.N<=G'.N/\bU G' (w0.alloc (.cells cur e)) (h++[.vec e k cs])/\∀len,len<=cs.length->aD G' (w0.alloc (.cells cur e)) (.slice (some ⟨w.heap.size,0,none⟩) len cap) (.vec h.length 0 len cs.length k):=by
 have ic:w0.heap.size=w.heap.size:=by rw[pv.1]
 have fk:(w0.alloc (.cells cur e)).heap[w.heap.size]?=some (.cells cur e (0,0)):=by rw[<-ic];exact World.alloc_heap_new w0 _
 have hold:∀b,b<w.heap.size->(w0.alloc (.cells cur e)).heap[b]?=w.heap[b]?:=λb hb=>by rw[Below.heap_alloc w0 _ b (by rw[ic];exact hb),pv.1]
 have hw:(∀b,b<w.heap.size->(w0.alloc (.cells cur e)).heap[b]?=w.heap[b]?)/\w.heap.size<=(w0.alloc (.cells cur e)).heap.size/\(w0.alloc (.cells cur e)).os=w.os/\(w0.alloc (.cells cur e)).tape=w.tape/\(w0.alloc (.cells cur e)).output=w.output:=
  ⟨hold,by simp [ic],pv.2.1,pv.2.2.1,pv.2.2.2⟩
 obtain⟨sv,lM⟩:∃sv,sv=Value.slice (some ⟨w.heap.size,0,none⟩) cs.length cap:=⟨_,rfl⟩;obtain⟨Ap,_⟩:bP G.N G w (G.fb sv cs.length (some w.heap.size)) (w0.alloc (.cells cur e))/\True:=by
  refine⟨⟨hw.2.1,λ_ _ h=>h,λb o hs=>World.cell?_of_block (hw.1 b (hi.S b o hs)),λ_ _=>rfl,λn hn=> .inl ⟨by simp [Gh.fb,Nat.ne_of_lt hn],by simp [Gh.fb,Nat.ne_of_lt hn]⟩,gQ rfl,λb hb=>hw.1 b (hi.z b hb),hw.2.2.1,hw.2.2.2.1,hw.2.2.2.2,λ_ _ h=> .inl h⟩,trivial⟩
 obtain⟨hE,hI⟩:=Pf (w':=w0.alloc (.cells cur e)) hi (.vec e k cs) (λ_ _=>rfl) sv cs.length (some w.heap.size) hw (λg hg=>by cases hg;exact akr _) (by
  refine⟨by simp [Gh.fb],aky J h2,iX, .inr ⟨w.heap.size,cap,cur,by simp [Gh.fb],by simp [Gh.fb,lM],λhz=>akU _ (hi.z _ hz),fk,J,h2,h3,λo hs=>akU _ (hi.S _ _ hs),λi j c x u hc hx hu=>(zS i j c x u hc hx hu).keep Ap (Nat.le_succ _)⟩⟩)
 refine⟨_,hE,Nat.le_succ _,hI,λlen hlen=> ?_⟩;rw[hi.len];refine .vec G.N 0 len cs.length k (by simp [Gh.fb]) ⟨_,_,_,rfl⟩ (by simp [Gh.fb]) λ_=>⟨by omega,⟨_,_,rfl,aky hlen J,h2,J,λ_=>⟨w.heap.size,cap,by simp [Gh.fb,lM],by simp,by simp⟩⟩,λ_ e=>by subst e;simp [Gh.fb,lM]⟩
theorem aiI{T e k len m de:Nat}{i:TypeInfo}{z:ak8}{kl kc:IntKind}{l c:Int}(hi:bU G w h)(hT:P.underlying T=some (.slice e))(kD:P.info? e=some i)(hz:i.zero=some z)(mZ:i.size=k)(ub:i.bytes=de)(jP:z.cells.toList.length=k)(gL:0<k)
 (h0:0<=l) (kG:l<=c) (hl:l.toNat=len) (hc:c.toNat=m) (hm:m<=maxLen) (hb:de*m<=281474976710656):
 ∃u w' G',(Instr.makeSlice T (.int kl l) (.int kc c)).run P w= .ok u w'/\bP G.N G w G' w'/\G.N<=G'.N/\bU G' w' (h++[.vec e k (List.replicate m (z.cells.toList.map λu=> .d (.v u)))])/\aD G' w' u (.vec h.length 0 len m k):=by
 subst mZ;subst ub;have gV:(i.bytes:Int)*c<=281474976710656:=by
  have:((i.bytes*m:Nat):Int)<=281474976710656:=by omega
  rw[Int.natCast_mul,<-hc,Int.toNat_of_nonneg (by omega)]at this;exact this
 have h63:c<=9223372036854775807:=by have h:=hm;simp [maxLen]at h;omega
 have dO:=run_make (P:=P) w T e i z hT kD hz kl kc l c h0 kG gV h63;rw[hl,hc]at dO;have gg:(List.replicate m (z.cells.toList.map λu=>AV.d (.v u))).length=m:=akQ;obtain⟨G',g1,g2,g3,g4⟩:=LL (e:=e) (k:=i.size) (cap:=m) (cs:=List.replicate m (z.cells.toList.map λu=>AV.d (.v u))) (cur:=madeCells z.cells (m*i.size)) hi (by rw[gg];exact akr _) hm (size_madeCells _ _) (λc hc=>by
  rw[List.eq_of_mem_replicate hc,akl];exact jP) w ⟨rfl,rfl,rfl,rfl⟩ (λa b c x u hc hx hu=>by
  have:=List.eq_of_mem_replicate (akt hc);subst this;rw[akn]at hx;cases hq:z.cells.toList[b]? with
  |none=>rw[hq]at hx;cases hx
  |some y=>
   rw[hq]at hx;cases hx
   have iQ:b<i.size:=by rw[<-jP];exact(akg.1 hq).1
   have Lg:a<m:=by have:=(akg.1 hc).1;rwa [gg]at this
   unfold madeCells at hu;have aL:a*i.size+b<m*i.size:=ma Lg iQ;rw[Array.getElem?_map,Array.getElem?_range,if_pos aL]at hu;simp only[Option.map_some,Option.some.injEq]at hu;have je:z.cells.size=i.size:=by rw[<-akN];exact jP
   rw[je,(HO (i:=a) iQ).2]at hu;have nT:z.cells[b]?=some y:=by rw[<-akD];exact hq
   rw[getElem!_pos z.cells b (by rw[je];exact iQ)]at hu;rw[akC (by rw[je];exact iQ)]at nT;cases nT
   subst hu;exact .d (.v _))
 rw[gg]at g4;refine⟨_,_,G',dO,g1,g2,g3,g4 len ?_⟩;rw[<-hl,<-hc];omega
theorem ad0{T tx ty e k de n o len L:Nat}{i:TypeInfo}{z:ak8}{u v:ak8}{cs ys:ak4 (ak4 AV)}{us:ak4 ak8}(hi:bU G w h)(hT:P.underlying T=some (.slice e))(kD:P.info? e=some i)(hz:i.zero=some z)(mZ:i.size=k)(ub:i.bytes=de)(jP:z.cells.size=k)(gL:0<k)
 (hn:h[n]?=some (.vec e k cs)) (hL:cs.length=L) (hu:aD G w u (.vec n o len L k)) (hr:ze G w k ys us) (hs:Src P k tx v ys.length us w)
 {L':Nat} {cD:ak4 (ak4 AV)} (qe:(o+len+ys.length<=L/\L'=L/\cD=cs.take (o+len)++ys++cs.drop (o+len+ys.length))\/(o=0/\len=L/\L'=L+ys.length/\cD=cs++ys/\L'<=maxLen/\L'*de<=140737488355328)):
 ∃r w' G',(Builtin.append_ #[T,tx] ty #[u,v]).run P w= .ok r w'/\bP G.N G w G' w'/\G.N<=G'.N/\bU G' w' (h.set n (.vec e k cD))/\aD G' w' r (.vec n o (len+ys.length) L' k):=by
 subst mZ;subst ub;have nE:=hi.lt hn;have iX:=Cf hi hn;have ln:=hu.rY hi hn hL;have nd:=hi.dn n _ hn;have akd:=ln;obtain⟨xZ,⟨A,c,rfl,c1,c2,c3,c4⟩,call⟩:=ln;by_cases hy:ys.length=0
 ·have jo:ys=[]:=List.eq_nil_of_length_eq_zero hy;subst jo;have lY:us=[]:=List.eq_nil_of_length_eq_zero (by rw[hr.len];simp);subst lY;have dO:=run_append_nothing (P:=P) w T tx ty e i hT kD A len c c1 v hs;have e1:cD=cs:=by
   rcases qe with⟨_,_,e⟩|⟨_,_,_,e,_⟩
   ·rw[e];simp
   ·rw[e];simp
  have e2:L'=L:=by
   rcases qe with⟨_,e,_⟩|⟨_,_,e,_⟩
   ·exact e
   ·rw[e];simp
  subst e1;subst e2;refine⟨_,w,G,dO,bP.refl _ _ _,akr _,?_,by simpa using hu⟩;have:h.set n (.vec e i.size cD)=h:=by
   refine List.ext_getElem? λm=> ?_;by_cases em:m=n
   ·subst em;rw[akJ (akg.1 hn).1,hn]
   ·rw[akO (Ne.symm em)]
  rw[this];exact hi
 ·have Pu:0<ys.length:=Nat.pos_of_ne_zero hy;have room:len+ys.length<=c->∀g cap cur,G.ow n=some g->G.sg n= .slice (some ⟨g,0,none⟩) cs.length cap->¬G.Z g->w.heap[g]?=some (.cells cur e (0,0))->cs.length<=cap->cap<=maxLen->cur.size=cap*i.size->(∀o,¬G.S g o)->
      (∀(a b:Nat)(d:ak4 AV)(x:AV)(q:ak8),cs[a]?=some d->d[b]?=some x->cur[a*i.size+b]?=some q->aD G w q x)->A=some ⟨g,o*i.size,none⟩->o+c=cap->
      ∃r w' G',(Builtin.append_ #[T,tx] ty #[.slice A len c,v]).run P w= .ok r w'/\bP G.N G w G' w'/\G.N<=G'.N/\bU G' w' (h.set n (.vec e i.size cD))/\aD G' w' r (.vec n o (len+ys.length) L' i.size):=by
   intro qi g cap cur r1 r2 r3 r4 r5 r6 r7 r8 r9 rA rc;have lE:(o+len)*i.size+us.length<=cur.size:=by
    rw[hr.len,r7,<-Nat.add_mul];exact Nat.mul_le_mul_right _ (by omega)
   have xl:∀j,j<us.length->(w.cell? ⟨g,o*i.size+len*i.size+j,none⟩).isSome=true:=λj hj=>by
    rw[cell_of_row w g _ cur e (0,0) r4,akC (by rw[Nat.add_mul]at lE;omega)];rfl
   have dO:=run_append_room_src (P:=P) w T tx ty e i hT kD g (o*i.size) len c v ys.length us hs qi xl (λj hj=>by unfold World.frozen?;rw[r4];simp);have kT:=run_storeCells_at P g (o*i.size+len*i.size) e us 0 cur w r4 (by rw[Nat.add_mul]at lE;simpa using lE) hr.one;have uk:=run_storeCells_cells (P:=P) g (o*i.size+len*i.size) us 0 w (by simpa using xl) (λj hj=>by unfold World.frozen?;rw[r4];simp) hr.one;simp only[Nat.add_zero]at kT uk;rw[kT]at uk;injection uk with _ e2;rw[<-e2,<-Nat.add_mul]at dO;rw[rA];have fk:∀(a b:Nat)(d:ak4 AV)(x:AV)(q:ak8),cD[a]?=some d->d[b]?=some x->(if(o+len)*i.size<=a*i.size+b/\a*i.size+b<(o+len)*i.size+us.length then us[a*i.size+b-(o+len)*i.size]? else cur[a*i.size+b]?)=some q->aD G w q x:=by
    intro a b d x q hd hx hq;have JN:d.length=i.size:=by
     have hm:=akt hd;rcases qe with⟨_,_,e⟩|⟨_,_,_,e,_⟩
     ·rw[e]at hm;rcases akS.1 hm with hm|hm
      ·rcases akS.1 hm with hm|hm
       ·exact iX d (List.mem_of_mem_take hm)
       ·exact hr.wid d hm
      ·exact iX d (List.mem_of_mem_drop hm)
     ·rw[e]at hm;rcases akS.1 hm with hm|hm
      ·exact iX d hm
      ·exact hr.wid d hm
    have iQ:b<i.size:=by rw[<-JN];exact(akg.1 hx).1
    have H3:(a<o+len/\cs[a]?=some d)\/(o+len<=a/\a<o+len+ys.length/\ys[a-(o+len)]?=some d)\/(o+len+ys.length<=a/\cs[a]?=some d):=by
     rcases qe with⟨hf,_,e⟩|⟨e0,e1,_,e,_⟩
     ·rw[e]at hd;have Nd:(cs.take (o+len)).length=o+len:=by rw[List.length_take];omega
      by_cases J:a<o+len
      ·rw[akx,akq (by rw[Nd];exact J),List.getElem?_take_of_lt J]at hd;exact .inl ⟨J,hd⟩
      ·rw[akx,akw (by rw[Nd];omega),Nd]at hd;by_cases h2:a-(o+len)<ys.length
       ·rw[akq h2]at hd;exact .inr (.inl ⟨by omega,by omega,hd⟩)
       ·rw[akw (by omega),List.getElem?_drop,show o+len+ys.length+(a-(o+len)-ys.length)=a by omega]at hd;exact .inr (.inr ⟨by omega,hd⟩)
     ·rw[e]at hd;by_cases J:a<cs.length
      ·rw[akq J]at hd;exact .inl ⟨by omega,hd⟩
      ·rw[akw (by omega)]at hd;have:=(akg.1 hd).1;exact .inr (.inl ⟨by omega,by omega,by rw[show a-(o+len)=a-cs.length by omega];exact hd⟩)
    rcases H3 with⟨J,h2⟩|⟨J,h2,h3⟩|⟨J,h2⟩
    ·rw[if_neg (by have:=ma J iQ;omega)]at hq;exact r9 a b d x q h2 hx hq
    ·have hle:(o+len)*i.size<=a*i.size:=Nat.mul_le_mul_right _ J;have aL:a*i.size+b<(o+len+ys.length)*i.size:=ma h2 iQ;rw[Nat.add_mul (o+len)]at aL;rw[if_pos ⟨by omega,by rw[hr.len];exact aL⟩]at hq;refine hr.rel (a-(o+len)) b d x q h3 hx ?_;rw[Nat.sub_mul,show a*i.size-(o+len)*i.size+b=a*i.size+b-(o+len)*i.size by omega];exact hq
    ·have hle:(o+len+ys.length)*i.size<=a*i.size:=Nat.mul_le_mul_right _ J;rw[Nat.add_mul (o+len)]at hle;rw[if_neg (by rw[hr.len];omega)]at hq;exact r9 a b d x q h2 hx hq
   have QV:∀d∈cD,d.length=i.size:=λd hm=>by
    rcases qe with⟨_,_,e⟩|⟨_,_,_,e,_⟩
    ·rw[e]at hm;rcases akS.1 hm with hm|hm
     ·rcases akS.1 hm with hm|hm
      ·exact iX d (List.mem_of_mem_take hm)
      ·exact hr.wid d hm
     ·exact iX d (List.mem_of_mem_drop hm)
    ·rw[e]at hm;rcases akS.1 hm with hm|hm
     ·exact iX d hm
     ·exact hr.wid d hm
   rcases qe with⟨hf,eL,ec⟩|⟨e0,e1,eL,ec,ko,n6⟩
   ·have gg:cD.length=cs.length:=by rw[ec];simp;omega
    obtain⟨G',k1,k2,k3,k4,k5⟩:=QA (us:=us) (off:=(o+len)*i.size) (cD:=cD) hi hn gL r1 r2 r3 r4 r5 r6 r7 r8 lE gg QV fk;refine⟨_,_,G',dO,k1,by rw[k2];exact akr _,k3,?_⟩;refine .vec n o (len+ys.length) L' i.size (by rw[k2];exact nE) ⟨_,_,_,rfl⟩ (by rw[k5,eL,nd.1,hL];exact akr _) λ_=> ?_;rw[k4];refine⟨by omega,⟨_,_,rfl,qi,c2,by omega,λho=> ?_⟩,λho hl=> ?_⟩
    ·rw[eL]at ho ⊢;obtain⟨g2,T1,q1,q2,q3⟩:=c4 ho;exact⟨g2,T1,q1,by rw[<-q2,rA],q3⟩
    ·subst ho;rw[r2,hL,<-eL,<-hl];simp at rc;subst rc;simp
   ·subst e0;subst e1;simp only[akA,Nat.zero_mul]at*;subst rc;obtain⟨w',e9⟩:∃w',w'=w.setRow g (cur.toList.take (len*i.size)++us++cur.toList.drop (len*i.size+us.length)).toArray:=⟨_,rfl⟩;rw[<-e9]at dO;have iH:∀b,b≠g->w'.heap[b]?=w.heap[b]?:=λb hb=>by rw[e9];exact setRow_other w g b _ hb
    have nO:w'.heap[g]?=some (.cells (cur.toList.take (len*i.size)++us++cur.toList.drop (len*i.size+us.length)).toArray e (0,0)):=by rw[e9];exact setRow_heap w g cur _ e _ r4
    have ic:w'.heap.size=w.heap.size:=by rw[e9];exact Jp w g _
    obtain⟨sv,lM⟩:∃sv,sv=Value.slice (some ⟨g,0,none⟩) L' c:=⟨_,rfl⟩;have gg:cD.length=L':=by rw[ec,akh,hL,eL]
    have l4:G.fl n=len:=by rw[nd.1,hL]
    have hE:bP G.N G w (G.grow n G.S sv L' (some g)) w':=⟨by rw[ic];exact akr _,λ_ _ h=>h,λb q hs=>World.cell?_of_block (iH b (λe=>r8 q (e▸hs))),λ_ _=>rfl,λm _=>by
        by_cases em:m=n
        ·right;subst em;simp only[Gh.grow,if_true,l4];omega
        ·left;exact⟨by simp [Gh.grow,em],by simp [Gh.grow,em]⟩,gQ rfl,λb hb=>iH b (λe=>r3 (e▸hb)),by rw[e9];rfl,by rw[e9];rfl,by rw[e9];rfl,λb q hs=> .inl hs⟩
    refine⟨_,w',_,dO,hE,akr _,Ha hi hn (λ_=>rfl) (λ_=>rfl) _ _ _ _ hE (λg' rM=>by cases rM;exact⟨.inr r1,by rw[ic];exact(akv.1 r4).1⟩) (λb q hs=> .inl hs) (λb _ gV=>iH b (λe=>gV (by rw[e]))) ?_,?_⟩
    ·refine⟨by simp [Gh.grow,gg],by rw[gg];exact ko,QV, .inr ⟨g,c,_,by simp [Gh.grow],by simp [Gh.grow,lM,gg],r3,nO,by rw[gg];omega,r6,by rw[Vf _ _ _ lE];exact r7,r8,λa b d x q hd hx hq=> ?_⟩⟩;rw[XR _ _ _ _ lE]at hq;exact(fk a b d x q hd hx hq).keep hE (akr _)
    ·refine .vec n 0 (len+ys.length) L' i.size nE ⟨_,_,_,rfl⟩ (by simp [Gh.grow]) λ_=>⟨by omega,⟨_,_,rfl,qi,c2,by omega,λ_=>⟨g,c,by simp [Gh.grow,lM],by simp,by simp⟩⟩,λ_ e=> ?_⟩;simp [Gh.grow,lM,eL]
  rcases nd.2.2.2 with⟨b1,b2,A',b3⟩|⟨g,cap,cur,r1,r2,r3,r4,r5,r6,r7,r8,r9⟩
  ·
   subst b2;simp at hL;subst hL;have ho:o=0:=by omega
   have Hg:len=0:=by omega
   subst ho;subst Hg;have:=call rfl rfl;rw[b3]at this;injection this with q1 _ q2;subst q2;rcases qe with⟨hf,_,_⟩|⟨_,_,eL,ec,ko,n6⟩
   ·omega
   ·simp only[akA,List.nil_append]at eL ec;subst ec;rw[eL]at ko n6;have NP:cD.length<=9223372036854775807:=by simp only[maxLen]at ko;omega
    have hold:(Builtin.firstCells i.size 0 (.slice A 0 0)).run P w.drew= .ok ([]:ak4 ak8).toArray w.drew:=by
     cases A with
     |none=>exact run_firstCells_none _ _ _ _ _
     |some a=>exact run_firstCells_some _ _ _ _ _ _ [] (by simp) (λj u hu=>by simp at hu)
    have dO:=run_append_grow_src (P:=P) w T tx ty e i z hT kD hz A 0 0 [] hold v cD.length us hs (by omega) (by omega) (growslice_fits (by omega) (by simpa using n6));simp only[akA,List.nil_append]at dO;obtain⟨cap,jD⟩:∃cap,cap=grownCap w cD.length 0 e:=⟨_,rfl⟩;have kt:cD.length<=cap:=by rw[jD];exact grownCap_ge _ _ _ _
    have hle:cap<=maxLen:=by rw[jD];exact grownCap_le_maxLen _ _ _ _ ko
    rw[<-jD]at dO;obtain⟨cur,jZ⟩:∃cur,cur=us.toArray++Builtin.zeroCells z.cells (cap-cD.length):=⟨_,rfl⟩;rw[<-jZ]at dO;have gw:cur.size=cap*i.size:=by
      have:=size_zeroCells z.cells (cap-cD.length);rw[jZ,Array.size_append,this,List.size_toArray,hr.len,jP,<-Nat.add_mul]
      congr 1
      omega
    have fk:(w.drew.alloc (.cells cur e)).heap[w.heap.size]?=some (.cells cur e (0,0)):=World.alloc_heap_new w.drew _;have vp:∀b,b<w.heap.size->(w.drew.alloc (.cells cur e)).heap[b]?=w.heap[b]?:=λb hb=>Below.heap_alloc w.drew _ b hb;obtain⟨sv,lM⟩:∃sv,sv=Value.slice (some ⟨w.heap.size,0,none⟩) L' cap:=⟨_,rfl⟩;have l4:G.fl n=0:=by rw[nd.1];rfl
    have hE:bP G.N G w (G.grow n G.S sv L' (some w.heap.size)) (w.drew.alloc (.cells cur e)):=⟨by simp,λ_ _ h=>h,λb q hs=>World.cell?_of_block (vp b (hi.S b q hs)),λ_ _=>rfl,λm _=>by
        by_cases em:m=n
        ·right;subst em;simp only[Gh.grow,if_true,l4];omega
        ·left;exact⟨by simp [Gh.grow,em],by simp [Gh.grow,em]⟩,gQ rfl,λb hb=>vp b (hi.z b hb),rfl,rfl,rfl,λb q hs=> .inl hs⟩
    refine⟨_,_,_,dO,hE,akr _,Ha hi hn (λ_=>rfl) (λ_=>rfl) _ _ _ _ hE (λg' rM=>by cases rM;exact⟨.inl rfl,by simp⟩) (λb q hs=> .inl hs) (λb hb _=>vp b hb) ?_,?_⟩
    ·refine⟨by simp [Gh.grow,eL],ko,hr.wid, .inr ⟨w.heap.size,cap,cur,by simp [Gh.grow],by simp [Gh.grow,lM,eL],λhz=>akU _ (hi.z _ hz),fk,kt,hle,gw,λq hs=>akU _ (hi.S _ _ hs),λa b d x q hd hx hq=> ?_⟩⟩;have iQ:b<i.size:=by rw[<-hr.wid d (akt hd)];exact(akg.1 hx).1
     have aL:a*i.size+b<us.length:=by rw[hr.len];exact ma (akg.1 hd).1 iQ
     rw[jZ,Array.getElem?_append_left (by simpa using aL),List.getElem?_toArray]at hq;exact(hr.rel a b d x q hd hx hq).keep hE (akr _)
    ·rw[akA];refine .vec n 0 cD.length L' i.size nE ⟨_,_,_,rfl⟩ (by simp [Gh.grow]) λ_=>⟨by omega,⟨_,_,rfl,kt,hle,by omega,λ_=>⟨w.heap.size,cap,by simp [Gh.grow,lM],by simp,by simp⟩⟩,λ_ e=> ?_⟩;simp [Gh.grow,lM,eL]
  ·
   rcases qe with⟨hf,eL,ec⟩|⟨e0,e1,eL,ec,ko,n6⟩
   ·obtain⟨g2,T1,q1,q2,q3⟩:=c4 (by omega);rw[r2]at q1;injection q1 with q4 _ q5;cases q4
    subst q5;exact room (by omega) g cap cur r1 r2 r3 r4 r5 r6 r7 r8 r9 q2 q3
   ·have:=call e0 e1;rw[r2]at this;injection this with q2 _ q3;by_cases qi:len+ys.length<=c
    ·exact room qi g cap cur r1 r2 r3 r4 r5 r6 r7 r8 r9 (by rw[q2,e0];simp) (by omega)
    ·subst e0;subst q2;subst q3;rw[eL]at ko n6;have NP:L+ys.length<=9223372036854775807:=by simp only[maxLen]at ko;omega
     have I1:(cur.toList.take (len*i.size)).length=len*i.size:=by
      rw[List.length_take,akN,r7];exact Nat.min_eq_left (Nat.mul_le_mul_right _ c1)
     have hold:(Builtin.firstCells i.size len (.slice (some ⟨g,0,none⟩) len c)).run P w.drew= .ok (cur.toList.take (len*i.size)).toArray w.drew:=
      run_firstCells_some _ _ _ _ _ _ _ I1 (λj q hq=>by
       rw[lg,akA];show w.cell? ⟨g,j,none⟩=some q;rw[cell_of_row w g _ cur e (0,0) r4,<-akD];have zi:=(akg.1 hq).1;rw[I1]at zi;rw[List.getElem?_take_of_lt zi]at hq;exact hq)
     have dO:=run_append_grow_src (P:=P) w T tx ty e i z hT kD hz (some ⟨g,0,none⟩) len c _ hold v ys.length us hs (by omega) (by omega) (growslice_fits (by omega) (by rw[e1];exact n6));obtain⟨cap,jD⟩:∃cap,cap=grownCap w (len+ys.length) c e:=⟨_,rfl⟩;have kt:len+ys.length<=cap:=by rw[jD];exact grownCap_ge _ _ _ _
     have hle:cap<=maxLen:=by rw[jD];exact grownCap_le_maxLen _ _ _ _ (by rw[e1];exact ko)
     rw[<-jD]at dO;obtain⟨sU,jZ⟩:∃sU,sU=(cur.toList.take (len*i.size)++us).toArray++Builtin.zeroCells z.cells (cap-(len+ys.length)):=⟨_,rfl⟩;rw[<-jZ]at dO;have Iu:(cur.toList.take (len*i.size)++us).length=(len+ys.length)*i.size:=by rw[akh,I1,hr.len,<-Nat.add_mul]
     have gw:sU.size=cap*i.size:=by
      have:=size_zeroCells z.cells (cap-(len+ys.length));rw[jZ,Array.size_append,this,List.size_toArray,Iu,jP,<-Nat.add_mul]
      congr 1
      omega
     have fk:(w.drew.alloc (.cells sU e)).heap[w.heap.size]?=some (.cells sU e (0,0)):=World.alloc_heap_new w.drew _;have vp:∀b,b<w.heap.size->(w.drew.alloc (.cells sU e)).heap[b]?=w.heap[b]?:=λb hb=>Below.heap_alloc w.drew _ b hb;obtain⟨sv,lM⟩:∃sv,sv=Value.slice (some ⟨w.heap.size,0,none⟩) L' cap:=⟨_,rfl⟩;have l4:G.fl n=L:=by rw[nd.1,hL]
     have gg:cD.length=L':=by rw[ec,akh,hL,eL]
     have hE:bP G.N G w (G.grow n G.S sv L' (some w.heap.size)) (w.drew.alloc (.cells sU e)):=⟨by simp,λ_ _ h=>h,λb q hs=>World.cell?_of_block (vp b (hi.S b q hs)),λ_ _=>rfl,λm _=>by
         by_cases em:m=n
         ·right;subst em;simp only[Gh.grow,if_true,l4];omega
         ·left;exact⟨by simp [Gh.grow,em],by simp [Gh.grow,em]⟩,gQ rfl,λb hb=>vp b (hi.z b hb),rfl,rfl,rfl,λb q hs=> .inl hs⟩
     refine⟨_,_,_,dO,hE,akr _,Ha hi hn (λ_=>rfl) (λ_=>rfl) _ _ _ _ hE (λg' rM=>by cases rM;exact⟨.inl rfl,by simp⟩) (λb q hs=> .inl hs) (λb hb _=>vp b hb) ?_,?_⟩
     ·refine⟨by simp [Gh.grow,gg],by rw[gg,eL];exact ko,λd hd=> ?_, .inr ⟨w.heap.size,cap,sU,by simp [Gh.grow],by simp [Gh.grow,lM,gg],λhz=>akU _ (hi.z _ hz),fk,by rw[gg];omega,hle,gw,λq hs=>akU _ (hi.S _ _ hs),λa b d x q hd hx hq=> ?_⟩⟩
      ·rw[ec]at hd;rcases akS.1 hd with hd|hd
       ·exact iX d hd
       ·exact hr.wid d hd
      ·refine aD.keep hE (akr _) ?_;have JN:d.length=i.size:=by
        have hm:=akt hd;rw[ec]at hm;rcases akS.1 hm with hm|hm
        ·exact iX d hm
        ·exact hr.wid d hm
       have iQ:b<i.size:=by rw[<-JN];exact(akg.1 hx).1
       have hal:a<len+ys.length:=by
        have:=(akg.1 hd).1;rw[gg,eL]at this;omega
       have aL:a*i.size+b<(cur.toList.take (len*i.size)++us).length:=by rw[Iu];exact ma hal iQ
       rw[jZ,Array.getElem?_append_left (by simpa using aL),List.getElem?_toArray,ahd _ us len a b I1 iQ]at hq;rw[ec]at hd;by_cases J:a<len
       ·rw[if_pos J,List.getElem?_take_of_lt (ma J iQ),akD]at hq;rw[akq (by omega)]at hd;exact r9 a b d x q hd hx hq
       ·rw[if_neg J]at hq;rw[akw (by omega)]at hd;exact hr.rel (a-len) b d x q (by rw[<-hd];congr 1;omega) hx hq
     ·refine .vec n 0 (len+ys.length) L' i.size nE ⟨_,_,_,rfl⟩ (by simp [Gh.grow]) λ_=>⟨by omega,⟨_,_,rfl,kt,hle,by omega,λ_=>⟨w.heap.size,cap,by simp [Gh.grow,lM],by simp,by simp⟩⟩,λ_ e=> ?_⟩;simp [Gh.grow,lM,eL,e1]
theorem S7{T tx ty e k de:Nat}{i:TypeInfo}{z:ak8}{A:ak6 Addr}{v:ak8}{ys:ak4 (ak4 AV)}{us:ak4 ak8}(hi:bU G w h)(hT:P.underlying T=some (.slice e))(kD:P.info? e=some i)(hz:i.zero=some z)(mZ:i.size=k)(ub:i.bytes=de)(jP:z.cells.size=k)(gL:0<k)
 (hr:ze G w k ys us) (hs:Src P k tx v ys.length us w) (ko:ys.length<=maxLen) (n6:ys.length*de<=140737488355328):
 ∃r w' G',(Builtin.append_ #[T,tx] ty #[.slice A 0 0,v]).run P w= .ok r w'/\bP G.N G w G' w'/\G.N<=G'.N/\bU G' w' (h++[.vec e k ys])/\aD G' w' r (.vec h.length 0 ys.length ys.length k):=by
 subst mZ;subst ub;by_cases hy:ys.length=0
 ·have jo:ys=[]:=List.eq_nil_of_length_eq_zero hy;subst jo;have lY:us=[]:=List.eq_nil_of_length_eq_zero (by rw[hr.len];simp);subst lY;have dO:=run_append_nothing (P:=P) w T tx ty e i hT kD A 0 0 (akr _) v hs;obtain⟨hE,hI⟩:=Pf (w':=w) hi (.vec e i.size []) (λ_ _=>rfl) (.slice A 0 0) 0 none ⟨λ_ _=>rfl,akr _,rfl,rfl,rfl⟩ (λg hg=>by cases hg) ⟨by simp [Gh.fb],by simp,(λ_ h=>by cases h), .inl ⟨by simp [Gh.fb],rfl,A,by simp [Gh.fb]⟩⟩;refine⟨_,w,_,dO,hE,Nat.le_succ _,hI,?_⟩;rw[hi.len];exact .vec G.N 0 0 0 i.size (by simp [Gh.fb]) ⟨_,_,_,rfl⟩ (by simp) λ_=>⟨by omega,⟨A,0,rfl,akr _,Nat.zero_le _,by omega,λh=>by omega⟩,λ_ _=>by simp [Gh.fb]⟩
 ·have NP:ys.length<=9223372036854775807:=by simp only[maxLen]at ko;omega
  have hold:(Builtin.firstCells i.size 0 (.slice A 0 0)).run P w.drew= .ok ([]:ak4 ak8).toArray w.drew:=by
   cases A with
   |none=>exact run_firstCells_none _ _ _ _ _
   |some a=>exact run_firstCells_some _ _ _ _ _ _ [] (by simp) (λj u hu=>by simp at hu)
  have dO:=run_append_grow_src (P:=P) w T tx ty e i z hT kD hz A 0 0 [] hold v ys.length us hs (by omega) (by omega) (growslice_fits (by omega) (by simpa using n6));simp only[akA,List.nil_append]at dO;obtain⟨cap,jD⟩:∃cap,cap=grownCap w ys.length 0 e:=⟨_,rfl⟩;have kt:ys.length<=cap:=by rw[jD];exact grownCap_ge _ _ _ _
  have hle:cap<=maxLen:=by rw[jD];exact grownCap_le_maxLen _ _ _ _ ko
  rw[<-jD]at dO;obtain⟨cur,jZ⟩:∃cur,cur=us.toArray++Builtin.zeroCells z.cells (cap-ys.length):=⟨_,rfl⟩;rw[<-jZ]at dO;have gw:cur.size=cap*i.size:=by
    have:=size_zeroCells z.cells (cap-ys.length);rw[jZ,Array.size_append,this,List.size_toArray,hr.len,jP,<-Nat.add_mul]
    congr 1
    omega
  obtain⟨G',g1,g2,g3,g4⟩:=LL (e:=e) (k:=i.size) (cap:=cap) (cs:=ys) (cur:=cur) hi kt hle gw hr.wid w.drew ⟨rfl,rfl,rfl,rfl⟩ (λa b d x q hd hx hq=>by
   have iQ:b<i.size:=by rw[<-hr.wid d (akt hd)];exact(akg.1 hx).1
   have aL:a*i.size+b<us.length:=by rw[hr.len];exact ma (akg.1 hd).1 iQ
   rw[jZ,Array.getElem?_append_left (by simpa using aL),List.getElem?_toArray]at hq;exact hr.rel a b d x q hd hx hq)
  exact⟨_,_,G',dO,g1,g2,g3,g4 _ (akr _)⟩
end
theorem MV:∀(cs:ak4 AV)(l:ak4 fp),AV.vG cs=some l->cs.length=l.length/\∀(i:Nat)(x:AV)(c:fp),cs[i]?=some x->l[i]?=some c->x.cap=some c
 |[],l,h=>by
  unfold AV.vG at h;cases h;exact⟨rfl,λi x c hx=>by simp at hx⟩
 |x::cs,l,h=>by
  unfold AV.vG at h;split at h
  ·next c l' e1 e2=>
   cases h
   obtain⟨J,h2⟩:=MV cs l' e2;refine⟨by simp [J],λi y d hy hd=> ?_⟩
   match i with
   |0=>simp only[List.getElem?_cons_zero,Option.some.injEq]at hy hd;subst hy;subst hd;exact e1
   |i+1=>exact h2 i y d (by simpa using hy) (by simpa using hd)
  ·cases h
theorem aD.cap{G:Gh}{w:ak9}{u:ak8}{x:AV}(h:aD G w u x):∀c,x.cap=some c->m4 G.S w u c:=by
 induction h with
 |d h=>intro c hc;simp only[AV.cap]at hc;cases hc;exact .d h
 |own n xs h hp hle hf=>intro c hc;simp only[AV.cap]at hc;cases hc;exact .d hp
 |full xs hp hf=>intro c hc;simp only[AV.cap]at hc;cases hc;exact .d hp
 |bn xs i off b o u x hx hS hu=>
  intro c hc;simp only[AV.cap,hx]at hc;cases hc
  exact .bn x off b o u hS hu
 |fn f vs cs hl h ih=>
  intro c hc;simp only[AV.cap]at hc;split at hc
  ·next l e=>
   cases hc
   obtain⟨J,h2⟩:=MV cs l e;refine .fn f vs l (hl.trans J) λi v d hv hd=> ?_;have aL:i<cs.length:=by rw[J];exact(akg.1 hd).1
   exact ih i v _ hv (akk aL) d (h2 i _ d (akk aL) hd)
  ·cases hc
 |hid h J=>intro c hc;simp only[AV.cap]at hc;cases hc;exact h
 |agg=>intro c hc;simp [AV.cap]at hc
 |aW=>intro c hc;simp [AV.cap]at hc
 |ptr=>intro c hc;simp [AV.cap]at hc
 |row=>intro c hc;simp [AV.cap]at hc
 |mp=>intro c hc;simp [AV.cap]at hc
 |cp=>intro c hc;simp [AV.cap]at hc
 |vec=>intro c hc;simp [AV.cap]at hc
 |dF=>intro c hc;simp [AV.cap]at hc
 |dead=>intro c hc;simp [AV.cap]at hc
section
variable {P:ak7} {r:ak6 Nat} {n N0:Nat} {G:Gh} {w:ak9} {a:Act} {s:St} {o:Oper} {K:St->Prop} {Q:Exit->Act->ak9->Prop}
theorem uO(hs:db G w a s)(l:Array Operand):(l.map a.eval).size=(l.toList.map (ev s)).length/\∀(i:Nat)(u:ak8)(c:AV),(l.map a.eval)[i]?=some u->(l.toList.map (ev s))[i]?=some c->aD G w u c:=by
 refine⟨by simp,λi u c hu hc=> ?_⟩;rw[Array.getElem?_map]at hu;rw[akn,akD]at hc;cases hx:l[i]? with
 |none=>rw[hx]at hu;cases hu
 |some x=>rw[hx]at hu hc;cases hu;cases hc;exact hs.ev x
theorem Ro(hs:db G w a s)(l:Array (Nat×Operand)):(l.map λ(i,x)=>(i,a.eval x)).toList.length=(l.toList.map λp=>(p.1,ev s p.2)).length/\
 ∀(i:Nat)(p:Nat×AV)(q:Nat×ak8),(l.toList.map λp=>(p.1,ev s p.2))[i]?=some p->(l.map λ(i,x)=>(i,a.eval x)).toList[i]?=some q->q.1=p.1/\aD G w q.2 p.2:=by
 refine⟨by simp,λi p q hp hq=> ?_⟩;rw[akD,Array.getElem?_map]at hq;rw[akn,akD]at hp;cases hx:l[i]? with
 |none=>rw[hx]at hp;cases hp
 |some x=>rw[hx]at hp hq;cases hp;cases hq;exact⟨rfl,hs.ev x.2⟩
theorem A5{x y:Operand}{T U:TypeId}(c:Call)(hc:c.callee= .builtin .append)(J:c.args.toList=[x,y])(h2:c.argTypes.toList=[T,U])(ho:o.op= .call c):
 (execOp a.eval o).run P w=((Builtin.append_ #[T,U] o.type #[a.eval x,a.eval y]).run P w).andThen λv w'=> .ok (.value v) w':=by
 have e1:c.args= #[x,y]:=by rw[<-Array.toList_inj];exact J
 have e2:c.argTypes= #[T,U]:=by rw[<-Array.toList_inj];exact h2
 unfold execOp;simp only[ho,resolve,hc,e1,e2,invoke,builtin,Sem.run_bind,Sem.run_pure,Result.andThen_ok,List.map_toArray,akF,List.map_nil]
theorem Wn{x:Operand}{T:TypeId}(c:Call)(hc:c.callee= .builtin .len)(J:c.args.toList=[x])(h2:c.argTypes.toList=[T])(ho:o.op= .call c):
 (execOp a.eval o).run P w=((Builtin.len_ #[T] o.type #[a.eval x]).run P w).andThen λv w'=> .ok (.value v) w':=by
 have e1:c.args= #[x]:=by rw[<-Array.toList_inj];exact J
 have e2:c.argTypes= #[T]:=by rw[<-Array.toList_inj];exact h2
 unfold execOp;simp only[ho,resolve,hc,e1,e2,invoke,builtin,Sem.run_bind,Sem.run_pure,Result.andThen_ok,List.map_toArray,akF,List.map_nil]
theorem ach(c:Call)(hc:c.callee= .builtin .max)(ho:o.op= .call c):
 (execOp a.eval o).run P w=((Builtin.max_ c.argTypes o.type (c.args.map a.eval)).run P w).andThen λv w'=> .ok (.value v) w':=by
 unfold execOp;simp only[ho,resolve,hc,invoke,builtin,Sem.run_bind,Sem.run_pure,Result.andThen_ok]
theorem ZW(c:Call)(hc:c.callee= .builtin .min)(ho:o.op= .call c):
 (execOp a.eval o).run P w=((Builtin.min_ c.argTypes o.type (c.args.map a.eval)).run P w).andThen λv w'=> .ok (.value v) w':=by
 unfold execOp;simp only[ho,resolve,hc,invoke,builtin,Sem.run_bind,Sem.run_pure,Result.andThen_ok]
theorem PU{mx:Bool}{k k':IntKind}{z:Int}:∀(l:ak4 AV)(vs:ak4 ak8)(x:Int),vs.length=l.length->(∀(i:Nat)(u:ak8)(c:AV),vs[i]?=some u->l[i]?=some c->aD G w u c)->Hc mx k x l=some (k',z)->
 (vs.foldlM (if mx then Builtin.max2 else Builtin.min2) (.int k x)).run P w= .ok (.int k' z) w
 |[],[],x,_,_,h=>by cases h;simp
 |[],_::_,_,hl,_,_=>by simp at hl
 |_::_,[],_,hl,_,_=>by simp at hl
 |y::l,u::vs,x,hl,hr,h=>by
  unfold Hc at h;split at h
  ·next e=>cases e
  ·next k2 b l' e=>
   cases e
   have e1:=(hr 0 u _ rfl rfl).val;subst e1;have ih:=PU l vs _ (by simpa using hl) (λi u c hu hc=>hr (i+1) u c (by simpa using hu) (by simpa using hc)) h;rw[List.foldlM_cons,Sem.run_bind];cases mx with
   |true=>simp only[if_true,cond_true]at ih ⊢;simp only[Builtin.max2,Sem.run_pure,Result.andThen_ok];exact ih
   |false=>simp only[Bool.false_eq_true,if_false,cond_false]at ih ⊢;simp only[Builtin.min2,Sem.run_pure,Result.andThen_ok];exact ih
  ·cases h
theorem Pq{mx:Bool}{k:IntKind}{z:Int}{l:ak4 AV}{vs:Array ak8}(hl:vs.size=l.length)(hr:∀(i:Nat)(u:ak8)(c:AV),vs[i]?=some u->l[i]?=some c->aD G w u c)(h:Ab mx l=some (k,z)):
 ∃u us,vs.toList=u::us/\(us.foldlM (if mx then Builtin.max2 else Builtin.min2) u).run P w= .ok (.int k z) w:=by
 unfold Ab at h;split at h
 ·next k2 x l'=>
  cases hv:vs.toList with
  |nil=>rw[<-akN,hv]at hl;simp at hl
  |cons u us=>
   refine⟨u,us,rfl,?_⟩;have oa:∀(i:Nat)(v:ak8)(c:AV),(u::us)[i]?=some v->(AV.d (.v (.int k2 x))::l')[i]?=some c->aD G w v c:=λi v c J h2=>hr i v c (by rw[<-akD,hv];exact J) h2;have e1:=(oa 0 u _ rfl rfl).val;subst e1;refine PU l' us x ?_ (λi v c J h2=>oa (i+1) v c (by simpa using J) (by simpa using h2)) h;rw[<-akN,hv]at hl;simpa using hl
 ·cases h
theorem OF{f:FuncId}(h:GD P f=true)(args:Array ak8)(w:ak9):(callFunc f args).run P w= .ok (.enter f args) w:=by
 unfold GD at h;cases hq:P.funcs[f]? with
 |none=>rw[hq]at h;simp at h
 |some fn=>
  rw[hq]at h;simp only[aki,Bool.not_eq_true']at h;obtain⟨J,h2⟩:=h;have h3:fn.body≠none:=by intro e;rw[e]at J;cases J
  have h4:fn.name≠ "runtime.NumGoroutine" :=by simpa using h2
  simp [callFunc,hq,h4,h3]
theorem Z6(hs:db G w a s)(cw:N0<=G.N){x:AV}{h':ak4 ao}{p:Sd}(hx:oc P o.op (ev s) s.h=some (x,h',p))(hp:p.ok)(hK:K ((s.wh h').put o.dst x)):o.wpIn (WF r) n P a w (iv N0 G w K) Q:=by
 have du:=hs.ev;unfold oc at hx;split at hx
 next T ho=>
  split at hx
  ·next q hT=>
   cases hx
   obtain⟨i1,i2,i3⟩:=ae7 hs.inv;exact lW (by rw[ho];simp) hs cw (v:= .map (some w.heap.size)) (by unfold execOp;simp [ho,run_makeMap,Result.andThen]) i1 (Nat.le_succ _) i2 i3 hK
  ·cases hx
 next T m i ok ho=>
  split at hx
  ·next k e hT=>
   split at hx
   ·next z hz=>
    split at hx
    ·next b s' hm hi=>
     split at hx
     ·next kv hn=>
      cases hc:gZ P k with
      |false=>rw[hc]at hx;cases hx
      |true=>
       rw[hc]at hx;cases hx
       obtain⟨v,r1,r2⟩:=agM (ok:=ok) (s:=s') hs.inv hT hz hc hn;have e1:=du m;rw[hm]at e1;have e2:=du i;rw[hi]at e2;have e2:=e2.val;have Kz:a.eval m= .map (some (G.aM b)):=by
        generalize a.eval m=u at e1;cases e1 with|mp _ _=>rfl
       exact fx (by rw[ho];simp) hs cw (by unfold execOp;simp [ho,Kz,e2,r1,Result.andThen]) r2 hK
     ·cases hx
    ·cases hx
   ·cases hx
  ·cases hx
 next T m i y ho=>
  split at hx
  ·next k e hT=>
   split at hx
   ·next b s' d hm hi hd=>
    split at hx
    ·next kv hn=>
     cases hc:gZ P k with
     |false=>rw[hc]at hx;cases hx
     |true=>
      rw[hc]at hx;cases hx
      obtain⟨w',r1,r2,r3⟩:=aen (s:=s') hs.inv hT hc hn ((du y).toM hd) hp;have e1:=du m;rw[hm]at e1;have e2:=du i;rw[hi]at e2;have e2:=e2.val;have Kz:a.eval m= .map (some (G.aM b)):=by
       generalize a.eval m=u at e1;cases e1 with|mp _ _=>rfl
      exact J4 (by rw[ho];simp) hs cw (by unfold execOp;simp [ho,Kz,e2,r1,Result.andThen]) r2 (akr _) r3 hK
    ·cases hx
   ·cases hx
  ·cases hx
 next=>cases hx
theorem PB(hs:db G w a s)(cw:N0<=G.N)(h:pZ P o K s):o.wpIn (WF r) n P a w (iv N0 G w K) Q:=by
 have du:=hs.ev;unfold pZ cT at h;split at h
 next x ho=>exact fx (by rw[ho];simp) hs cw (v:=a.eval x) (by unfold execOp;rw[ho];rfl) (du x) h
 next x ho=>exact fx (by rw[ho];simp) hs cw (v:=a.eval x) (by unfold execOp;rw[ho];rfl) (du x) h
 next c x y ho=>
  split at h
  next t hc=>
   have hb:=du c;rw[hc]at hb;have e:=hb.bool;cases t with
   |true=>exact fx (by rw[ho];simp) hs cw (v:=a.eval x) (by unfold execOp;simp [ho,e,asBool]) (du x) (h.1 rfl)
   |false=>exact fx (by rw[ho];simp) hs cw (v:=a.eval y) (by unfold execOp;simp [ho,e,asBool]) (du y) (h.2 rfl)
  next=>exact h.elim
 next e ho=>
  split at h
  next z hz=>
   obtain⟨i1,i2⟩:=Td hs.inv z.cells e (z.cells.toList.map λu=> .d (.v u)) (by simp) (λi u c hu hc=>by
    rw[akn,akD,hu]at hc;cases hc;exact .d (.v u))
   exact lW (by rw[ho];simp) hs cw (by unfold execOp;simp [ho,Instr.alloc,BD hz,newVar,newRow]) (rB G w hs.inv.z hs.inv.S _) (Nat.le_succ _) i1 i2 h
  next=>exact h.elim
 next e x ho=>
  obtain⟨hb,hK⟩:=bV.1 h;have hr:=(du x).R0 hb;obtain⟨i1,i2⟩:=Td hs.inv (a.eval x).cells e (ev s x).cells hr.len hr.rel;exact lW (by rw[ho];simp) hs cw (by unfold execOp;simp [ho,Instr.box,newVar,newRow]) (rB G w hs.inv.z hs.inv.S _) (Nat.le_succ _) i1 i2 hK
 next t x ho=>
  obtain⟨u,y,J,h2,h3⟩:=Xt hs.inv (du x) h;exact fx (by rw[ho];simp) hs cw (by unfold execOp;simp [ho,J]) h2 h3
 next t x y ho=>
  unfold wG at h;split at h
  next m off hm=>
   split at h
   next cs gw=>
    split at h
    case h_2=>exact h.elim
    rename_i k hk
    obtain⟨fD,h4⟩:=bV.1 h;simp only[aki,beq_iff_eq,dy]at fD;obtain⟨⟨rfl,h2⟩,h3⟩:=fD;have J:=hk;have hx:=du x;rw[hm]at hx;obtain⟨w',r1,r2,r3⟩:=ahn (P:=P) hs.inv gw (du y) h2 J h3;have ex:a.eval x= .pointer (some ⟨G.aM m,off,none⟩):=by
     generalize a.eval x=u at hx;cases hx with
     |ptr=>rfl
    exact J4 (by rw[ho];simp) hs cw (by unfold execOp;simp [ho,Instr.storeAt,Instr.sureAddr,ex,r1]) r2 (akr _) r3 h4
   next=>exact h.elim
  next=>exact h.elim
 next x ho=>
  have hx:=du x;split at h
  next m off hm=>
   rw[hm]at hx;generalize ea:a.eval x=u at hx;cases hx with
   |ptr _ _ tX=>exact fx (by rw[ho];simp) hs cw (by unfold execOp;simp [ho,ea]) (.ptr m off tX) h
  next xs i off hm=>
   rw[hm]at hx;generalize ea:a.eval x=u at hx;have zp:=hx;cases hx with
   |bn=>exact fx (by rw[ho];simp) hs cw (by unfold execOp;simp [ho,ea]) zp h
  next f cs hm=>
   rw[hm]at hx;generalize ea:a.eval x=u at hx;have zp:=hx;cases hx with
   |fn=>exact fx (by rw[ho];simp) hs cw (by unfold execOp;simp [ho,ea]) zp h
  next=>exact h.elim
 next T x f ho=>
  split at h
  next fo k g hT=>
   have hx:=du x;split at h
   next m off hm=>
    rw[hm]at hx;generalize ea:a.eval x=u at hx;cases hx with
    |ptr _ _ tX=>exact fx (by rw[ho];simp) hs cw (by unfold execOp;simp [ho,ea,LF hT]) (.ptr m (off+fo) tX) h
   next xs i off hm=>
    rw[hm]at hx;generalize ea:a.eval x=u at hx;cases hx with
    |bn _ _ _ b oo us c hx hS hu=>exact fx (by rw[ho];simp) hs cw (by unfold execOp;simp [ho,ea,LF hT];rfl) (by rw[Nat.add_assoc];exact .bn xs i (off+fo) b oo us c hx hS hu) h
   next=>exact h.elim
  next=>exact h.elim
 next T x f ho=>
  obtain⟨u,y,J,h2,h3⟩:=ahi (du x) h;exact fx (by rw[ho];simp) hs cw (by unfold execOp;simp [ho,J]) h2 h3
 next T x i ho=>
  obtain⟨u,y,J,h2,h3⟩:=afQ (du x) (du i) h;exact fx (by rw[ho];simp) hs cw (by unfold execOp;simp [ho,J]) h2 h3
 next T x i ho=>
  split at h
  next b z hb hz=>
   obtain⟨hT,h0,h⟩:=bV.1 h;have hT:=qQ hT;have hx:=du x;rw[hb]at hx;have ex:=hx.val;obtain⟨k,ei⟩:=(du i).int hz;split at h
   next c hc=>
    refine fx (by rw[ho];simp) hs cw (v:= .int .u8 c.toNat) ?_ (.d (.v _)) h;unfold execOp;simp [ho,Instr.index,ex,ei,asIntOf,run_underlying hT,h0,hc]
   next=>exact h.elim
  next=>exact h.elim
 next T ps ho=>
  obtain⟨p1,p2⟩:=Ro hs ps;obtain⟨u,y,J,h2,h3⟩:=ahS p1 p2 h;exact fx (by rw[ho];simp) hs cw (by unfold execOp;simp only[ho,Sem.run_bind,J];rfl) h2 h3
 next T len ps ho=>
  obtain⟨p1,p2⟩:=Ro hs ps;obtain⟨u,w',G',y,J,h2,h3,h4,h5,h6⟩:=adz (T:=T) hs.inv p1 p2 h;exact lW (by rw[ho];simp) hs cw (by unfold execOp;simp only[ho,Sem.run_bind,J];rfl) h2 h3 h4 h5 h6
 next T x lo hi mx ho=>
  obtain⟨u,y,J,h2,h3⟩:=Zw hs (du x) h;exact fx (by rw[ho];simp) hs cw (by unfold execOp;simp [ho,J]) h2 h3
 next x i ho=>
  have hx:=du x;split at h
  next cs gw=>
   rw[gw]at hx;generalize ea:a.eval x=u at hx;split at h
   next c hc=>
    cases hx with
    |aW vs _ hl hr=>
     have aL:i<vs.size:=by rw[hl];exact(akg.1 hc).1
     exact fx (by rw[ho];simp) hs cw (v:=vs[i]) (by unfold execOp;simp [ho,ea,Instr.extract,aL]) (hr i _ c (akC aL) hc) h
   next=>exact h.elim
  next=>exact h.elim
 next f first di ho=>
  split at h
  ·next x hx=>
   unfold LR at hx;split at hx
   ·next e1=>
    cases hx
    have aha:first= #[]:=by
     rw[<-Array.toList_inj];exact List.map_eq_nil_iff.1 e1
    subst aha;obtain⟨p1,p2⟩:=uO hs di;exact fx (by rw[ho];simp) hs cw (v:= .func (.func f) #[] (di.map a.eval)) (by unfold execOp;simp [ho,Instr.makeFunc]) (.fn f _ _ p1 p2) h
   ·split at hx
    ·next cs e1 e2=>
     cases hx
     have abE:di= #[]:=by
      rw[<-Array.toList_inj];exact List.map_eq_nil_iff.1 e2
     subst abE;obtain⟨p1,p2⟩:=uO hs first
     obtain⟨c1,c2⟩:=MV _ _ e1;exact fx (by rw[ho];simp) hs cw (v:= .func (.func f) (first.map a.eval) #[]) (by unfold execOp;simp [ho,Instr.makeFunc]) (.hid (.m7 f _ _ (p1.trans c1) λi u c hu hc=>by
      have aL:i<(first.toList.map (ev s)).length:=by rw[c1];exact(akg.1 hc).1
      exact(p2 i u _ hu (akk aL)).cap c (c2 i _ c (akk aL) hc)) rfl) h
    ·cases hx
  ·exact h.elim
 next op T x y U ho=>
  obtain⟨u,z,J,h2,h3⟩:=Y1 (X:=x) (Y:=y) (du x) (du y) h;refine fx (by rw[ho];simp) hs cw ?_ h2 h3;unfold execOp;simp only[ho];rw[Sem.run_bind,J];rfl
 next op T x ho=>
  obtain⟨u,z,J,h2,h3⟩:=aik (P:=P) (du x) h;exact fx (by rw[ho];simp) hs cw (by unfold execOp;simp [ho,J]) h2 h3
 next t u x ho=>
  obtain⟨u,z,J,h2,h3⟩:=ae0 (du x) h;exact fx (by rw[ho];simp) hs cw (by unfold execOp;simp [ho,J]) h2 h3
 next c ho=>
  have jz:∀c,o.op≠ .defer c:=by rw[ho];simp
  split at h
  next hc=>
   split at h
   next x T J h2=>
    obtain⟨m,r1,r2⟩:=aa3 (ty:=o.type) (du x) h;exact fx jz hs cw (by rw[Wn c hc J h2 ho,r1];rfl) (.d (.v _)) r2
   next=>exact h.elim
  next hc=>
   split at h
   next x y T U J h2=>
    obtain⟨hU,h⟩:=bV.1 h;obtain⟨⟨e',k'⟩,hU⟩:=Option.isSome_iff_exists.1 hU;obtain⟨p,w',G',q,h',r1,r2,r3,r4,r5,r6⟩:=abZ (ty:=o.type) hs.inv (du x) (du y) (jB hU).1 h;exact lW jz hs cw (by rw[A5 c hc J h2 ho,r1];rfl) r2 r3 r4 r5 r6
   next=>exact h.elim
  next hc=>
   split at h
   next k z hf=>
    obtain⟨p1,p2⟩:=uO hs c.args;obtain⟨u,us,e1,e2⟩:=Pq (P:=P) p1 p2 hf;refine fx jz hs cw (v:= .int k z) ?_ (.d (.v _)) h;rw[ach c hc ho];unfold Builtin.max_;rw[e1];simp only[if_true]at e2;rw[e2];rfl
   next=>exact h.elim
  next hc=>
   split at h
   next k z hf=>
    obtain⟨p1,p2⟩:=uO hs c.args;obtain⟨u,us,e1,e2⟩:=Pq (P:=P) p1 p2 hf;refine fx jz hs cw (v:= .int k z) ?_ (.d (.v _)) h;rw[ZW c hc ho];unfold Builtin.min_;rw[e1];simp only[Bool.false_eq_true,if_false]at e2;rw[e2];rfl
   next=>exact h.elim
  next f hc=>
   have call:∀(g:FuncId)(di:ak4 AV)(vs:Array ak8),a.eval f= .func (.func g) #[] vs->vs.size=di.length->(∀(i:Nat)(u:ak8)(c:AV),vs[i]?=some u->di[i]?=some c->aD G w u c)->
       cZ P g (c.args.toList.map (ev s)++di) s.h (λr h'=>K ((s.wh h').put o.dst r))->o.wpIn (WF r) n P a w (iv N0 G w K) Q:=by
       intro g di vs ea hl hr h;obtain⟨p1,p2⟩:=uO hs c.args;obtain⟨CS,ji⟩:=h;have qK:=ji G w (c.args.map a.eval++vs) hs.inv (by rw[Array.size_append,akh,p1,hl]) (λi u x hu hx=>by
        by_cases hi:i<(c.args.map a.eval).size
        ·rw[Array.getElem?_append_left hi]at hu;rw[akq (by rw[<-p1];exact hi)]at hx;exact p2 i u x hu hx
        ·rw[Array.getElem?_append_right (by omega)]at hu;rw[akw (by rw[<-p1];omega)]at hx;rw[p1]at hu;exact hr _ u x hu hx)
       refine⟨λ_ _=>trivial,?_⟩;have dO:(o.semAt (WF r).round a.eval).run P w= .ok (.enter g (c.args.map a.eval++vs)) w:=by
        rw[Oper.semAt_eq _ _ _ jz];unfold execOp;simp only[ho,resolve,hc,ea];simp [Deferred.ofValue,invoke,OF CS]
       rw[dO];refine⟨λh=>(by simp [WF,Fence.wide]at h),?_⟩;have h2:=callsIn_wide (n:=n-1).2 qK;refine CallsIn.mono (F:=WF r) h2 ?_;rintro e w' ⟨v,G',x,h',rfl,x1,x2,x3,x4,x5⟩;exact⟨G',_,x1.less cw,aky cw x2,(hs.move x1 x2 x3).put x4 o.dst,x5⟩
   have Z2:∀(g:FuncId)(di:ak4 AV)(vs:Array ak8),a.eval f= .func (.func g) vs #[]->vs.size=di.length->(∀(i:Nat)(u:ak8)(c:AV),vs[i]?=some u->di[i]?=some c->aD G w u c)->
       cZ P g (di++c.args.toList.map (ev s)) s.h (λr h'=>K ((s.wh h').put o.dst r))->o.wpIn (WF r) n P a w (iv N0 G w K) Q:=by
       intro g di vs ea hl hr h;obtain⟨p1,p2⟩:=uO hs c.args;obtain⟨CS,ji⟩:=h;have qK:=ji G w (vs++c.args.map a.eval) hs.inv (by rw[Array.size_append,akh,p1,hl]) (λi u x hu hx=>by
        by_cases hi:i<vs.size
        ·rw[Array.getElem?_append_left hi]at hu;rw[akq (by rw[<-hl];exact hi)]at hx;exact hr i u x hu hx
        ·rw[Array.getElem?_append_right (by omega)]at hu;rw[akw (by rw[<-hl];omega)]at hx;rw[hl]at hu;exact p2 _ u x hu hx)
       refine⟨λ_ _=>trivial,?_⟩;have dO:(o.semAt (WF r).round a.eval).run P w= .ok (.enter g (vs++c.args.map a.eval)) w:=by
        rw[Oper.semAt_eq _ _ _ jz];unfold execOp;simp only[ho,resolve,hc,ea];simp [Deferred.ofValue,invoke,OF CS]
       rw[dO];refine⟨λh=>(by simp [WF,Fence.wide]at h),?_⟩;have h2:=callsIn_wide (n:=n-1).2 qK;refine CallsIn.mono (F:=WF r) h2 ?_;rintro e w' ⟨v,G',x,h',rfl,x1,x2,x3,x4,x5⟩;exact⟨G',_,x1.less cw,aky cw x2,(hs.move x1 x2 x3).put x4 o.dst,x5⟩
   split at h
   next g di hg=>
    have hf:=du f;rw[hg]at hf;generalize ea:a.eval f=u at hf;cases hf with
    |fn _ vs _ hl hr=>exact call g di vs ea hl hr h
   next q hg=>
    obtain⟨g,as,eq,h⟩:=h;have hf:=du f;rw[hg]at hf;generalize ea:a.eval f=u at hf;cases hf with
    |hid hq J=>
     cases hq with
     |d _=>simp [fp.app]at eq
     |bn _ _ _ _ _ _ _=>simp [fp.app]at eq
     |m7 g0 vs cs hl hr=>
      simp only[fp.app,Option.some.injEq,Prod.mk.injEq]at eq;obtain⟨rfl,rfl⟩:=eq;exact Z2 _ (cs.map fp.av) vs ea (by rw[akl];exact hl) (λi u c hu hc=>by
       rw[akn]at hc;cases hx:cs[i]? with
       |none=>rw[hx]at hc;cases hc
       |some d=>rw[hx]at hc;cases hc;exact(hr i u d hu hx).av) h
     |fn g0 vs cs hl hr=>
      simp only[fp.app,Option.some.injEq,Prod.mk.injEq]at eq;obtain⟨rfl,rfl⟩:=eq;exact call _ (cs.map fp.av) vs ea (by rw[akl];exact hl) (λi u c hu hc=>by
       rw[akn]at hc;cases hx:cs[i]? with
       |none=>rw[hx]at hc;cases hc
       |some d=>rw[hx]at hc;cases hc;exact(hr i u d hu hx).av) h
   next=>exact h.elim
  next=>exact h.elim
 next op _=>
  split at h
  next x h' p hx=>exact Z6 hs cw hx h.1 h.2
  next=>exact h.elim
theorem MU(hs:db G w a s){x:ak6 Operand}{d:Nat}{z:Int}(h:rZ (ev s) d x=some z)(h0:0<=z):Aa a x d z.toNat:=by
 cases x with
 |none=>
  simp only[rZ,Option.some.injEq]at h;subst h;show _=d;exact akH d
 |some y=>
  simp only[rZ]at h;obtain⟨k,e⟩:=(hs.ev y).int h;exact⟨k,z,e,h0,rfl⟩
theorem lH{α:Type}{b:Bool}{x y:α}(h:(bif b then some x else none)=some y):b=true/\x=y:=by
 cases b with
 |true=>exact⟨rfl,akz h⟩
 |false=>cases h
theorem ae1{α:Type}{b:Bool}{x:ak6 α}{y:α}(h:(bif b then x else none)=some y):b=true/\x=some y:=by
 cases b with
 |true=>exact⟨rfl,h⟩
 |false=>cases h
theorem UC(hs:db G w a s)(cw:N0<=G.N)(h:FD P o K s):o.wpIn (WF r) n P a w (iv N0 G w K) Q:=by
 obtain⟨va,x,h',p,hx,hp,hK⟩:=h;have du:=hs.ev;unfold ia at hx;split at hx
 next T y i ho=>
  split at hx
  ·next n' o' len L k z e k' i' e1 e2 e3=>
   split at hx
   ·next e4 k2 cs hn=>
    obtain⟨hb,he⟩:=lH hx;cases he
    rw[aki,beq_iff_eq,beq_iff_eq]at hb;obtain⟨rfl,rfl⟩:=hb;obtain⟨hL,h0,aL,rfl⟩:=hp;obtain⟨fI,fP⟩:=jB e3;obtain⟨kz,ez⟩:=(du i).int e2;have hv:=du y;rw[e1]at hv;have ln:=hv.rY hs.inv hn hL;obtain⟨xZ,⟨A,c,q1,q2,q3,q4,q5⟩,_⟩:=ln;obtain⟨g,cap,s1,rfl,s3⟩:=q5 (by omega);have N3:z<(len:Int):=aL;refine fx (by rw[ho];simp) hs cw (v:= .pointer (some ⟨g,o'*k2+z.toNat*k2,none⟩)) ?_ (.dF n' (o'+z.toNat) 0 L k2 (hs.inv.lt hn) ⟨_,_,rfl⟩ (by rw[(hs.inv.dn n' _ hn).1,hL];exact akr _) λ_=>⟨by omega,g,cap,s1,?_⟩) hK
    ·unfold execOp;simp [ho,q1,ez,Instr.indexAt,asIntOf,run_underlying fI,h0,N3,lI fP,lg]
    ·rw[Nat.add_mul];rfl
   ·cases hx
  ·cases hx
 next T y f ho=>
  split at hx
  ·next n' i j L k fo q g e1 hT=>
   cases hx
   have hv:=du y;rw[e1]at hv;generalize ea:a.eval y=u at hv;cases hv with
   |dF _ _ _ _ _ nE Ou hL hf=>
    obtain⟨pb,pq,rfl⟩:=Ou;refine fx (by rw[ho];simp) hs cw (v:= .pointer (some ⟨pb,pq+fo,none⟩)) (by unfold execOp;simp [ho,ea,LF hT]) (.dF n' i (j+fo) L k nE ⟨_,_,rfl⟩ hL λe=> ?_) hK;obtain⟨a1,g2,cap,a2,a3⟩:=hf e;refine⟨a1,g2,cap,a2,?_⟩;injection a3 with a3;injection a3 with a3;injection a3 with a4 a5;subst a4;subst a5;rw[Nat.add_assoc]
  ·cases hx
 next y ho=>
  split at hx
  ·next n' i j L k e1=>
   cases hx
   have hv:=du y;rw[e1]at hv;have Sm:=hv;generalize ea:a.eval y=u at hv Sm;cases hv with
   |dF _ _ _ _ _ nE Ou hL hf=>
    obtain⟨pb,pq,rfl⟩:=Ou;exact fx (by rw[ho];simp) hs cw (by unfold execOp;simp [ho,ea]) Sm hK
  ·cases hx
 next t y ho=>
  split at hx
  ·next n' i j L k c e1=>
   split at hx
   ·next e k' cs z hn hz=>
    obtain⟨hb,he⟩:=lH hx;cases he
    rw[beq_iff_eq]at hb;subst hb;have hv:=du y;rw[e1]at hv;obtain⟨u,r1,r2⟩:=ajv hs.inv hn hp.1 hp.2 hz hv;exact fx (by rw[ho];simp) hs cw (by unfold execOp;simp [ho,r1]) r2 hK
   ·cases hx
  ·cases hx
 next t y z ho=>
  split at hx
  ·next n' i j L k c cD e1=>
   split at hx
   ·next e k' cs q hn hq=>
    obtain⟨hb,he⟩:=lH hx;cases he
    simp only[aki,beq_iff_eq,dy]at hb;obtain⟨⟨⟨⟨rfl,rfl⟩,Mn⟩,hj⟩,gL⟩:=hb;obtain⟨hL,hc,rfl⟩:=hp;have hv:=du y;rw[e1]at hv;obtain⟨w',G',r1,r2,r3,r4⟩:=agK hs.inv hn hL hc hv (du z) Mn hq hj gL;exact J4 (by rw[ho];simp) hs cw (by unfold execOp;simp [ho,r1]) r2 r3 r4 hK
   ·cases hx
  ·cases hx
 next T y lo hi ho=>
  split at hx
  ·next n' o' len L k e k' oo ll e1 hT=>
   split at hx
   ·next l u hl hu=>
    split at hx
    ·next e4 k2 cs hn=>
     obtain⟨hb,he⟩:=lH hx;cases he
     rw[aki,beq_iff_eq,beq_iff_eq]at hb;obtain⟨rfl,rfl⟩:=hb;obtain⟨hL,h0,hlu,huL,rfl,rfl⟩:=hp;obtain⟨fI,fP⟩:=jB hT;have hv:=du y;rw[e1]at hv;have ln:=hv.rY hs.inv hn hL;obtain⟨xZ,⟨A,c,q1,q2,q3,q4,q5⟩,_⟩:=ln;have hb:=Cq (P:=P) (xh:=true) (MU hs hl h0) (MU hs hu (by omega)) (by omega) (show u.toNat<=c by omega) w;refine fx (by rw[ho];simp) hs cw (v:= .slice (if c=l.toNat then A else A.map (·.add (l.toNat*k2))) (u.toNat-l.toNat) (c-l.toNat)) ?_ (.vec n' (o'+l.toNat) (u.toNat-l.toNat) L k2 (hs.inv.lt hn) ⟨_,_,_,rfl⟩ (by rw[(hs.inv.dn n' _ hn).1,hL];exact akr _) λ_=>⟨by omega,⟨_,_,rfl,by omega,by omega,by omega,λho2=> ?_⟩,λJ h2=> ?_⟩) hK
     ·unfold execOp;simp [ho,q1,Instr.sliceAt,Instr.slice,run_underlying fI,hb,lI fP]
     ·obtain⟨g,cap,s1,rfl,s3⟩:=q5 (by omega);refine⟨g,cap,s1,?_,by omega⟩;rw[if_neg (by omega)];simp [lg,Nat.add_mul]
     ·have ho0:o'=0:=by omega
      have Hg:l.toNat=0:=by omega
      subst ho0;rw[Hg];rw[Hg]at h2;simp only[Nat.sub_zero]at h2 ⊢;by_cases tW:L=0
      ·subst tW;have:len=0:=by omega
       subst this
       rename_i fD
       rw[<-fD rfl rfl,q1,h2];split
       ·rfl
       ·cases A<;>simp [Addr.add]
      ·obtain⟨g,cap,s1,rfl,s3⟩:=q5 (by omega);rw[s1,h2];have:c=cap:=by omega
       subst this;split<;>simp [lg]
    ·cases hx
   ·cases hx
  ·cases hx
 next T l c ho=>
  split at hx
  ·next e k z1 z2 cs len m hT e1 e2=>
   split at hx
   ·next z de hz n8=>
    obtain⟨hb,he⟩:=lH hx;cases he
    simp only[aki,beq_iff_eq,dy]at hb;obtain⟨⟨gL,jP⟩,_⟩:=hb;obtain⟨h0,kG,hl,hc,rfl,hm,mq⟩:=hp;obtain⟨fI,fP⟩:=jB hT;obtain⟨inf,i1,i2,i3⟩:=Ny fP n8;have Bl:inf.zero=some z:=by
     obtain⟨i',j1,j2⟩:=EN hz;rw[i1]at j1;cases j1;exact j2
    obtain⟨k1,ez1⟩:=(du l).int e1;obtain⟨k2,ez2⟩:=(du c).int e2;obtain⟨u,w',G',r1,r2,r3,r4,r5⟩:=aiI (kl:=k1) (kc:=k2) hs.inv fI i1 Bl i2 i3 jP gL h0 kG hl hc hm mq;exact lW (by rw[ho];simp) hs cw (by unfold execOp;simp [ho,ez1,ez2,r1]) r2 r3 r4 r5 hK
   ·cases hx
  ·cases hx
 next c ho=>
  have jz:∀c,o.op≠ .defer c:=by rw[ho];simp
  split at hx
  next hc=>
   split at hx
   ·next y T J h2=>
    split at hx
    ·next n' oo len L k e1=>
     split at hx
     ·next e4 k2 cs hn=>
      obtain⟨hb,he⟩:=lH hx;cases he
      rw[aki,beq_iff_eq]at hb;obtain⟨hT,rfl⟩:=hb;obtain⟨⟨e,q⟩,hT⟩:=Option.isSome_iff_exists.1 hT;have hv:=du y;rw[e1]at hv;have ln:=hv.rY hs.inv hn hp;obtain⟨xZ,⟨A,cc,q1,q2,q3,q4,q5⟩,_⟩:=ln;exact fx jz hs cw (v:= .int .i64 len) (by rw[Wn c hc J h2 ho,q1];simp [Builtin.len_,run_underlying (jB hT).1,goInt]) (.d (.v _)) hK
     ·cases hx
    ·cases hx
   ·cases hx
  next hc=>
   split at hx
   ·next y z T U J h2=>
    split at hx
    ·next e k pU cD ys L' gN hT hU=>
     split at hx
     ·next z0 de hz n8=>
      obtain⟨hb,hx⟩:=ae1 hx;rw[aki,beq_iff_eq,dy]at hb;obtain⟨gL,jP⟩:=hb;obtain⟨fI,fP⟩:=jB hT;obtain⟨inf,i1,i2,i3⟩:=Ny fP n8;have Bl:inf.zero=some z0:=by
       obtain⟨i',j1,j2⟩:=EN hz;rw[i1]at j1;cases j1;exact j2
      have je:z0.cells.size=k:=by rw[<-akN];exact jP
      obtain⟨eU,kU⟩:=pU;split at hx
      ·next n' oo len L k1 e1=>
       split at hx
       ·next e4 k2 cs hn=>
        obtain⟨hb,he⟩:=lH hx;cases he
        simp only[aki,beq_iff_eq]at hb;obtain⟨⟨rfl,rfl⟩,rfl⟩:=hb;obtain⟨hL,ug,rfl,qe⟩:=hp;obtain⟨us,hr,Bk⟩:=KA (tx:=U) hs.inv (du z) ug gL (jB hU).1;have hv:=du y;rw[e1]at hv;obtain⟨u,w',G',r1,r2,r3,r4,r5⟩:=ad0 (ty:=o.type) hs.inv fI i1 Bl i2 i3 je gL hn hL hv hr Bk qe;exact lW jz hs cw (by rw[A5 c hc J h2 ho,r1];rfl) r2 r3 r4 r5 hK
       ·cases hx
      ·next e1=>
       cases hx
       obtain⟨ug,rfl,rfl,rfl,ko,n6⟩:=hp;obtain⟨us,hr,Bk⟩:=KA (tx:=U) hs.inv (du z) ug gL (jB hU).1;have hv:=du y;rw[e1]at hv;have ev:=hv.val;obtain⟨u,w',G',r1,r2,r3,r4,r5⟩:=S7 (ty:=o.type) (A:=none) hs.inv fI i1 Bl i2 i3 je gL hr Bk ko n6;exact lW jz hs cw (by rw[A5 c hc J h2 ho,ev,r1];rfl) r2 r3 r4 r5 hK
      ·next xs e1=>
       cases hx
       obtain⟨rfl,ug,rfl,rfl,rfl,ko,n6⟩:=hp;obtain⟨us,hr,Bk⟩:=KA (tx:=U) hs.inv (du z) ug gL (jB hU).1;have hv:=du y;rw[e1]at hv;obtain⟨A,eA⟩:∃A,a.eval y= .slice A 0 0:=by
        generalize a.eval y=u at hv;cases hv with|full _ _ hf=>exact hf
       obtain⟨u,w',G',r1,r2,r3,r4,r5⟩:=S7 (ty:=o.type) (A:=A) hs.inv fI i1 Bl i2 i3 je gL hr Bk ko n6;exact lW jz hs cw (by rw[A5 c hc J h2 ho,eA,r1];rfl) r2 r3 r4 r5 hK
      ·cases hx
     ·cases hx
    ·cases hx
   ·cases hx
  next=>cases hx
 next=>cases hx
theorem ahw(hs:db G w a s)(cw:N0<=G.N)(h:B6 P o K s):o.wpIn (WF r) n P a w (iv N0 G w K) Q:=by
 have du:=hs.ev;unfold B6 at h;split at h
 ·next op T x y U ho=>
  split at h
  ·next xs pT v1 v2 hx hy hT J h2=>
   obtain⟨e,k⟩:=pT;have fI:=(jB hT).1;have hv:=du y;rw[hy]at hv;have ey:=hv.val;obtain⟨A,b,oo,c,k',u,ex,hA,_,_,_,_,_⟩:=((du x).list hx).oY;have hg:(eqGuard op T x y (a.eval x) (a.eval y)).run P w= .ok () w:=by rw[ex,ey];unfold eqGuard;cases op<;>simp
   have dO:(binOp op T (a.eval x) (a.eval y)).run P w= .ok (if A.isNone then v1 else v2) w:=by
    rw[ex,ey];have hq:=run_equal_slice_nil (P:=P) (w:=w) T e A xs.length c fI;cases op<;>simp [wi]at J h2<;>subst J<;>subst h2<;>simp [binOp,hq]<;>cases A<;>rfl
   have hex:(execOp a.eval o).run P w= .ok (.value (if A.isNone then v1 else v2)) w:=by
    unfold execOp;simp only[ho];rw[Sem.run_bind,Sem.run_bind,hg];simp only[Result.andThen_ok];rw[dO];rfl
   cases A with
   |none=>
    have ld:xs=[]:=Classical.byContradiction λcN=>by have:=hA cN;cases this
    exact fx (by rw[ho];simp) hs cw hex (.d (.v _)) (h.1 ld)
   |some ad=>exact fx (by rw[ho];simp) hs cw hex (.d (.v _)) h.2
  ·exact h.elim
 ·exact h.elim
theorem Lm(hs:db G w a s)(cw:N0<=G.N)(h:acE P o K s):o.wpIn (WF r) n P a w (iv N0 G w K) Q:=by
 rcases h with h|h|h
 ·exact UC hs cw h
 ·exact ahw hs cw h
 ·exact PB hs cw h
end
end Go.Proofs.YtnnapanbbbcalaaGreatDoor
