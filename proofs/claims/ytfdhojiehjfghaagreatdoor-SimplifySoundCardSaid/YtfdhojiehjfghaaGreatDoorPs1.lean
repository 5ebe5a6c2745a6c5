/-
  Part 1 of the proof: AbsGlob, AbsCore, AbsOps, AbsHeap, AbsStore, AbsApp, AbsOp, AbsOp2, AbsOp3, AbsMap, AbsVec, AbsVec2, AbsOp4.
-/
import Derived.WalkKit
import Derived.Laws.Strings
import Derived.Lib.Hide
import Derived.OrdersIn
import Derived.RangeFuncIn
import Derived.RangeFuncCalls
import Derived.RangeFuncLeaves
import Derived.RangeFuncFrom
import Derived.Deep.MidRow
import Derived.Laws.AppendOwn
import Derived.Maps.OwnOps
import Derived.KernelRfl
import Derived.Deep.AppendSrc
import Derived.Deep.Upon
import Derived.Laws.BytesString
import Derived.Laws.StructEq
import Derived.Laws.MakeOwn
import Derived.Laws.Cover3
namespace Go.Proofs.YtfdhojiehjfghaaGreatDoor
open Go.RowKit
abbrev amM:=@Option.bind_some
abbrev amN:=@List.getElem?_eq_some_iff
abbrev amO:=@List.length_append
abbrev amP:=@Bool.and_eq_true
abbrev amQ:=@List.length_cons
abbrev amR:=@List.getElem?_eq_getElem
abbrev amS:=@List.length_map
abbrev amT:=@List.mem_cons_self
abbrev amU:=@List.getElem?_map
abbrev amV:=@Nat.le_of_ble_eq_true
abbrev amW:=@List.mem_cons_of_mem
abbrev amX:=@List.getElem?_append_left
abbrev amY:=@Nat.le_refl
abbrev amZ:=@List.length_nil
abbrev am0:=@List.mem_of_getElem?
abbrev am1:=@Nat.eq_of_beq_eq_true
abbrev am2:=@Array.getElem?_eq_some_iff
abbrev am3:=@List.getElem?_append_right
abbrev am4:=@List.append_assoc
abbrev am5:=@Nat.le_trans
abbrev am6:=@Option.some.inj
abbrev am7:=@Nat.zero_add
abbrev am8:=@List.append_nil
abbrev am9:=@Array.getElem?_eq_getElem
abbrev ana:=@Array.getElem?_toList
abbrev anb:=@Nat.lt_of_lt_of_le
abbrev anc:=@List.map_cons
abbrev ane:=@List.all_eq_true
abbrev anf:=@Int.toNat_natCast
abbrev ang:=@Nat.not_lt_zero
abbrev anh:=@List.getElem?_set_self
abbrev ani:=@List.mem_cons
abbrev anj:=@List.map_congr_left
abbrev ank:=@List.getElem?_eq_none
abbrev anl:=@Array.length_toList
abbrev anm:=@List.getElem?_set_ne
abbrev ann:=@List.drop_zero
abbrev ano:=@List.length_replicate
abbrev anp:=@List.getElem?_cons_succ
abbrev anq:=@List.mem_append
abbrev anr:=@List.take_append_drop
abbrev ans:=@Nat.lt_irrefl
abbrev ant:=@Nat.le_add_right
abbrev anu:=@List.not_mem_nil
abbrev anv:=@decide_eq_true
abbrev anw:=@decide_eq_false
abbrev anx:=@beq_self_eq_true
abbrev anz:=@List.all_cons
abbrev anA:=@List.any_cons
abbrev anB:=@Nat.lt_succ_self
abbrev anC:=@Bool.or_eq_false_iff
abbrev anD:Type->Type:=List
abbrev anE:=ByteArray
abbrev anF:Type->Type:=Option
abbrev anG:=Program
abbrev anH:=Value
abbrev anI:=World
def bL(a:anE):anD UInt8:=a.data.toList
theorem Lh(a:anE):a.toList=bL a:=ByteArray.toList_eq a
theorem KV{a b:anE}(h:bL a=bL b):a=b:=by cases a;cases b;simp only[bL,Array.toList_inj]at h;rw[h]
def xa(l:anD Nat):anD anH:=l.map λn=>Value.int .u8 (Int.ofNat n)
def Df:anD Nat:=(List.range 256).map λn=>bif (Nat.ble 9 n&&Nat.ble n 13)||n==32 then 1 else 0
def zn:anD (Nat×anD anH):=
 (0,xa Df)::
  []
def Aa:anD (Nat×anD anH)->Nat->anF (anD anH)
 |[],_=>none
 |(k,l)::r,g=>bif k==g then some l else Aa r g
theorem Yx:∀{t:anD (Nat×anD anH)}{g:Nat}{l:anD anH},Aa t g=some l->(g,l)∈t
 |[],g,l,h=>by cases h
 |(k,l')::r,g,l,h=>by
  unfold Aa at h;cases e:k==g with
  |true=>rw[e]at h;cases h;rw[beq_iff_eq]at e;subst e;simp
  |false=>rw[e]at h;exact amW _ (Yx h)
inductive D where
 |v (u:Value)
 |sl (xs:List (List D))
 |ag (ds:List D)
inductive ep where
 |d (x:D)
 |ba (c:List D) (off:Nat)
 |fn (f:FuncId) (cs:List ep)
 |nt (f:FuncId) (cs:List ep)
inductive AV where
 |d (x:D)
 |agg (cs:List AV)
 |aQ (cs:List AV)
 |ptr (n off:Nat)
 |ba (xs:List (List D)) (i off:Nat)
 |own (n:Nat) (xs:List (List D))
 |full (xs:List (List D))
 |row (n off len cap k:Nat)
 |fn (f:FuncId) (cN:List AV)
 |mp (n:Nat)
 |cF (n:Nat)
 |vec (n o len L k:Nat)
 |db (n i j L k:Nat)
 |hid (c:ep)
 |dead
inductive LS where
 |ready
 |busy
 |done (c:Code)
def LS.st:LS->LoopState
 | .ready=> .ready
 | .busy=> .busy
 | .done _=> .done
def LS.pd:LS->anF Code
 | .done c=>some c
 |_=>none
inductive ao where
 |cells (cs:List AV)
 |front (e:TypeId) (k len:Nat)
 |vec (e:TypeId) (k:Nat) (cs:List (List AV))
 |map (kv:List (ByteArray×D))
 |iI (kv:List (ByteArray×D))
 |lp (ls:LS) (p:Nat) (as bd:Code) (cs:List AV)
 |it (sn:Nat×List Nat) (cs:List AV)
 |dM (T:TypeId) (cs:List AV)
 |byt (e:TypeId) (b:ByteArray)
 |gone
structure Gh where
 N:Nat
 Z:Nat->Prop
 S:Nat->Nat->Prop
 aI:Nat->Nat
 sg:Nat->Value
 ow:Nat->Option Nat
 fl:Nat->Nat
 M:Nat
inductive cX(S:Nat->Nat->Prop)(w:World):Value->D->Prop
 |v (u:Value):cX S w u (.v u)
 |sl (A:Option Addr) (b o c k:Nat) (xs:List (List D)) (u:Nat->Nat->Value)
    (hA:xs≠ []->A=some ⟨b,o,none⟩) (hc:xs.length<=c) (hm:c<=maxLen)
    (hk:∀x∈xs,x.length=k)
    (hS:∀i j,i<xs.length->j<k->S b (o+i*k+j)/\w.cell? ⟨b,o+i*k+j,none⟩=some (u i j)/\(u i j).oneCell'=true)
    (hu:∀(i j:Nat)(x:List D)(d:D),xs[i]?=some x->x[j]?=some d->cX S w (u i j) d):cX S w (.slice A xs.length c) (.sl xs)
 |ag (vs:Array Value) (ds:List D) (hl:vs.size=ds.length) (h:∀(i:Nat)(u:Value)(d:D),vs[i]?=some u->ds[i]?=some d->cX S w u d):cX S w (.agg vs) (.ag ds)
inductive nO(S:Nat->Nat->Prop)(w:World):Value->ep->Prop
 |d {u:Value} {x:D} (h:cX S w u x):nO S w u (.d x)
 |ba (c:List D) (off b o:Nat) (u:Nat->Value) (hS:∀j,j<c.length->S b (o+j)/\w.cell? ⟨b,o+j,none⟩=some (u j)) (hu:∀(j:Nat)(d:D),c[j]?=some d->cX S w (u j) d):nO S w (.pointer (some ⟨b,o+off,none⟩)) (.ba c off)
 |fn (f:FuncId) (vs:Array Value) (cs:List ep) (hl:vs.size=cs.length) (h:∀(i:Nat)(u:Value)(c:ep),vs[i]?=some u->cs[i]?=some c->nO S w u c):nO S w (.func (.func f) #[] vs) (.fn f cs)
 |nt (f:FuncId) (vs:Array Value) (cs:List ep) (hl:vs.size=cs.length) (h:∀(i:Nat)(u:Value)(c:ep),vs[i]?=some u->cs[i]?=some c->nO S w u c):nO S w (.func (.func f) vs #[]) (.nt f cs)
structure Um(s u:Value)(o len L k:Nat):Prop where
 ol:o+len<=L
 sl:∃A c,u= .slice A len c/\len<=c/\c<=maxLen/\L<=c+o/\(o<L->∃g cap,s= .slice (some ⟨g,0,none⟩) L cap/\A=some ⟨g,o*k,none⟩/\o+c=cap)
 all:o=0->len=L->u=s
structure VF(s u:Value)(i j L k:Nat):Prop where
 il:i<L
 pt:∃g cap,s= .slice (some ⟨g,0,none⟩) L cap/\u= .pointer (some ⟨g,i*k+j,none⟩)
inductive aE(G:Gh)(w:World):Value->AV->Prop
 |d {u:Value} {x:D} (h:cX G.S w u x):aE G w u (.d x)
 |agg (vs:Array Value) (cs:List AV) (hl:vs.size=cs.length) (h:∀(i:Nat)(u:Value)(c:AV),vs[i]?=some u->cs[i]?=some c->aE G w u c):aE G w (.agg vs) (.agg cs)
 |aQ (vs:Array Value) (cs:List AV) (hl:vs.size=cs.length) (h:∀(i:Nat)(u:Value)(c:AV),vs[i]?=some u->cs[i]?=some c->aE G w u c):aE G w (.tuple vs) (.aQ cs)
 |ptr (n off:Nat) (h:n<G.N):aE G w (.pointer (some ⟨G.aI n,off,none⟩)) (.ptr n off)
 |ba (xs:List (List D)) (i off b o:Nat) (u:Nat->Value) (x:List D) (hx:xs[i]?=some x)
  (hS:∀j,j<x.length->G.S b (o+j)/\w.cell? ⟨b,o+j,none⟩=some (u j)) (hu:∀(j:Nat)(d:D),x[j]?=some d->cX G.S w (u j) d):aE G w (.pointer (some ⟨b,o+off,none⟩)) (.ba xs i off)
 |own {u:Value} (n:Nat) (xs:List (List D)) (h:n<G.N) (hp:cX G.S w u (.sl xs)) (hle:xs.length<=G.fl n) (hf:xs.length=G.fl n->u=G.sg n):aE G w u (.own n xs)
 |full {u:Value} (xs:List (List D)) (hp:cX G.S w u (.sl xs)) (hf:∃A,u= .slice A xs.length xs.length):aE G w u (.full xs)
 |row (n off len cap k:Nat) (h:n<G.N) (hl:len<=cap) (hm:cap<=maxLen):aE G w (.slice (some ⟨G.aI n,off,none⟩) len cap) (.row n off len cap k)
 |fn (f:FuncId) (vs:Array Value) (cs:List AV) (hl:vs.size=cs.length) (h:∀(i:Nat)(u:Value)(c:AV),vs[i]?=some u->cs[i]?=some c->aE G w u c):aE G w (.func (.func f) #[] vs) (.fn f cs)
 |mp (n:Nat) (h:n<G.N):aE G w (.map (some (G.aI n))) (.mp n)
 |cF (n:Nat) (h:n<G.N):aE G w (.func (.yield (G.aI n)) #[] #[]) (.cF n)
 |vec {u:Value} (n o len L k:Nat) (h:n<G.N) (hs:∃A l c,u= .slice A l c) (hL:L<=G.fl n) (hf:L=G.fl n->Um (G.sg n) u o len L k):aE G w u (.vec n o len L k)
 |db {u:Value} (n i j L k:Nat) (h:n<G.N) (hs:∃b q,u= .pointer (some ⟨b,q,none⟩)) (hL:L<=G.fl n) (hf:L=G.fl n->VF (G.sg n) u i j L k):aE G w u (.db n i j L k)
 |hid {u:Value} {c:ep} (h:nO G.S w u c) (h1:u.oneCell'=true):aE G w u (.hid c)
 |dead (u:Value):aE G w u .dead
def lQ:anD (anE×D)->anE->anF D
 |[],_=>none
 |(k,d)::l,s=>bif bL k==bL s then some d else lQ l s
structure tJ(S:Nat->Nat->Prop)(w:World)(es:Array MapEntry)(clock:Nat)(kv:List (ByteArray×D)):Prop where
 size:es.size<=maxLen
 stamped:MapKept.Stamped es clock
 Ae:∀e∈es.toList,∃s d,e.key= .string s/\lQ kv s=some d/\cX S w e.val d
 all:∀s d,lQ kv s=some d->∃e∈es.toList,e.key= .string s
 len:es.size<=kv.length
 born:∀(i:Nat)(e:MapEntry),es[i]?=some e->e.born=i
 DV:clock=es.size
structure yc(S:Nat->Nat->Prop)(w:World)(es:Array MapEntry)(clock:Nat)(kv:List (ByteArray×D)):Prop where
 ok:tJ S w es clock kv
 ord:∀(i:Nat)(e:MapEntry),es[i]?=some e->∃p,kv[i]?=some p/\e.key= .string p.1/\cX S w e.val p.2
 all:kv.length=es.size
def ao.dw(G:Gh)(n:Nat):ao->anF Nat
 | .cells _=>some (G.aI n)
 | .front _ _ _=>G.ow n
 | .vec _ _ _=>G.ow n
 | .map _=>some (G.aI n)
 | .iI _=>some (G.aI n)
 | .lp _ _ _ _ _=>some (G.aI n)
 | .it _ _=>some (G.aI n)
 | .dM _ _=>some (G.aI n)
 | .byt _ _=>G.ow n
 | .gone=>none
def bz(h:anD ao)(G:Gh)(n:Nat):anF Nat:=(h[n]?).bind (ao.dw G n)
theorem di{h:anD ao}{G:Gh}{n:Nat}{B:ao}(e:h[n]?=some B):bz h G n=B.dw G n:=by unfold bz;rw[e];rfl
theorem ue{h:anD ao}{G:Gh}{n:Nat}(e:h[n]?=none):bz h G n=none:=by unfold bz;rw[e];rfl
theorem oB{h:anD ao}{G:Gh}{n b:Nat}(e:bz h G n=some b):∃B,h[n]?=some B/\B.dw G n=some b:=by
 unfold bz at e;cases hx:h[n]? with
 |none=>rw[hx]at e;cases e
 |some B=>rw[hx]at e;exact⟨B,rfl,e⟩
def aey(v:anH):Prop:=v= .slice none 0 0\/∃g n cap,v= .slice (some ⟨g,0,none⟩) n cap/\cap≠0
def dB(G:Gh)(w:anI)(n:Nat):ao->Prop
 | .cells cs=>¬G.Z (G.aI n)/\(∀o,¬G.S (G.aI n) o)/\∃(vs:Array anH)(T:TypeId),w.heap[G.aI n]?=some (.cells vs T (0,0))/\vs.size=cs.length/\∀(i:Nat)(u:anH)(c:AV),vs[i]?=some u->cs[i]?=some c->aE G w u c
 | .front e k len=>G.fl n=len/\len<=maxLen/\((G.ow n=none/\∃A,G.sg n= .slice A len len)\/
  ∃(g cap:Nat)(cur:Array anH),G.ow n=some g/\G.sg n= .slice (some ⟨g,0,none⟩) len cap/\¬G.Z g/\w.heap[g]?=some (.cells cur e (0,0))/\len<=cap/\cap<=maxLen/\cur.size=cap*k/\∀o,len*k<=o->¬G.S g o)
 | .vec e k cs=>G.fl n=cs.length/\cs.length<=maxLen/\(∀c∈cs,c.length=k)/\((G.ow n=none/\cs=[]/\∃A,G.sg n= .slice A 0 0)\/
  ∃(g cap:Nat)(cur:Array anH),G.ow n=some g/\G.sg n= .slice (some ⟨g,0,none⟩) cs.length cap/\¬G.Z g/\w.heap[g]?=some (.cells cur e (0,0))/\cs.length<=cap/\cap<=maxLen/\cur.size=cap*k/\(∀o,¬G.S g o)/\
   ∀(i j:Nat)(c:anD AV)(x:AV)(u:anH),cs[i]?=some c->c[j]?=some x->cur[i*k+j]?=some u->aE G w u x)
 | .map kv=>¬G.Z (G.aI n)/\(∀o,¬G.S (G.aI n) o)/\∃(es:Array MapEntry)(clock:Nat),w.heap[G.aI n]?=some (.map es clock)/\tJ G.S w es clock kv
 | .iI kv=>¬G.Z (G.aI n)/\(∀o,¬G.S (G.aI n) o)/\∃(es:Array MapEntry)(clock:Nat),w.heap[G.aI n]?=some (.map es clock)/\yc G.S w es clock kv
 | .lp ls p as bd cs=>¬G.Z (G.aI n)/\(∀o,¬G.S (G.aI n) o)/\∃(fn:FuncId)(tm:Array anH)(D:Nat),w.heap[G.aI n]?=some (.loop {state:=ls.st,pending:=ls.pd,fn:=fn,tmps:=tm,params:= #[p],assign:=as,body:=bd,defers:=D})/\tm.size=cs.length/\∀(i:Nat)(u:anH)(c:AV),tm[i]?=some u->cs[i]?=some c->aE G w u c
 | .it sn cs=>¬G.Z (G.aI n)/\(∀o,¬G.S (G.aI n) o)/\∃(fn:Nat)(vs:Array anH)(_:Unit),w.heap[G.aI n]?=some (.mapIter (some fn) sn.1 sn.2.toArray sn.1)/\(vs.size=cs.length/\vs= #[.map (some fn)])/\∀(i:Nat)(u:anH)(c:AV),vs[i]?=some u->cs[i]?=some c->aE G w u c
 | .dM T cs=>¬G.Z (G.aI n)/\(∀o,¬G.S (G.aI n) o)/\∃(_:Unit)(vs:Array anH)(p:anH),w.heap[G.aI n]?=some (.cells (#[p]++vs) T (0,0))/\(vs.size=cs.length/\(p= .pointer none\/p= .pointer (some ⟨G.aI n,0,none⟩))/\∀v∈vs.toList,aey v)/\∀(i:Nat)(u:anH)(c:AV),vs[i]?=some u->cs[i]?=some c->aE G w u c
 | .byt e b=>G.fl n=b.size/\b.size<=maxLen/\((G.ow n=none/\b.size=0/\∃A,G.sg n= .slice A 0 0)\/
  ∃(g cap:Nat)(cur:Array anH),G.ow n=some g/\G.sg n= .slice (some ⟨g,0,none⟩) b.size cap/\¬G.Z g/\w.heap[g]?=some (.cells cur e (0,0))/\b.size<=cap/\cap<=maxLen/\cur.size=cap/\(∀o,¬G.S g o)/\∀(i:Nat)(u:UInt8),(bL b)[i]?=some u->cur[i]?=some (.int .u8 u.toNat))
 | .gone=>True
def GL(G:Gh)(w:anI):Prop:=(∀(g:Nat)(l:anD anH),(g,l)∈zn->∀(j:Nat)(v:anH),l[j]?=some v->G.S g j/\w.cell? ⟨g,j,none⟩=some v)/\G.M<=w.heap.size
structure bC(G:Gh)(w:World)(h:List ao):Prop where
 len:h.length=G.N
 z:∀b,G.Z b->b<w.heap.size
 S:∀b o,G.S b o->b<w.heap.size
 cT:∀(n:Nat)(B:ao),h[n]?=some B->dB G w n B
 inj:∀(m n b:Nat),bz h G m=some b->bz h G n=some b->m=n
 gl:GL G w
structure bx(N:Nat)(G:Gh)(w:World)(G':Gh)(w':World):Prop where
 size:w.heap.size<=w'.heap.size
 S:∀b o,G.S b o->G'.S b o
 cell:∀b o,G.S b o->w'.cell? ⟨b,o,none⟩=w.cell? ⟨b,o,none⟩
 aI:∀n,n<N->G'.aI n=G.aI n
 fr:∀n,n<N->(G'.fl n=G.fl n/\G'.sg n=G.sg n)\/G.fl n<G'.fl n
 Z:((∀b,G.Z b->G'.Z b)/\∀b,G'.Z b->G.Z b\/w.heap.size<=b)/\G'.M=G.M
 old:∀b,G.Z b->w'.heap[b]?=w.heap[b]?
 os:w'.os=w.os
 tape:w'.tape=w.tape
 output:w'.output=w.output
 new:∀b o,G'.S b o->G.S b o\/¬G.Z b
theorem gV{Z Z':Nat->Prop}{m M M':Nat}(h:Z'=Z)(hM:M'=M:=by rfl):((∀b,Z b->Z' b)/\∀b,Z' b->Z b\/m<=b)/\M'=M:=⟨⟨λ_ k=>h▸k,λ_ k=> .inl (h▸k)⟩,hM⟩
theorem bx.refl(N:Nat)(G:Gh)(w:anI):bx N G w G w:=
 ⟨amY _,λ_ _ h=>h,λ_ _ _=>rfl,λ_ _=>rfl,λ_ _=> .inl ⟨rfl,rfl⟩,gV rfl,λ_ _=>rfl,rfl,rfl,rfl,λ_ _ h=> .inl h⟩
theorem bx.trans{N:Nat}{G G1 G2:Gh}{w w1 w2:anI}(h:bx N G w G1 w1)(k:bx N G1 w1 G2 w2):bx N G w G2 w2:=
 ⟨am5 h.size k.size,λb o hs=>k.S b o (h.S b o hs),λb o hs=>(k.cell b o (h.S b o hs)).trans (h.cell b o hs),λn hn=>(k.aI n hn).trans (h.aI n hn),
  λn hn=>by
   rcases h.fr n hn with⟨h1,h2⟩|h1<;>rcases k.fr n hn with⟨k1,k2⟩|k1
   ·exact .inl ⟨k1.trans h1,k2.trans h2⟩
   ·exact .inr (h1▸k1)
   ·exact .inr (k1▸h1)
   ·exact .inr (Nat.lt_trans h1 k1),
  ⟨⟨λb hb=>k.Z.1.1 b (h.Z.1.1 b hb),λb hb=>(k.Z.1.2 b hb).elim (h.Z.1.2 b) λhs=> .inr (am5 h.size hs)⟩,k.Z.2.trans h.Z.2⟩,λb hb=>(k.old b (h.Z.1.1 b hb)).trans (h.old b hb),k.os.trans h.os,k.tape.trans h.tape,k.output.trans h.output,λb o hs=>(k.new b o hs).elim (h.new b o) (λhn=> .inr λhz=>hn (h.Z.1.1 b hz))⟩
theorem bx.less{N M:Nat}{G G':Gh}{w w':anI}(h:bx N G w G' w')(hM:M<=N):bx M G w G' w':=
 ⟨h.size,h.S,h.cell,λn hn=>h.aI n (anb hn hM),λn hn=>h.fr n (anb hn hM),h.Z,h.old,h.os,h.tape,h.output,h.new⟩
theorem bx.kW{N:Nat}{G G':Gh}{w w':anI}(h:bx N G w G' w'){b:Nat}(hb:b<w.heap.size)(hz:¬G.Z b):¬G'.Z b:=λk=>(h.Z.1.2 b k).elim hz λhs=>ans _ (anb hb hs)
def rB(G:Gh)(w:anI)(ds:anD Deferred):Prop:=∃l:anD Nat,l.Nodup/\ds=l.map (λD=>{target:= .collected D,args:= #[]})/\∀D∈l,G.M<=D/\G.Z D/\w.heap[D]?=some (.deferred (some []))
theorem rB.nil(G:Gh)(w:anI):rB G w []:=⟨[],List.nodup_nil,rfl,λ_ h=>absurd h anu⟩
theorem rB.keep{N:Nat}{G G':Gh}{w w':anI}{ds:anD Deferred}(h:rB G w ds)(hE:bx N G w G' w'):rB G' w' ds:=
 let ⟨l,h1,h2,h3⟩:=h
 ⟨l,h1,h2,λD hD=>⟨hE.Z.2▸(h3 D hD).1,hE.Z.1.1 D (h3 D hD).2.1,(hE.old D (h3 D hD).2.1).trans (h3 D hD).2.2⟩⟩
theorem GL.keep{N:Nat}{G G':Gh}{w w':anI}(h:GL G w)(hE:bx N G w G' w'):GL G' w':=⟨λg l hm j v hv=>
 ⟨hE.S _ _ (h.1 g l hm j v hv).1,(hE.cell _ _ (h.1 g l hm j v hv).1).trans (h.1 g l hm j v hv).2⟩,by rw[hE.Z.2];exact am5 h.2 hE.size⟩
theorem cX.keep{S S':Nat->Nat->Prop}{w w':anI}(hS:∀b o,S b o->S' b o)(hc:∀b o,S b o->w'.cell? ⟨b,o,none⟩=w.cell? ⟨b,o,none⟩){u:anH}{x:D}(h:cX S w u x):cX S' w' u x:=by
 induction h with
 |v u=>exact .v u
 |sl A b o c k xs u hA ff hm hk qi _ ih=>
  exact .sl A b o c k xs u hA ff hm hk (λi j hi hj=>⟨hS _ _ (qi i j hi hj).1,(hc _ _ (qi i j hi hj).1).trans (qi i j hi hj).2.1,(qi i j hi hj).2.2⟩) ih
 |ag vs ds hl _ ih=>exact .ag vs ds hl ih
theorem nO.keep{S S':Nat->Nat->Prop}{w w':anI}(hS:∀b o,S b o->S' b o)(hc:∀b o,S b o->w'.cell? ⟨b,o,none⟩=w.cell? ⟨b,o,none⟩){u:anH}{x:ep}(h:nO S w u x):nO S' w' u x:=by
 induction h with
 |d h=>exact .d (h.keep hS hc)
 |ba c off b o u h1 h2=>exact .ba c off b o u (λj hj=>⟨hS _ _ (h1 j hj).1,(hc _ _ (h1 j hj).1).trans (h1 j hj).2⟩) (λj d hd=>(h2 j d hd).keep hS hc)
 |fn f vs cs hl _ ih=>exact .fn f vs cs hl ih
 |nt f vs cs hl _ ih=>exact .nt f vs cs hl ih
theorem aE.keep{G G':Gh}{w w':anI}(hE:bx G.N G w G' w')(hN:G.N<=G'.N){u:anH}{x:AV}(h:aE G w u x):aE G' w' u x:=by
 induction h with
 |d h=>exact .d (h.keep hE.S hE.cell)
 |agg vs cs hl _ ih=>exact .agg vs cs hl ih
 |aQ vs cs hl _ ih=>exact .aQ vs cs hl ih
 |ptr n off h=>rw[<-hE.aI n h];exact .ptr n off (anb h hN)
 |ba xs i off b o u x hx hS hu=>exact .ba xs i off b o u x hx (λj hj=>⟨hE.S _ _ (hS j hj).1,(hE.cell _ _ (hS j hj).1).trans (hS j hj).2⟩) (λj d hd=>(hu j d hd).keep hE.S hE.cell)
 |own n xs h hp hle hf=>
  refine .own n xs (anb h hN) (hp.keep hE.S hE.cell) ?_ ?_
  ·rcases hE.fr n h with⟨h1,_⟩|h1
   ·omega
   ·omega
  ·intro e;rcases hE.fr n h with⟨h1,h2⟩|h1
   ·rw[h2];exact hf (e.trans h1)
   ·omega
 |full xs hp hf=>exact .full xs (hp.keep hE.S hE.cell) hf
 |row n off len cap k h hl hm=>rw[<-hE.aI n h];exact .row n off len cap k (anb h hN) hl hm
 |fn f vs cs hl _ ih=>exact .fn f vs cs hl ih
 |mp n h=>rw[<-hE.aI n h];exact .mp n (anb h hN)
 |cF n h=>rw[<-hE.aI n h];exact .cF n (anb h hN)
 |vec n o len L k h hs hL hf=>
  refine .vec n o len L k (anb h hN) hs ?_ ?_
  ·rcases hE.fr n h with⟨h1,_⟩|h1<;>omega
  ·intro e;rcases hE.fr n h with⟨h1,h2⟩|h1
   ·rw[h2];exact hf (e.trans h1)
   ·omega
 |db n i j L k h hs hL hf=>
  refine .db n i j L k (anb h hN) hs ?_ ?_
  ·rcases hE.fr n h with⟨h1,_⟩|h1<;>omega
  ·intro e;rcases hE.fr n h with⟨h1,h2⟩|h1
   ·rw[h2];exact hf (e.trans h1)
   ·omega
 |hid h h1=>exact .hid (h.keep hE.S hE.cell) h1
 |dead u=>exact .dead u
structure St where
 n:Nat
 t:List (Nat×AV)
 h:List ao
def aY:anD (Nat×AV)->Nat->AV
 |[],_=> .dead
 |(k,x)::l,i=>bif i==k then x else aY l i
theorem nh(k:Nat)(x:AV)(l:anD (Nat×AV))(i:Nat):aY ((k,x)::l) i=if i=k then x else aY l i:=by
 simp only[aY,cond_eq_ite,beq_iff_eq]
def eQ(b:Bool)(p:Prop):Prop:=cond b p False
theorem bw{b:Bool}{p:Prop}:eQ b p↔b=true/\p:=by cases b<;>simp [eQ]
def bS(a b:Nat):Bool:=a-b==0
theorem dy{a b:Nat}:bS a b=true↔a<=b:=by simp [bS];omega
def Vt:IntKind->Nat
 | .i8=>0| .i16=>1| .i32=>2| .i64=>3| .u8=>4| .u16=>5| .u32=>6| .u64=>7
def xx(a b:IntKind):Bool:=Vt a==Vt b
theorem Mn{a b:IntKind}:xx a b=true↔a=b:=by cases a<;>cases b<;>decide
def St.put(s:St)(dst:anF Nat)(x:AV):St:=
 match dst with
 |none=>s
 |some d=>bif s.n-d==0 then s else{s with t:=(d,x)::s.t}
theorem ur{s:St}{d:Nat}(h:d<s.n)(x:AV):s.put (some d) x={s with t:=(d,x)::s.t}:=by
 have:(s.n-d==0)=false:=by simp;omega
 simp only[St.put,this,cond_false]
theorem Bx{s:St}{d:Nat}(h:¬d<s.n)(x:AV):s.put (some d) x=s:=by
 have:(s.n-d==0)=true:=by simp;omega
 simp only[St.put,this,cond_true]
def St.wh(s:St)(h:anD ao):St:={s with h:=h}
def OR:anH->AV
 | .agg vs=> .agg (vs.toList.map λu=> .d (.v u))
 | .tuple vs=> .aQ (vs.toList.map λu=> .d (.v u))
 |u=> .d (.v u)
def ev(s:St):Operand->AV
 | .tmp t=>aY s.t t
 | .const v=>OR v
 | .func f=> .fn f []
 | .global g=>match Aa zn g with
   |some l=> .ba [l.map .v] 0 0
   |none=> .dead
def AV.jV:AV->Bool
 | .d (.v u)=>u.oneCell'
 | .d (.sl _)| .ptr .. | .ba .. | .own .. | .full _| .row .. | .fn .. | .mp _| .cF _| .hid _| .vec .. | .db .. =>true
 | .agg _| .aQ _| .dead| .d (.ag _)=>false
def AV.cells:AV->anD AV
 | .agg cs=>cs
 |x=>[x]
def AV.iX:AV->Bool
 | .agg cs=>cs.all AV.jV
 |x=>x.jV
def D.vn:D->D
 | .v (.slice none 0 0)=> .sl []
 |x=>x
def AV.xm:AV->anF D
 | .d x=>some x.vn
 | .own _ xs=>some (.sl xs)
 | .full xs=>some (.sl xs)
 |_=>none
def AV.eY:AV->anF (anD (anD D))
 | .d (.sl xs)=>some xs
 | .own _ xs=>some xs
 | .full xs=>some xs
 | .d (.v (.slice none 0 0))=>some []
 |_=>none
def AV.int?:AV->anF Int
 | .d (.v (.int _ n))=>some n
 |_=>none
def ep.av:ep->AV
 | .d x=> .d x
 | .ba c off=> .ba [c] 0 off
 | .fn f cs=> .hid (.fn f cs)
 | .nt f cs=> .hid (.nt f cs)
def ep.app(as:anD AV):ep->anF (FuncId×anD AV)
 | .fn g cs=>some (g,as++cs.map ep.av)
 | .nt g cs=>some (g,cs.map ep.av++as)
 |_=>none
mutual
def AV.cap:AV->anF ep
 | .d x=>some (.d x)
 | .own _ xs=>some (.d (.sl xs))
 | .full xs=>some (.d (.sl xs))
 | .ba xs i off=>match xs[i]? with
   |some c=>some (.ba c off)
   |none=>none
 | .fn f cs=>match AV.xr cs with
   |some l=>some (.fn f l)
   |none=>none
 | .hid c=>some c
 |_=>none
def AV.xr:anD AV->anF (anD ep)
 |[]=>some []
 |x::l=>match x.cap,AV.xr l with
  |some c,some l=>some (c::l)
  |_,_=>none
end
def Nd(f:FuncId)(first cN:anD AV):anF AV:=
 match first with
 |[]=>some (.fn f cN)
 |l=>match AV.xr l,cN with
  |some cs,[]=>some (.hid (.nt f cs))
  |_,_=>none
def fz(P:anG)(t:TypeId):anF Nat:=(P.info? t).map (·.size)
def lV(P:anG)(t:TypeId):anF Bool:=(P.underlying t).map fun| .struct _=>true| .array .. =>true|_=>false
def sL(P:anG)(t:TypeId)(i:Nat):anF (Nat×Nat×Bool):=
 match P.underlying t with
 |some (.struct fs)=>match fs[i]? with
  |some f=>match fz P f.type,lV P f.type with
   |some (k+1),some g=>some (f.offset,k+1,g)
   |_,_=>none
  |none=>none
 |_=>none
def dQ(P:anG)(t:TypeId):anF (TypeId×Nat):=
 match P.underlying t with
 |some (.slice e)=>(fz P e).map λk=>(e,k)
 |_=>none
def tW(P:anG)(t:TypeId):anF (Nat×TypeId×Nat):=
 match P.underlying t with
 |some (.array n e)=>(fz P e).map λk=>(n,e,k)
 |_=>none
def gC(P:anG)(t:TypeId):Bool:=match P.underlying t with|some .string=>true|_=>false
def Af(P:anG)(t:TypeId):Bool:=match P.underlying t with|some .bool=>true|_=>false
def sf(P:anG)(t:TypeId):anF IntKind:=match P.underlying t with|some (.int k)=>some k|_=>none
def BC(P:anG)(t:TypeId):Bool:=match P.underlying t with|some (.int .u8)=>true|_=>false
def iE(P:anG)(t:TypeId):anF anH:=(P.info? t).bind (·.zero)
def sM(P:anG)(t:TypeId):anF Nat:=(P.info? t).map (·.bytes)
def QC(op:BinOp)(k:IntKind)(a b:Int):anF anH:=
 match op with
 | .add=>some (.int k (k.wrap (a+b)))
 | .sub=>some (.int k (k.wrap (a-b)))
 | .mul=>some (.int k (k.wrap (a*b)))
 | .eql=>some (.bool (a==b))
 | .neq=>some (.bool (a !=b))
 | .lss=>some (.bool (a<b))
 | .leq=>some (.bool (a<=b))
 | .gtr=>some (.bool (a>b))
 | .geq=>some (.bool (a>=b))
 | .and=>some (.int k (k.wrap (BitVec.ofInt k.bits a&&&BitVec.ofInt k.bits b).toNat))
 | .or=>some (.int k (k.wrap (BitVec.ofInt k.bits a|||BitVec.ofInt k.bits b).toNat))
 | .xor=>some (.int k (k.wrap (BitVec.ofInt k.bits a^^^BitVec.ofInt k.bits b).toNat))
 | .andNot=>some (.int k (k.wrap (BitVec.ofInt k.bits a&&& ~~~BitVec.ofInt k.bits b).toNat))
 |_=>none
def QI(op:BinOp)(a b:anE):anF anH:=
 match op with
 | .eql=>some (.bool (bL a==bL b))
 | .neq=>some (.bool (!(bL a==bL b)))
 | .lss=>some (.bool (Op.bytesLess (bL a) (bL b)))
 | .leq=>some (.bool (Op.bytesLess (bL a) (bL b)||bL a==bL b))
 | .gtr=>some (.bool (!(Op.bytesLess (bL a) (bL b)||bL a==bL b)))
 | .geq=>some (.bool (!Op.bytesLess (bL a) (bL b)))
 |_=>none
def LU(op:BinOp)(a b:Bool):anF anH:=
 match op with
 | .eql=>some (.bool (a==b))
 | .neq=>some (.bool (!(a==b)))
 |_=>none
def O9(op:BinOp)(k:IntKind)(a b:Int):anF anH:=
 match op with
 | .quo=>some (.int k (k.wrap (a.tdiv b)))
 | .rem=>some (.int k (a.tmod b))
 |_=>none
def MO(op:BinOp)(k:IntKind)(a b:Int):anF anH:=
 match op with
 | .shl=>some (.int k (k.wrap (a*2^(min b.toNat k.bits))))
 | .shr=>some (.int k (a.fdiv (2^(min b.toNat k.bits))))
 |_=>none
def IF(op:UnOp)(x:anH):anF anH:=
 match op,x with
 | .not, .bool b=>some (.bool (!b))
 | .neg, .int k n=>some (.int k (k.wrap (0-n)))
 | .xor, .int k n=>some (.int k (k.wrap (BitVec.ofInt k.bits (if k.signed then-1 else k.max)^^^BitVec.ofInt k.bits n).toNat))
 |_,_=>none
def gM(cs:anD AV)(off:Nat)(ys:anD AV):anD AV:=cs.take off++ys++cs.drop (off+ys.length)
def nP(k:Nat):Nat->anD D->anD (anD D)
 |0,_=>[]
 |n+1,l=>l.take k::nP k n (l.drop k)
def oM(places:anD (Nat×Nat)):anD AV->anD (Nat×AV)->anF (anD AV)
 |cs,[]=>some cs
 |cs,(i,x)::r=>
  match places[i]? with
  |some (off,k)=>bif x.cells.length==k&&bS (off+k) cs.length then oM places (gM cs off x.cells) r else none
  |none=>none
def mJ:anD AV->anF (anD D)
 |[]=>some []
 |x::r=>match x.xm,mJ r with
  |some d,some l=>some (d::l)
  |_,_=>none
def E6(P:anG)(fs:anD Field):anF (anD (Nat×Nat)):=fs.mapM λf=>(fz P f.type).map λk=>(f.offset,k)
def GU(P:anG)(f:FuncId):Bool:=
 match P.funcs[f]? with
 |some fn=>fn.body.isSome&& !(fn.name== "runtime.NumGoroutine")
 |none=>false
def cp(P:anG)(f:FuncId)(args:anD AV)(h:anD ao)(K:AV->anD ao->Prop):Prop:=
 GU P f=true/\∀(G:Gh)(w:anI)(vs:Array anH),bC G w h->vs.size=args.length->(∀(i:Nat)(u:anH)(c:AV),vs[i]?=some u->args[i]?=some c->aE G w u c)->
  Calls P f vs w λe w'=>∃v G' r h',e= .returned v/\bx G.N G w G' w'/\G.N<=G'.N/\bC G' w' h'/\aE G' w' v r/\K r h'
theorem cp.mono{P:anG}{f:FuncId}{args:anD AV}{h:anD ao}{K K':AV->anD ao->Prop}(hc:cp P f args h K)(hk:∀r h',K r h'->K' r h'):cp P f args h K':=
 ⟨hc.1,λG w vs hi hl hr=>(hc.2 G w vs hi hl hr).mono λ_ _ ⟨v,G',r,h',e,x1,x2,x3,x4,x5⟩=>⟨v,G',r,h',e,x1,x2,x3,x4,hk _ _ x5⟩⟩
def sa(h:anD ao)(p:AV)(K:anD AV->Nat->Prop):Prop:=
 match p with
 | .ptr n off=>match h[n]? with
   |some (.cells cs)=>K cs off
   |_=>False
 | .ba xs i off=>match xs[i]? with
   |some cs=>K (cs.map .d) off
   |none=>False
 |_=>False
def oG(P:anG)(t:TypeId)(h:anD ao)(p:AV)(K:AV->Prop):Prop:=
 sa h p λcs off=>match lV P t,fz P t with
  |some true,some k=>eQ (bS (off+k) cs.length) (K (.agg ((cs.drop off).take k)))
  |some false,some _=>match cs[off]? with
   |some c=>K c
   |none=>False
  |_,_=>False
def xv(P:anG)(t:TypeId)(h:anD ao)(p x:AV)(K:anD ao->Prop):Prop:=
 match p with
 | .ptr n off=>match h[n]? with
   |some (.cells cs)=>match fz P t with
    |some k=>eQ (k==x.cells.length&&x.iX&&bS (off+x.cells.length) cs.length) (K (h.set n (.cells (gM cs off x.cells))))
    |none=>False
   |_=>False
 |_=>False
def sq(P:anG)(T:TypeId)(x i:AV)(K:AV->Prop):Prop:=
 match dQ P T with
 |some (_,k)=>
  match x with
  | .row n off len _ k'=>match i.int? with
    |some z=>eQ (k'==k) (0<=z/\z<len/\K (.ptr n (off+z.toNat*k)))
    |none=>False
  |_=>match x.eY,i.int? with
   |some xs,some z=>0<=z/\(match xs[z.toNat]? with|some c=>c.length=k/\K (.ba [c] 0 0)|none=>False)
   |_,_=>False
 |none=>match tW P T,x,i.int? with
  |some (n,_,k), .ptr b off,some z=>0<=z/\z<n/\K (.ptr b (off+z.toNat*k))
  |some (n,_,k), .ba xs i off,some z=>eQ (k==1) (0<=z/\z<n/\(match xs[i]? with|some c=>(match c[off+z.toNat]? with|some d=>K (.ba [[d]] 0 0)|none=>False)|none=>False))
  |_,_,_=>False
def s8(P:anG)(T:TypeId)(x:AV)(K:Nat->Prop):Prop:=
 match x with
 | .d (.v (.string s))=>eQ (gC P T) (K s.size)
 | .row _ _ len _ _=>eQ (dQ P T).isSome (K len)
 |x=>match x.eY with
  |some xs=>eQ (dQ P T).isSome (K xs.length)
  |none=>False
def ju(ρ:Operand->AV)(x:anF Operand)(afv:Nat)(K:Nat->Prop):Prop:=
 match x with
 |none=>K afv
 |some y=>match (ρ y).int? with
  |some z=>0<=z/\K z.toNat
  |none=>False
def uL(P:anG)(T:TypeId)(ρ:Operand->AV)(x:AV)(lo hi mx:anF Operand)(K:AV->Prop):Prop:=
 match mx with
 |none=>
  match x with
  | .d (.v (.string b))=>eQ (gC P T) (ju ρ hi b.size λh=>h<=b.size/\ju ρ lo 0 λl=>l<=h/\K (.d (.v (.string (b.extract l h)))))
  | .ptr n off=>match tW P T with
    |some (m,_,k)=>eQ (bS m 4096) (ju ρ hi m λh=>eQ (bS h m) (ju ρ lo 0 λl=>eQ (bS l h&& !bS m l) (K (.row n (off+l*k) (h-l) (m-l) k))))
    |none=>False
  |x=>match x.eY,dQ P T with
   |some xs,some (_,k)=>(∀c∈xs,c.length=k)/\ju ρ hi xs.length λh=>h<=xs.length/\ju ρ lo 0 λl=>l<=h/\K (.d (.sl ((xs.take h).drop l)))
   |_,_=>False
 |some m=>match lo,hi with
  |none,some y=>match x.eY,dQ P T with
   |some xs,some (_,k)=>(∀c∈xs,c.length=k)/\ju ρ (some m) 0 λc=>c<=xs.length/\ju ρ (some y) 0 λh=>h=c/\K (.full (xs.take h))
   |_,_=>False
  |_,_=>False
def uR(h:anD ao)(k:Nat)(x:AV)(K:anD (anD D)->Prop):Prop:=
 match x with
 | .row n off len _ k'=>match h[n]? with
   |some (.cells cs)=>match mJ ((cs.drop off).take (len*k))with
    |some ds=>eQ (k'==k&&bS (off+len*k) cs.length&&((cs.drop off).take (len*k)).all AV.jV) (K (nP k len ds))
    |none=>False
   |_=>False
 |x=>match x.eY with
  |some ys=>(∀c∈ys,c.length=k)/\K ys
  |none=>False
def uQ(P:anG)(T:TypeId)(h:anD ao)(x y:AV)(K:AV->anD ao->Prop):Prop:=
 match dQ P T with
 |some (e,k)=>match iE P e,sM P e with
  |some z,some cr=>eQ (bS 1 k&&z.cells.toList.length==k)<|uR h k y λys=>
   match x with
   | .own n xs=>match h[n]? with
     |some (.front e' k' len)=>eQ (e'==e&&k'==k)<|len=xs.length/\(∀c∈xs,c.length=k)/\xs.length+ys.length<=maxLen/\(xs.length+ys.length)*cr<=140737488355328/\K (.own n (xs++ys)) (h.set n (.front e k (xs.length+ys.length)))
     |_=>False
   | .d (.v (.slice none 0 0))=>ys.length<=maxLen/\ys.length*cr<=140737488355328/\K (.own h.length ys) (h++[.front e k ys.length])
   | .full xs=>(∀c∈xs,c.length=k)/\xs.length+ys.length<=maxLen/\(xs.length+ys.length)*cr<=140737488355328/\K (.own h.length (xs++ys)) (h++[.front e k (xs.length+ys.length)])
   |_=>False
  |_,_=>False
 |none=>False
def Qx(P:anG)(T:TypeId):anF (anD (Nat×Nat)):=
 match P.underlying T with
 |some (.struct fs)=>E6 P fs.toList
 |_=>none
def wH(P:anG)(T:TypeId)(ps:anD (Nat×AV))(K:AV->Prop):Prop:=
 match Qx P T,iE P T with
 |some places,some z=>match oM places (z.cells.toList.map λu=> .d (.v u)) ps with
  |some cs=>eQ ((ps.all λp=>p.2.iX)&&z.cells.toList.all Value.oneCell') (K (.agg cs))
  |none=>False
 |_,_=>False
def vp(k:Nat):Nat->Nat->anD (Nat×Nat)
 |_,0=>[]
 |o,n+1=>(o,k)::vp k (o+k) n
def sH:Nat->anD AV->anD AV
 |0,_=>[]
 |n+1,l=>l++sH n l
def vz(P:anG)(T:TypeId)(len:Nat)(ps:anD (Nat×AV))(K:AV->Prop):Prop:=
 match dQ P T with
 |some (e,k)=>match iE P e with
  |some z=>match oM (vp k 0 len) (sH len (z.cells.toList.map λu=> .d (.v u))) ps with
   |some cs=>match mJ cs with
    |some ds=>eQ (bS 1 k&&bS (len*k) 16777216&&z.cells.toList.length==k&&z.cells.toList.all Value.oneCell'&&(ps.all λp=>p.2.iX)) (K (.full (nP k len ds)))
    |none=>False
   |none=>False
  |none=>False
 |none=>False
def Nz(P:anG)(t:TypeId)(x y:AV):anF Bool:=
 match x,y with
 | .d (.v (.int k a)), .d (.v (.int k' b))=>bif xx k k'&&(sf P t).isSome then some (a==b)else none
 | .d (.v (.string a)), .d (.v (.string b))=>bif gC P t then some (bL a==bL b)else none
 | .d (.v (.bool a)), .d (.v (.bool b))=>bif Af P t then some (a==b)else none
 |_,_=>none
def AZ(P:anG)(sub:TypeId->anD AV->anD AV->anF Bool):anD Field->anD AV->anD AV->anF Bool
 |[],_,_=>some true
 |f::fs,xs,ys=>bif f.name== "_" then none else
  match lV P f.type with
  |some false=>match xs[f.offset]?,ys[f.offset]? with
   |some x,some y=>match Nz P f.type x y,AZ P sub fs xs ys with
    |some a,some b=>some (a&&b)
    |_,_=>none
   |_,_=>none
  |some true=>match fz P f.type with
   |some k=>bif bS (f.offset+k) xs.length&&bS (f.offset+k) ys.length then match sub f.type ((xs.drop f.offset).take k) ((ys.drop f.offset).take k),AZ P sub fs xs ys with
    |some a,some b=>some (a&&b)
    |_,_=>none
    else none
   |none=>none
  |none=>none
def FC(P:anG):Nat->TypeId->anD AV->anD AV->anF Bool
 |0=>λ_ _ _=>none
 |d+1=>λT xs ys=>match P.underlying T with
  |some (.struct fs)=>bif P.stoodInHeld T then none else AZ P (FC P d) fs.toList xs ys
  |_=>none
def Ju(P:anG)(T:TypeId)(xs ys:anD AV):anF Bool:=
 match P.underlying T with
 |some (.struct fs)=>bif P.stoodInHeld T||P.eqGuardType P.depth T then none else AZ P (FC P 4) fs.toList xs ys
 |_=>none
def xw(op:BinOp)(b:Bool):anF anH:=
 match op with
 | .eql=>some (.bool b)
 | .neq=>some (.bool (!b))
 |_=>none
def wi(P:anG)(T:TypeId)(op:BinOp)(x y:AV)(K:AV->Prop):Prop:=
 match x,y with
 | .d (.v (.int k a)), .d (.v (.int k' b))=>
   match O9 op k a b with
   |some v=>eQ (xx k k') (b≠0/\K (.d (.v v)))
   |none=>match MO op k a b with
    |some v=>0<=b/\K (.d (.v v))
    |none=>match QC op k a b with
     |some v=>eQ (xx k k') (K (.d (.v v)))
     |none=>False
 | .d (.v (.string a)), .d (.v (.string b))=>match QI op a b with
   |some v=>K (.d (.v v))
   |none=>match op with
    | .add=>a.size+b.size<=maxLen/\K (.d (.v (.string (a++b))))
    |_=>False
 | .d (.v (.bool a)), .d (.v (.bool b))=>match LU op a b with
   |some v=>eQ (Af P T) (K (.d (.v v)))
   |none=>False
 | .agg xs, .agg ys=>match Ju P T xs ys with
   |some b=>match xw op b with
    |some v=>K (.d (.v v))
    |none=>False
   |none=>False
 |_,_=>False
def xz(op:UnOp)(x:AV)(K:AV->Prop):Prop:=
 match x with
 | .d (.v u)=>match IF op u with
   |some v=>K (.d (.v v))
   |none=>False
 |_=>False
def w8(P:anG)(src dst:TypeId)(x:AV)(K:AV->Prop):Prop:=
 match x with
 | .d (.v (.int _ n))=>match sf P src,sf P dst with
   |some _,some k=>K (.d (.v (.int k (k.wrap n))))
   |_,_=>False
 | .d (.v (.string b))=>eQ (gC P src&&gC P dst) (K (.d (.v (.string b))))
 |x=>match x.eY,dQ P src with
  |some xs,some (e,_)=>eQ (BC P e&&gC P dst) (∃ns:anD Int,xs=ns.map (λn=>[.v (.int .u8 n)])/\K (.d (.v (.string ⟨(ns.map λn=>UInt8.ofNat n.toNat).toArray⟩))))
  |_,_=>False
def x8(P:anG)(T:TypeId)(x:AV)(f:Nat)(K:AV->Prop):Prop:=
 match sL P T f,x with
 |some (off,k,true), .agg cs=>eQ (bS (off+k) cs.length) (K (.agg ((cs.drop off).take k)))
 |some (off,_,false), .agg cs=>match cs[off]? with
  |some c=>K c
  |none=>False
 |_,_=>False
def tK(P:anG)(T:TypeId):anF (TypeId×TypeId):=
 match P.underlying T with
 |some (.map k e)=>some (k,e)
 |_=>none
inductive Sd
 |no
 |lt (n:Nat)
def Sd.ok:Sd->Prop
 | .no=>True
 | .lt n=>n<maxLen
def FM:D->AV
 | .ag ds=> .agg (ds.map .d)
 |d=> .d d
def y9:anH->AV
 | .agg vs=> .agg (vs.toList.map λv=> .d (D.vn (.v v)))
 |v=> .d (.v v)
def ua(UI:Bool)(z:anH):anF D->AV
 |some d=>bif UI then .aQ [FM d, .d (.v (.bool true))]else FM d
 |none=>bif UI then .aQ [y9 z, .d (.v (.bool false))]else y9 z
def AV.QA:AV->anF D
 | .agg cs=>(mJ cs).map .ag
 |x=>x.xm
def p5(P:anG)(op:Op)(ρ:Operand->AV)(h:anD ao):anF (AV×anD ao×Sd):=
 match op with
 | .makeMap T none=>match tK P T with
   |some _=>some (.mp h.length,h++[.map []], .no)
   |none=>none
 | .lookup T m i ok=>match tK P T with
   |some (k,e)=>match iE P e with
    |some z=>match ρ m,ρ i with
     | .mp n, .d (.v (.string s))=>match h[n]? with
       |some (.map kv)=>bif gC P k then some (ua ok z (lQ kv s),h, .no)else none
       |_=>none
     |_,_=>none
    |none=>none
   |none=>none
 | .mapUpdate T m i x=>match tK P T with
   |some (k,_)=>match ρ m,ρ i,(ρ x).QA with
    | .mp n, .d (.v (.string s)),some d=>match h[n]? with
      |some (.map kv)=>bif gC P k then some (.d (.v undef),h.set n (.map ((s,d)::kv)), .lt kv.length)else none
      |_=>none
    |_,_,_=>none
   |none=>none
 |_=>none
inductive VA
 |no
 |el (c:List AV)
 |st (c:List AV) (cs:List (List AV))
 |mk (cs:List (List AV)) (len m:Nat)
 |ap (cs ys:List (List AV)) (L len:Nat)
 |ix (i:Nat)
 |ol (o len:Nat)
def Mi(P:anG)(t:TypeId)(c:anD AV)(j:Nat):anF AV:=
 match lV P t,fz P t with
 |some true,some k=>bif bS (j+k) c.length then some (.agg ((c.drop j).take k))else none
 |some false,some _=>c[j]?
 |_,_=>none
def bG(xs:anD (anD D)):anD (anD AV):=xs.map λc=>c.map AV.d
def yR(h:anD ao)(k:Nat)(y:AV)(ys:anD (anD AV)):Prop:=
 (∃xs,y.eY=some xs/\(∀c∈xs,c.length=k)/\ys=bG xs)\/(∃n o len L e cs,y= .vec n o len L k/\h[n]?=some (.vec e k cs)/\cs.length=L/\ys=(cs.drop o).take len/\∀c∈ys,c.all AV.jV=true)
def tB(ρ:Operand->AV)(d:Int):anF Operand->anF Int
 |none=>some d
 |some y=>(ρ y).int?
def hY(P:anG)(op:Op)(ρ:Operand->AV)(h:anD ao)(a:VA):anF (AV×anD ao×Prop):=
 match op with
 | .indexAddr T x i=>match ρ x,(ρ i).int?,dQ P T,a with
   | .vec n o len L k,some z,some (_,k'), .ix i'=>match h[n]? with
     |some (.vec _ k2 cs)=>bif k'==k&&k2==k then some (.db n i' 0 L k,h,cs.length=L/\0<=z/\z<len/\i'=o+z.toNat)else none
     |_=>none
   |_,_,_,_=>none
 | .fieldAddr S x f=>match ρ x,sL P S f with
   | .db n i j L k,some (fo,_,_)=>some (.db n i (j+fo) L k,h,True)
   |_,_=>none
 | .nilCheck x=>match ρ x with
   | .db n i j L k=>some (.db n i j L k,h,True)
   |_=>none
 | .load t p=>match ρ p,a with
   | .db n i j L k, .el c=>match h[n]?,Mi P t c j with
     |some (.vec _ k' cs),some x=>bif k'==k then some (x,h,cs.length=L/\cs[i]?=some c)else none
     |_,_=>none
   |_,_=>none
 | .store t p x=>match ρ p,a with
   | .db n i j L k, .st c bV=>match h[n]?,fz P t with
     |some (.vec e k' cs),some q=>bif k'==k&&q==(ρ x).cells.length&&(ρ x).iX&&bS (j+(ρ x).cells.length) k&&bS 1 k then some (.d (.v undef),h.set n (.vec e k bV),cs.length=L/\cs[i]?=some c/\bV=cs.set i (gM c j (ρ x).cells))else none
     |_,_=>none
   |_,_=>none
 | .slice T x lo hi none=>match ρ x,dQ P T,a with
   | .vec n o len L k,some (_,k'), .ol o' gJ=>match tB ρ 0 lo,tB ρ len hi with
     |some l,some u=>match h[n]? with
      |some (.vec _ k2 cs)=>bif k'==k&&k2==k then some (.vec n o' gJ L k,h,cs.length=L/\0<=l/\l<=u/\u<=(L:Int)-o/\o'=o+l.toNat/\gJ=u.toNat-l.toNat)else none
      |_=>none
     |_,_=>none
   |_,_,_=>none
 | .makeSlice T l c=>match dQ P T,(ρ l).int?,(ρ c).int?,a with
   |some (e,k),some l,some c, .mk cs len m=>match iE P e,sM P e with
    |some z,some cr=>bif bS 1 k&&z.cells.toList.length==k&&z.cells.toList.all Value.oneCell' then some (.vec h.length 0 len m k,h++[.vec e k cs],0<=l/\l<=c/\l.toNat=len/\c.toNat=m/\cs=List.replicate m (z.cells.toList.map λu=> .d (.v u))/\m<=maxLen/\cr*m<=281474976710656)else none
    |_,_=>none
   |_,_,_,_=>none
 | .call c=>match c.callee with
   | .builtin .len=>match c.args.toList,c.argTypes.toList with
     |[x],[T]=>match ρ x with
      | .vec n _ len L k=>match h[n]? with
        |some (.vec _ k2 cs)=>bif (dQ P T).isSome&&k2==k then some (.d (.v (.int .i64 len)),h,cs.length=L)else none
        |_=>none
      |_=>none
     |_,_=>none
   | .builtin .append=>match c.args.toList,c.argTypes.toList with
     |[x,y],[T,U]=>match dQ P T,dQ P U,a with
      |some (e,k),some _, .ap bV ys L' gJ=>match iE P e,sM P e with
       |some z,some cr=>bif bS 1 k&&z.cells.toList.length==k then
        match ρ x with
        | .vec n o len L k1=>match h[n]? with
          |some (.vec e1 k2 cs)=>bif k1==k&&k2==k&&e1==e then some (.vec n o gJ L' k,h.set n (.vec e k bV),cs.length=L/\yR h k (ρ y) ys/\gJ=len+ys.length/\
           ((o+len+ys.length<=L/\L'=L/\bV=cs.take (o+len)++ys++cs.drop (o+len+ys.length))\/(o=0/\len=L/\L'=L+ys.length/\bV=cs++ys/\L'<=maxLen/\L'*cr<=140737488355328)))else none
          |_=>none
        | .d (.v (.slice none 0 0))=>some (.vec h.length 0 gJ L' k,h++[.vec e k bV],yR h k (ρ y) ys/\bV=ys/\gJ=ys.length/\L'=ys.length/\L'<=maxLen/\L'*cr<=140737488355328)
        | .full xs=>some (.vec h.length 0 gJ L' k,h++[.vec e k bV],xs=[]/\yR h k (ρ y) ys/\bV=ys/\gJ=ys.length/\L'=ys.length/\L'<=maxLen/\L'*cr<=140737488355328)
        |_=>none
       else none
       |_,_=>none
      |_,_,_=>none
     |_,_=>none
   |_=>none
 |_=>none
def Gq(mx:Bool)(k:IntKind):Int->anD AV->anF (IntKind×Int)
 |a,[]=>some (k,a)
 |a, .d (.v (.int _ b))::l=>Gq mx k (bif mx then(if b>a then b else a)else(if b<a then b else a)) l
 |_,_=>none
def A1(mx:Bool):anD AV->anF (IntKind×Int)
 | .d (.v (.int k a))::l=>Gq mx k a l
 |_=>none
def cg(P:anG)(o:Oper)(ρ:Operand->AV)(h:anD ao)(C:AV->anD ao->Prop):Prop:=
 match o.op with
 | .move x| .assign x=>C (ρ x) h
 | .pick c a b=>match ρ c with
   | .d (.v (.bool t))=>(t=true->C (ρ a) h)/\(t=false->C (ρ b) h)
   |_=>False
 | .alloc e=>match iE P e with
   |some z=>C (.ptr h.length 0) (h++[ao.cells (z.cells.toList.map λu=> .d (.v u))])
   |none=>False
 | .box _ x=>eQ (ρ x).iX<|C (.ptr h.length 0) (h++[ao.cells (ρ x).cells])
 | .load t a=>oG P t h (ρ a) λx=>C x h
 | .store t a x=>xv P t h (ρ a) (ρ x) λh'=>C (.d (.v undef)) h'
 | .nilCheck x=>match ρ x with
   | .ptr n off=>C (.ptr n off) h
   | .ba xs i off=>C (.ba xs i off) h
   | .fn f cs=>C (.fn f cs) h
   |_=>False
 | .fieldAddr S x f=>match sL P S f with
   |some (fo,_,_)=>match ρ x with
    | .ptr n off=>C (.ptr n (off+fo)) h
    | .ba xs i off=>C (.ba xs i (off+fo)) h
    |_=>False
   |none=>False
 | .field T x f=>x8 P T (ρ x) f λy=>C y h
 | .indexAddr T x i=>sq P T (ρ x) (ρ i) λy=>C y h
 | .index T x i=>match ρ x,(ρ i).int? with
   | .d (.v (.string b)),some z=>eQ (gC P T) (0<=z/\(match b[z.toNat]? with|some c=>C (.d (.v (.int .u8 c.toNat))) h|none=>False))
   |_,_=>False
 | .build T ps=>wH P T (ps.toList.map λp=>(p.1,ρ p.2)) λy=>C y h
 | .buildSlice T len ps=>vz P T len (ps.toList.map λp=>(p.1,ρ p.2)) λy=>C y h
 | .slice T x lo hi mx=>uL P T ρ (ρ x) lo hi mx λy=>C y h
 | .extract x i=>match ρ x with
   | .aQ cs=>match cs[i]? with
     |some c=>C c h
     |none=>False
   |_=>False
 | .makeFunc (.func f) first cN=>match Nd f (first.toList.map ρ) (cN.toList.map ρ)with
   |some x=>C x h
   |none=>False
 | .binOp op T x y _=>wi P T op (ρ x) (ρ y) λv=>C v h
 | .unOp op _ x=>xz op (ρ x) λv=>C v h
 | .convert a b x=>w8 P a b (ρ x) λv=>C v h
 | .call c=>match c.callee with
   | .builtin .len=>match c.args.toList,c.argTypes.toList with
     |[x],[T]=>s8 P T (ρ x) λn=>C (.d (.v (.int .i64 n))) h
     |_,_=>False
   | .builtin .append=>match c.args.toList,c.argTypes.toList with
     |[x,y],[T,U]=>eQ (dQ P U).isSome<|uQ P T h (ρ x) (ρ y) λv h'=>C v h'
     |_,_=>False
   | .builtin .max=>match A1 true (c.args.toList.map ρ)with
     |some (k,a)=>C (.d (.v (.int k a))) h
     |none=>False
   | .builtin .min=>match A1 false (c.args.toList.map ρ)with
     |some (k,a)=>C (.d (.v (.int k a))) h
     |none=>False
   | .value f=>match ρ f with
     | .fn g cN=>cp P g (c.args.toList.map ρ++cN) h λr h'=>C r h'
     | .hid q=>∃g as,q.app (c.args.toList.map ρ)=some (g,as)/\cp P g as h λr h'=>C r h'
     |_=>False
   |_=>False
 |op=>match p5 P op ρ h with
  |some (x,h',p)=>p.ok/\C x h'
  |none=>False
def Fs(P:anG)(o:Oper)(K:St->Prop)(s:St):Prop:=
 match o.op with
 | .binOp op T x y _=>match (ev s x).eY,ev s y,dQ P T,xw op true,xw op false with
   |some xs, .d (.v (.slice none 0 0)),some _,some v1,some v2=>(xs=[]->K (s.put o.dst (.d (.v v1))))/\K (s.put o.dst (.d (.v v2)))
   |_,_,_,_,_=>False
 |_=>False
def J7(P:anG)(o:Oper)(K:St->Prop)(s:St):Prop:=∃a x h' p,hY P o.op (ev s) s.h a=some (x,h',p)/\p/\K ((s.wh h').put o.dst x)
def qC(P:anG)(o:Oper)(K:St->Prop)(s:St):Prop:=cg P o (ev s) s.h λx h=>K ((s.wh h).put o.dst x)
def aaA(P:anG)(o:Oper)(K:St->Prop)(s:St):Prop:=J7 P o K s\/Fs P o K s\/qC P o K s
theorem lB(b o n:Nat):(⟨b,o,none⟩:Addr).add n=⟨b,o+n,none⟩:=by unfold Addr.add;split<;>simp_all
structure cx(G:Gh)(w:World)(a:Act)(s:St):Prop where
 size:a.tmps.size=s.n
 tmp:∀i,aE G w (a.tmps.getD i undef) (aY s.t i)
 inv:bC G w s.h
 df:rB G w a.defers
theorem nO.av{G:Gh}{w:anI}{u:anH}{c:ep}(h:nO G.S w u c):aE G w u c.av:=by
 cases h with
 |d h=>exact .d h
 |ba c off b o u h1 h2=>exact .ba [c] 0 off b o u c rfl h1 h2
 |fn f vs cs hl h=>exact .hid (.fn f vs cs hl h) rfl
 |nt f vs cs hl h=>exact .hid (.nt f vs cs hl h) rfl
theorem aE.jV{G:Gh}{w:anI}{u:anH}{x:AV}(h:aE G w u x)(hb:x.jV=true):u.oneCell'=true:=by
 cases h with
 |d hp=>cases hp with
  |v u=>exact hb
  |sl=>rfl
  |ag=>simp [AV.jV]at hb
 |agg=>simp [AV.jV]at hb
 |aQ=>simp [AV.jV]at hb
 |own n xs _ hp=>cases hp;rfl
 |vec n o len L k _ hs=>obtain⟨A,l,c,rfl⟩:=hs;rfl
 |db n i j L k _ hs=>obtain⟨b,q,rfl⟩:=hs;rfl
 |full xs hp=>cases hp;rfl
 |hid h h1=>exact h1
 |dead=>simp [AV.jV]at hb
 |_=>rfl
theorem aE.cells{G:Gh}{w:anI}{u:anH}{x:AV}(h:aE G w u x)(hb:x.iX=true):
 u.cells.size=x.cells.length/\∀(i:Nat)(v:anH)(c:AV),u.cells[i]?=some v->x.cells[i]?=some c->aE G w v c/\v.oneCell'=true:=by
 have one:x.jV=true->x.cells=[x]->u.cells.size=x.cells.length/\∀(i:Nat)(v:anH)(c:AV),u.cells[i]?=some v->x.cells[i]?=some c->aE G w v c/\v.oneCell'=true:=by
  intro hc hx;have ho:=h.jV hc;have hu:u.cells= #[u]:=by cases u<;>simp_all [Value.cells,Value.oneCell']
  rw[hu,hx];refine⟨rfl,λi v c h1 h2=> ?_⟩
  match i with
  |0=>simp at h1 h2;subst h1;subst h2;exact⟨h,ho⟩
  |i+1=>simp at h2
 cases x with
 |agg cs=>
  cases h with
  |agg vs cs hl hr=>
   refine⟨hl,λi v c h1 h2=> ?_⟩;have hv:=hr i v c h1 h2;refine⟨hv,hv.jV ?_⟩;simp only[AV.iX,ane]at hb;exact hb c (am0 h2)
 |aQ cs=>simp [AV.iX,AV.jV]at hb
 |dead=>simp [AV.iX,AV.jV]at hb
 |_=>exact one hb rfl
theorem bC.lt{G:Gh}{w:anI}{h:anD ao}(hi:bC G w h){n:Nat}{B:ao}(hb:h[n]?=some B):n<G.N:=by
 rw[<-hi.len];exact(amN.1 hb).1
theorem bC.gr{G:Gh}{w:anI}{h:anD ao}(hi:bC G w h){n b:Nat}(hb:bz h G n=some b):b<w.heap.size:=by
 obtain⟨B,hB,hb⟩:=oB hb;have hr:=hi.cT n B hB;cases B with
 |gone=>cases hb
 |cells cs=>
  obtain⟨_,_,vs,T,hh,_⟩:=hr;cases hb
  exact(am2.1 hh).1
 |lp ls p as bd cs=>
  obtain⟨_,_,fn,vs,T,hh,_⟩:=hr;cases hb
  exact(am2.1 hh).1
 |it sn cs=>
  obtain⟨_,_,fn,vs,T,hh,_⟩:=hr;cases hb
  exact(am2.1 hh).1
 |dM T0 cs=>
  obtain⟨_,_,fn,vs,T,hh,_⟩:=hr;cases hb
  exact(am2.1 hh).1
 |map kv=>
  obtain⟨_,_,es,c,hh,_⟩:=hr;cases hb
  exact(am2.1 hh).1
 |iI kv=>
  obtain⟨_,_,es,c,hh,_⟩:=hr;cases hb
  exact(am2.1 hh).1
 |front e k len=>
  have hb:G.ow n=some b:=hb;obtain⟨_,_,h1|⟨g,cap,cur,h1,_,_,hh,_⟩⟩:=hr
  ·rw[h1.1]at hb;cases hb
  ·rw[h1]at hb;cases hb;exact(am2.1 hh).1
 |byt e b2=>
  have hb:G.ow n=some b:=hb;obtain⟨_,_,h1|⟨g,cap,cur,h1,_,_,hh,_⟩⟩:=hr
  ·rw[h1.1]at hb;cases hb
  ·rw[h1]at hb;cases hb;exact(am2.1 hh).1
 |vec e k cs=>
  have hb:G.ow n=some b:=hb;obtain⟨_,_,_,h1|⟨g,cap,cur,h1,_,_,hh,_⟩⟩:=hr
  ·rw[h1.1]at hb;cases hb
  ·rw[h1]at hb;cases hb;exact(am2.1 hh).1
theorem dB.kW{G:Gh}{w:anI}{n b:Nat}{B:ao}(hr:dB G w n B)(hb:B.dw G n=some b):¬G.Z b:=by
 cases B with
 |gone=>cases hb
 |cells cs=>cases hb;exact hr.1
 |lp ls p as bd cs=>cases hb;exact hr.1
 |it sn cs=>cases hb;exact hr.1
 |dM T0 cs=>cases hb;exact hr.1
 |map kv=>cases hb;exact hr.1
 |iI kv=>cases hb;exact hr.1
 |front e k len=>
  have hb:G.ow n=some b:=hb;obtain⟨_,_,h1|⟨g,cap,cur,h1,_,hz,_⟩⟩:=hr
  ·rw[h1.1]at hb;cases hb
  ·rw[h1]at hb;cases hb;exact hz
 |byt e b2=>
  have hb:G.ow n=some b:=hb;obtain⟨_,_,h1|⟨g,cap,cur,h1,_,hz,_⟩⟩:=hr
  ·rw[h1.1]at hb;cases hb
  ·rw[h1]at hb;cases hb;exact hz
 |vec e k cs=>
  have hb:G.ow n=some b:=hb;obtain⟨_,_,_,h1|⟨g,cap,cur,h1,_,hz,_⟩⟩:=hr
  ·rw[h1.1]at hb;cases hb
  ·rw[h1]at hb;cases hb;exact hz
theorem tJ.keep{S S':Nat->Nat->Prop}{w w':anI}{es:Array MapEntry}{c:Nat}{kv:anD (anE×D)}(h:tJ S w es c kv)(hS:∀b o,S b o->S' b o)(hc:∀b o,S b o->w'.cell? ⟨b,o,none⟩=w.cell? ⟨b,o,none⟩):tJ S' w' es c kv:=
 ⟨h.size,h.stamped,λe he=>let ⟨s,d,h1,h2,h3⟩:=h.Ae e he;⟨s,d,h1,h2,h3.keep hS hc⟩,h.all,h.len,h.born,h.DV⟩
theorem yc.keep{S S':Nat->Nat->Prop}{w w':anI}{es:Array MapEntry}{c:Nat}{kv:anD (anE×D)}(h:yc S w es c kv)(hS:∀b o,S b o->S' b o)(hc:∀b o,S b o->w'.cell? ⟨b,o,none⟩=w.cell? ⟨b,o,none⟩):yc S' w' es c kv:=
 ⟨h.ok.keep hS hc,λi e he=>let ⟨p,h1,h2,h3⟩:=h.ord i e he;⟨p,h1,h2,h3.keep hS hc⟩,h.all⟩
theorem dB.keep{G G':Gh}{w w':anI}{n:Nat}(hn:n<G.N)(hE:bx G.N G w G' w')(hN:G.N<=G'.N){B:ao}
 (hg:G'.fl n=G.fl n/\G'.sg n=G.sg n/\G'.ow n=G.ow n)
 (ho:∀b,B.dw G n=some b->w'.heap[b]?=w.heap[b]?/\∀o,¬G.S b o->¬G'.S b o)
 (h:dB G w n B):dB G' w' n B:=by
 obtain⟨f1,f2,f3⟩:=hg;cases B with
 |gone=>trivial
 |cells cs=>
  obtain⟨h1,h2,vs,T,h3,h4,h5⟩:=h;obtain⟨c2,c1⟩:=ho _ rfl;refine⟨by rw[hE.aI n hn];exact hE.kW (am2.1 h3).1 h1,by rw[hE.aI n hn];exact λo=>c1 o (h2 o),vs,T,by rw[hE.aI n hn,c2];exact h3,h4,λi u c hu hc=>(h5 i u c hu hc).keep hE hN⟩
 |lp ls p as bd cs=>
  obtain⟨h1,h2,fn,vs,T,h3,h4,h5⟩:=h;obtain⟨c2,c1⟩:=ho _ rfl;refine⟨by rw[hE.aI n hn];exact hE.kW (am2.1 h3).1 h1,by rw[hE.aI n hn];exact λo=>c1 o (h2 o),fn,vs,T,by rw[hE.aI n hn,c2];exact h3,h4,λi u c hu hc=>(h5 i u c hu hc).keep hE hN⟩
 |it sn cs=>
  obtain⟨h1,h2,fn,vs,T,h3,h4,h5⟩:=h;obtain⟨c2,c1⟩:=ho _ rfl;refine⟨by rw[hE.aI n hn];exact hE.kW (am2.1 h3).1 h1,by rw[hE.aI n hn];exact λo=>c1 o (h2 o),fn,vs,T,by rw[hE.aI n hn,c2];exact h3,h4,λi u c hu hc=>(h5 i u c hu hc).keep hE hN⟩
 |dM T0 cs=>
  obtain⟨h1,h2,fn,vs,T,h3,h4,h5⟩:=h;obtain⟨c2,c1⟩:=ho _ rfl;refine⟨by rw[hE.aI n hn];exact hE.kW (am2.1 h3).1 h1,by rw[hE.aI n hn];exact λo=>c1 o (h2 o),fn,vs,T,by rw[hE.aI n hn,c2];exact h3,by rw[hE.aI n hn];exact h4,λi u c hu hc=>(h5 i u c hu hc).keep hE hN⟩
 |map kv=>
  obtain⟨h1,h2,es,c,h3,h4⟩:=h;obtain⟨c2,c1⟩:=ho _ rfl;exact⟨by rw[hE.aI n hn];exact hE.kW (am2.1 h3).1 h1,by rw[hE.aI n hn];exact λo=>c1 o (h2 o),es,c,by rw[hE.aI n hn,c2];exact h3,h4.keep hE.S hE.cell⟩
 |iI kv=>
  obtain⟨h1,h2,es,c,h3,h4⟩:=h;obtain⟨c2,c1⟩:=ho _ rfl;exact⟨by rw[hE.aI n hn];exact hE.kW (am2.1 h3).1 h1,by rw[hE.aI n hn];exact λo=>c1 o (h2 o),es,c,by rw[hE.aI n hn,c2];exact h3,h4.keep hE.S hE.cell⟩
 |byt e b=>
  obtain⟨h1,hm,h2⟩:=h;refine⟨f1.trans h1,hm,?_⟩;rcases h2 with⟨h2,h0,A,h3⟩|⟨g,cap,cur,h2,h3,h4,h5,h6,h7,h8,h9,bk⟩
  ·exact .inl ⟨f3.trans h2,h0,A,f2.trans h3⟩
  ·obtain⟨f5,f6⟩:=ho g h2;exact .inr ⟨g,cap,cur,f3.trans h2,f2.trans h3,hE.kW (am2.1 h5).1 h4,f5.trans h5,h6,h7,h8,λo=>f6 o (h9 o),bk⟩
 |front e k len=>
  obtain⟨h1,hm,h2⟩:=h;refine⟨f1.trans h1,hm,?_⟩;rcases h2 with⟨h2,A,h3⟩|⟨g,cap,cur,h2,h3,h4,h5,h6,h7,h8,h9⟩
  ·exact .inl ⟨f3.trans h2,A,f2.trans h3⟩
  ·obtain⟨f5,f6⟩:=ho g h2;exact .inr ⟨g,cap,cur,f3.trans h2,f2.trans h3,hE.kW (am2.1 h5).1 h4,f5.trans h5,h6,h7,h8,λo ho=>f6 o (h9 o ho)⟩
 |vec e k cs=>
  obtain⟨h1,hm,hk,h2⟩:=h;refine⟨f1.trans h1,hm,hk,?_⟩;rcases h2 with⟨h2,e2,A,h3⟩|⟨g,cap,cur,h2,h3,h4,h5,h6,h7,h8,h9,bk⟩
  ·exact .inl ⟨f3.trans h2,e2,A,f2.trans h3⟩
  ·obtain⟨f5,f6⟩:=ho g h2;exact .inr ⟨g,cap,cur,f3.trans h2,f2.trans h3,hE.kW (am2.1 h5).1 h4,f5.trans h5,h6,h7,h8,λo=>f6 o (h9 o),λi j c x u hc hx hu=>(bk i j c x u hc hx hu).keep hE hN⟩
theorem cx.put{G:Gh}{w:anI}{a:Act}{s:St}(h:cx G w a s){v:anH}{x:AV}(hv:aE G w v x)(dst:anF Nat):cx G w (a.put dst v) (s.put dst x):=by
 cases dst with
 |none=>exact h
 |some d=>
  by_cases hd:d<s.n
  ·have e1:s.put (some d) x={s with t:=(d,x)::s.t}:=ur hd x;rw[e1];refine⟨by simp [Act.put,h.size],λi=> ?_,h.inv,h.df⟩;by_cases hi:i=d
   ·subst hi;have:(a.tmps.setIfInBounds i v).getD i undef=v:=by simp [Array.getD,h.size,hd]
    simp only[Act.put,this,nh,if_true];exact hv
   ·have:(a.tmps.setIfInBounds d v).getD i undef=a.tmps.getD i undef:=by simp [Array.getElem?_setIfInBounds_ne (Ne.symm hi)]
    simp only[Act.put,this,nh,if_neg hi];exact h.tmp i
  ·have e1:s.put (some d) x=s:=Bx hd x;have e2:a.put (some d) v=a:=by
    have:a.tmps.setIfInBounds d v=a.tmps:=Array.setIfInBounds_eq_of_size_le (by rw[h.size];omega);simp [Act.put,this]
   rw[e1,e2];exact h
theorem cx.move{G G':Gh}{w w':anI}{a:Act}{s:St}(h:cx G w a s)(hE:bx G.N G w G' w')(hN:G.N<=G'.N){h':anD ao}(hi:bC G' w' h'):cx G' w' a {s with h:=h'}:=
 ⟨h.size,λi=>(h.tmp i).keep hE hN,hi,h.df.keep hE⟩
theorem cx.ev{G:Gh}{w:anI}{a:Act}{s:St}(h:cx G w a s)(x:Operand):aE G w (a.eval x) (ev s x):=by
 cases x with
 |tmp t=>exact h.tmp t
 |const v=>
  show aE G w v (OR v);unfold OR;split
  ·rename_i vs
   exact .agg vs _ (by simp) λi u c hu hc=>by
    simp only[amU,ana,hu,Option.map_some,Option.some.injEq]at hc;subst hc;exact .d (.v u)
  ·rename_i vs
   exact .aQ vs _ (by simp) λi u c hu hc=>by
    simp only[amU,ana,hu,Option.map_some,Option.some.injEq]at hc;subst hc;exact .d (.v u)
  ·exact .d (.v v)
 |global g=>
  show aE G w (.pointer (some ⟨g,0,none⟩)) (match Aa zn g with|some l=> .ba [l.map .v] 0 0|none=> .dead);split
  ·next l hl=>
   have hg:=h.inv.gl.1 g l (Yx hl);have:=aE.ba (G:=G) (w:=w) [l.map .v] 0 0 g 0 (λj=>l.getD j undef) (l.map .v) rfl (λj hj=> ?_) (λj d hd=> ?_)
   ·exact this
   ·rw[amS]at hj;have e:l[j]?=some l[j]:=amR hj;rw[am7];refine⟨(hg j _ e).1,?_⟩;rw[(hg j _ e).2];simp [hj]
   ·rw[amU]at hd;cases e:l[j]? with
    |none=>rw[e]at hd;cases hd
    |some v=>
     rw[e]at hd;cases hd
     have:l.getD j undef=v:=by simp [List.getD,e]
     rw[this];exact .v v
  ·exact .dead _
 |func f=>exact .fn f #[] [] rfl λi u c hu=>by simp at hu
def Gh.cv(G:Gh)(b:Nat):Gh:={G with N:=G.N+1,aI:=λn=>if n=G.N then b else G.aI n}
theorem rD(G:Gh)(w:anI)(hz:∀b,G.Z b->b<w.heap.size)(hS:∀b o,G.S b o->b<w.heap.size)(o:Obj):bx G.N G w (G.cv w.heap.size) (w.alloc o):=
 ⟨by simp,λ_ _ h=>h,λb _ h=>World.cell?_alloc_lt _ _ _ (hS _ _ h),λn hn=>by simp [Gh.cv,Nat.ne_of_lt hn],λ_ _=> .inl ⟨rfl,rfl⟩,gV rfl,
  λb hb=>Below.heap_alloc w o b (hz b hb),rfl,rfl,rfl,λ_ _ h=> .inl h⟩
theorem Sp{G:Gh}{w:anI}{h:anD ao}(hi:bC G w h)(vs:Array anH)(T:TypeId)(cs:anD AV)(hl:vs.size=cs.length)
 (hr:∀(i:Nat)(u:anH)(c:AV),vs[i]?=some u->cs[i]?=some c->aE G w u c):
 bC (G.cv w.heap.size) (w.alloc (.cells vs T)) (h++[.cells cs])/\aE (G.cv w.heap.size) (w.alloc (.cells vs T)) (.pointer (some ⟨w.heap.size,0,none⟩)) (.ptr h.length 0):=by
 have hE:=rD G w hi.z hi.S (.cells vs T);have hN:G.N<=(G.cv w.heap.size).N:=Nat.le_succ _;have fy:(G.cv w.heap.size).aI h.length=w.heap.size:=by simp [Gh.cv,hi.len]
 have kN:∀n(B:ao),n<G.N->B.dw (G.cv w.heap.size) n=B.dw G n:=λn B hn=>by
  cases B<;>simp [ao.dw,Gh.cv,Nat.ne_of_lt hn]
 have fk:∀n,n<G.N->bz (h++[.cells cs]) (G.cv w.heap.size) n=bz h G n:=λn hn=>by
  have aJ:n<h.length:=by rw[hi.len];exact hn
  unfold bz;rw[amX aJ,amR aJ];exact kN n _ hn
 have rL:bz (h++[.cells cs]) (G.cv w.heap.size) h.length=some w.heap.size:=by
  rw[di (B:= .cells cs) (by simp)];exact congrArg some fy
 refine⟨⟨by simp [Gh.cv,hi.len],λb hb=>anb (hi.z b hb) hE.size,λb o hs=>anb (hi.S b o hs) hE.size,λn B hB=> ?_,λm n b hm hn=> ?_,hi.gl.keep hE⟩,?_⟩
 ·by_cases hn:n<h.length
  ·rw[amX hn]at hB;have dL:n<G.N:=hi.len▸hn;exact dB.keep dL hE hN ⟨rfl,rfl,rfl⟩ (λb hb=>⟨Below.heap_alloc w _ _ (hi.gr (n:=n) ((di hB).trans hb)),λo h=>h⟩) (hi.cT n B hB)
  ·have kD:n=h.length:=by
    have:=(amN.1 hB).1;simp at this;omega
   subst kD;simp at hB;subst hB;exact⟨by rw[fy];exact λhz=>ans _ (hi.z _ hz),λo hs=>by rw[fy]at hs;exact ans _ (hi.S _ _ hs),vs,T,by rw[fy];exact World.alloc_heap_new w _,hl,λi u c hu hc=>(hr i u c hu hc).keep hE hN⟩
 ·have key:∀n b,bz (h++[.cells cs]) (G.cv w.heap.size) n=some b->(n<G.N/\bz h G n=some b)\/(n=h.length/\b=w.heap.size):=λn b hn=>by
   by_cases aJ:n<G.N
   ·exact .inl ⟨aJ,by rw[<-fk n aJ];exact hn⟩
   ·by_cases e:n=h.length
    ·subst e;rw[rL]at hn;cases hn;exact .inr ⟨rfl,rfl⟩
    ·rw[ue (ank (by simp;have:=hi.len;omega))]at hn;cases hn
  rcases key m b hm with⟨_,iL⟩|⟨rfl,rfl⟩<;>rcases key n _ hn with⟨_,dL⟩|⟨rfl,hb⟩
  ·exact hi.inj m n b iL dL
  ·have:=hi.gr iL;omega
  ·have:=hi.gr dL;omega
  ·rfl
 ·have:=aE.ptr (G:=G.cv w.heap.size) (w:=w.alloc (.cells vs T)) h.length 0 (by simp [Gh.cv,hi.len])
  rwa [fy]at this
theorem Kx(w:anI)(g:Nat)(cs:Array anH):(w.setRow g cs).heap.size=w.heap.size:=by simp [World.setRow]
theorem abe(w:anI)(g:Nat)(cs:Array anH)(b o:Nat)(h:b≠g):(w.setRow g cs).cell? ⟨b,o,none⟩=w.cell? ⟨b,o,none⟩:=World.cell?_of_block (setRow_other w g b cs h)
theorem alA{G:Gh}{w:anI}{g:Nat}(cs:Array anH)(hg:¬G.Z g)(hS:∀b o,G.S b o->(w.setRow g cs).cell? ⟨b,o,none⟩=w.cell? ⟨b,o,none⟩):bx G.N G w G (w.setRow g cs):=
 ⟨by rw[Kx];exact amY _,λ_ _ h=>h,hS,λ_ _=>rfl,λ_ _=> .inl ⟨rfl,rfl⟩,gV rfl,λb hb=>setRow_other w g b cs (λe=>hg (e▸hb)),rfl,rfl,rfl,λ_ _ h=> .inl h⟩
theorem EX(cs ys:anD AV)(off:Nat)(h:off+ys.length<=cs.length):(gM cs off ys).length=cs.length:=by
 simp [gM];omega
theorem ald{R:anH->AV->Prop}(vs us:Array anH)(cs ys:anD AV)(off:Nat)(hl:vs.size=cs.length)(hu:us.size=ys.length)(hb:off+ys.length<=cs.length)
 (hr:∀(i:Nat)(u:anH)(c:AV),vs[i]?=some u->cs[i]?=some c->R u c) (kS:∀(i:Nat)(u:anH)(c:AV),us[i]?=some u->ys[i]?=some c->R u c):
 ∀(i:Nat)(u:anH)(c:AV),(vs.toList.take off++us.toList++vs.toList.drop (off+us.toList.length)).toArray[i]?=some u->(gM cs off ys)[i]?=some c->R u c:=by
 intro i u c h1 h2;have oh:us.toList.length=ys.length:=by rw[anl,hu]
 rw[oh]at h1;rw[List.getElem?_toArray]at h1;unfold gM at h2;simp only[am4]at h1 h2;have wa:vs.toList.length=cs.length:=by rw[anl,hl]
 by_cases h:i<off
 ·rw[amX (by simp;omega),List.getElem?_take_of_lt h]at h1;rw[amX (by simp;omega),List.getElem?_take_of_lt h]at h2;exact hr i u c (by rw[<-ana];exact h1) h2
 ·rw[am3 (by simp;omega)]at h1 h2;simp only[List.length_take,wa]at h1 h2;rw[Nat.min_eq_left (by omega)]at h1 h2;by_cases h':i-off<ys.length
  ·rw[amX (by rw[oh];exact h')]at h1;rw[amX h']at h2;exact kS (i-off) u c (by rw[<-ana];exact h1) h2
  ·rw[am3 (by rw[oh];omega),List.getElem?_drop]at h1;rw[am3 (by omega),List.getElem?_drop]at h2;rw[oh]at h1;rw[show off+ys.length+(i-off-ys.length)=i by omega]at h1 h2;exact hr i u c (by rw[<-ana];exact h1) h2
theorem aeO{P:anG}{G:Gh}{w:anI}{h:anD ao}(hi:bC G w h){n off:Nat}{cs:anD AV}(hn:h[n]?=some (.cells cs)){t:TypeId}{v:anH}{x:AV}
 (hv:aE G w v x) (hb:x.iX=true) (ht:fz P t=some x.cells.length) (ho:off+x.cells.length<=cs.length):
 ∃w',(storeVar t ⟨G.aI n,off,none⟩ v).run P w= .ok () w'/\bx G.N G w G w'/\bC G w' (h.set n (.cells (gM cs off x.cells))):=by
 obtain⟨hz,hS,vs,T,hh,hl,hr⟩:=hi.cT n _ hn;obtain⟨yK,NS⟩:=hv.cells hb;obtain⟨i,jx,jY⟩:∃i,P.info? t=some i/\i.size=x.cells.length:=by
  unfold fz at ht;cases hq:P.info? t with
  |none=>rw[hq]at ht;cases ht
  |some i=>rw[hq]at ht;exact⟨i,rfl,by simpa using ht⟩
 have jn:=run_storeCells_at P (G.aI n) off T v.cells.toList 0 vs w hh (by rw[anl,yK,hl];simpa using ho) (λu hu=>by
  obtain⟨j,hj⟩:=List.mem_iff_getElem?.1 hu;have iy:v.cells[j]?=some u:=by rw[<-ana];exact hj
  have zF:j<x.cells.length:=by rw[<-yK];exact(am2.1 iy).1
  exact(NS j u _ iy (amR zF)).2)
 simp only[Nat.add_zero]at jn;obtain⟨w',dS⟩:∃w',w'=w.setRow (G.aI n) (vs.toList.take off++v.cells.toList++vs.toList.drop (off+v.cells.toList.length)).toArray:=⟨_,rfl⟩;rw[<-dS]at jn;have hE:bx G.N G w G w':=by
  rw[dS];exact alA _ hz λb o hs=>abe w _ _ b o (λe=>hS o (e▸hs))
 have dW:∀m,m≠n->(h.set n (.cells (gM cs off x.cells)))[m]?=h[m]?:=λm hm=>by rw[anm (Ne.symm hm)]
 have lP:(h.set n (.cells (gM cs off x.cells)))[n]?=some (.cells (gM cs off x.cells)):=by
  rw[anh (amN.1 hn).1]
 have dP:∀m,bz (h.set n (.cells (gM cs off x.cells))) G m=bz h G m:=λm=>by
  by_cases e:m=n
  ·subst e;rw[di lP,di hn];rfl
  ·unfold bz;rw[dW m e]
 have k8:bz h G n=some (G.aI n):=di hn;refine⟨w',?_,hE,⟨by rw[List.length_set];exact hi.len,λb hb=>anb (hi.z b hb) hE.size,λb o hs=>anb (hi.S b o hs) hE.size,λm B hB=> ?_,λm m' b h1 h2=>hi.inj m m' b (by rw[<-dP];exact h1) (by rw[<-dP];exact h2),hi.gl.keep hE⟩⟩
 ·unfold storeVar;simp only[sizeOf,typeInfo,Sem.run_bind,yK];simp [jx,jY,jn]
 ·by_cases e:m=n
  ·subst e;rw[lP]at hB;cases hB
   refine⟨hz,hS,_,T,by rw[dS];exact setRow_heap w _ vs _ T _ hh,?_,λi u c hu hc=> ?_⟩
   ·rw[EX _ _ _ ho];have:v.cells.toList.length=x.cells.length:=by rw[anl];exact yK
    simp only[List.size_toArray,amO,List.length_take,List.length_drop,anl,hl,yK];omega
   ·exact(ald (R:=aE G w) vs v.cells cs x.cells off hl yK ho hr (λi u c h1 h2=>(NS i u c h1 h2).1) i u c hu hc).keep hE (amY _)
  ·rw[dW m e]at hB;have ck:∀b,bz h G m=some b->b≠G.aI n:=λb hb eb=>e (hi.inj m n b hb (by rw[eb];exact k8));refine dB.keep (hi.lt hB) hE (amY _) ⟨rfl,rfl,rfl⟩ (λb hb=>⟨?_,λo h=>h⟩) (hi.cT m B hB);rw[dS];exact setRow_other w _ _ _ (ck _ ((di hB).trans hb))
theorem cX.pK{S:Nat->Nat->Prop}{w:anI}{v:anH}{xs:anD (anD D)}(h:cX S w v (.sl xs)):
 ∃(A:anF Addr)(b o c k:Nat)(u:Nat->Nat->anH),v= .slice A xs.length c/\(xs≠ []->A=some ⟨b,o,none⟩)/\xs.length<=c/\c<=maxLen/\(∀x∈xs,x.length=k)/\
  (∀i j,i<xs.length->j<k->S b (o+i*k+j)/\w.cell? ⟨b,o+i*k+j,none⟩=some (u i j)/\(u i j).oneCell'=true)/\
  (∀(i j:Nat)(x:anD D)(d:D),xs[i]?=some x->x[j]?=some d->cX S w (u i j) d):=by
 cases h with
 |sl A b o c k xs u hA hc hm hk hS hu=>exact⟨A,b,o,c,k,u,rfl,hA,hc,hm,hk,hS,hu⟩
structure Rd(S:Nat->Nat->Prop)(w:World)(k:Nat)(xs:List (List D))(us:List Value):Prop where
 len:us.length=xs.length*k
 wid:∀x∈xs,x.length=k
 one:∀u∈us,u.oneCell'=true
 rel:∀(i j:Nat)(x:List D)(d:D),xs[i]?=some x->x[j]?=some d->∃u,us[i*k+j]?=some u/\cX S w u d
theorem Rd.keep{S S':Nat->Nat->Prop}{w w':anI}{k:Nat}{xs:anD (anD D)}{us:anD anH}(h:Rd S w k xs us)(hS:∀b o,S b o->S' b o)(hc:∀b o,S b o->w'.cell? ⟨b,o,none⟩=w.cell? ⟨b,o,none⟩):Rd S' w' k xs us:=
 ⟨h.len,h.wid,h.one,λi j x d hx hd=>let ⟨u,h1,h2⟩:=h.rel i j x d hx hd;⟨u,h1,h2.keep hS hc⟩⟩
theorem Rd.append{S:Nat->Nat->Prop}{w:anI}{k:Nat}{xs ys:anD (anD D)}{us vs:anD anH}(h:Rd S w k xs us)(h':Rd S w k ys vs):Rd S w k (xs++ys) (us++vs):=by
 refine⟨by rw[amO,amO,h.len,h'.len,Nat.add_mul],λx hx=> ?_,λu hu=> ?_,λi j x d hx hd=> ?_⟩
 ·rcases anq.1 hx with hx|hx
  ·exact h.wid x hx
  ·exact h'.wid x hx
 ·rcases anq.1 hu with hu|hu
  ·exact h.one u hu
  ·exact h'.one u hu
 ·by_cases hi:i<xs.length
  ·rw[amX hi]at hx;obtain⟨u,h1,h2⟩:=h.rel i j x d hx hd;exact⟨u,by rw[amX (amN.1 h1).1];exact h1,h2⟩
  ·rw[am3 (by omega)]at hx;obtain⟨u,h1,h2⟩:=h'.rel (i-xs.length) j x d hx hd;refine⟨u,?_,h2⟩;have e:i*k+j=xs.length*k+((i-xs.length)*k+j):=by rw[Nat.sub_mul];have:=Nat.mul_le_mul_right k (Nat.le_of_not_lt hi);omega
   rw[e,am3 (by rw[h.len];omega),h.len,Nat.add_sub_cancel_left];exact h1
theorem Rd.GB{S:Nat->Nat->Prop}{w:anI}{k:Nat}{xs:anD (anD D)}{us:anD anH}(h:Rd S w k xs us)(b c:Nat)(hc:xs.length<=c)(hm:c<=maxLen)
 (hS:∀o,o<xs.length*k->S b o) (ie:∀(o:Nat)(u:anH),us[o]?=some u->w.cell? ⟨b,o,none⟩=some u):cX S w (.slice (some ⟨b,0,none⟩) xs.length c) (.sl xs):=by
 refine .sl _ b 0 c k xs (λi j=>us.getD (i*k+j) undef) (λ_=>rfl) hc hm h.wid (λi j hi hj=> ?_) (λi j x d hx hd=> ?_)
 ·have aJ:i*k+j<xs.length*k:=by
   have:(i+1)*k<=xs.length*k:=Nat.mul_le_mul_right k hi;rw[Nat.add_mul]at this;omega
  have hg:us[i*k+j]?=some (us[i*k+j]'(by rw[h.len];exact aJ)):=amR (by rw[h.len];exact aJ);rw[am7];refine⟨hS _ aJ,?_,?_⟩
  ·rw[ie _ _ hg];simp [hg]
  ·simp only[List.getD_eq_getElem?_getD,hg,Option.getD_some];exact h.one _ (List.getElem_mem _)
 ·obtain⟨u,h1,h2⟩:=h.rel i j x d hx hd;simp only[List.getD_eq_getElem?_getD,h1,Option.getD_some];exact h2
theorem cX.rd{S:Nat->Nat->Prop}{w:anI}{v:anH}{xs:anD (anD D)}{k:Nat}(h:cX S w v (.sl xs))(gi:0<k)(hk:∀x∈xs,x.length=k):
 ∃us,Rd S w k xs us/\∃A c,v= .slice A xs.length c/\xs.length<=c/\c<=maxLen/\(xs≠ []->∃b o,A=some ⟨b,o,none⟩/\∀(j:Nat)(u:anH),us[j]?=some u->S b (o+j)/\w.cell? ⟨b,o+j,none⟩=some u):=by
 obtain⟨A,b,o,c,k',u,rfl,hA,hc,hm,eW,hS,hu⟩:=h.pK;by_cases hx:xs=[]
 ·subst hx;exact⟨[],⟨by simp,(λ_ h=>by cases h),(λ_ h=>by cases h),λi j x d hx=>by simp at hx⟩,A,c,rfl,hc,hm,λh=>absurd rfl h⟩
 ·have ek:k'=k:=by
   obtain⟨x,ou⟩:=List.exists_mem_of_ne_nil xs hx;rw[<-eW x ou,hk x ou]
  subst ek;refine⟨(List.range (xs.length*k')).map λt=>u (t / k') (t%k'),⟨by simp,hk,λv hv=> ?_,λi j x d hx hd=> ?_⟩,A,c,rfl,hc,hm,λck=>⟨b,o,hA ck,λj v hv=> ?_⟩⟩
  ·obtain⟨t,ht,rfl⟩:=List.mem_map.1 hv;have ya:=List.mem_range.1 ht;exact(hS (t / k') (t%k') (Nat.div_lt_of_lt_mul (by rw[Nat.mul_comm];exact ya)) (Nat.mod_lt _ gi)).2.2
  ·have hj:j<k':=by rw[<-hk x (am0 hx)];exact(amN.1 hd).1
   have hi:i<xs.length:=(amN.1 hx).1;refine⟨u i j,?_,hu i j x d hx hd⟩;have aJ:i*k'+j<xs.length*k':=by
    have:(i+1)*k'<=xs.length*k':=Nat.mul_le_mul_right k' hi;rw[Nat.add_mul]at this;omega
   rw[amU,List.getElem?_range aJ];simp only[Option.map_some,Option.some.injEq];rw[show(i*k'+j)/ k'=i by rw[Nat.add_comm,Nat.add_mul_div_right _ _ gi,Nat.div_eq_of_lt hj,am7],show(i*k'+j)%k'=j by rw[Nat.add_comm,Nat.add_mul_mod_self_right,Nat.mod_eq_of_lt hj]]
  ·rw[amU]at hv;by_cases hj:j<xs.length*k'
   ·rw[List.getElem?_range hj]at hv;simp only[Option.map_some,Option.some.injEq]at hv;subst hv;have:=hS (j / k') (j%k') (Nat.div_lt_of_lt_mul (by rw[Nat.mul_comm];exact hj)) (Nat.mod_lt _ gi);have e:o+j / k'*k'+j%k'=o+j:=by have:=Nat.div_add_mod j k';rw[Nat.mul_comm]at this;omega
    rw[e]at this;exact⟨this.1,this.2.1⟩
   ·rw[ank (by simp;omega)]at hv;cases hv
theorem cX.src{P:anG}{S:Nat->Nat->Prop}{w:anI}{v:anH}{xs:anD (anD D)}{k:Nat}(h:cX S w v (.sl xs))(gi:0<k)(hk:∀x∈xs,x.length=k){tx e':TypeId}(ht:P.underlying tx=some (.slice e')):
 ∃us,Rd S w k xs us/\Src P k tx v xs.length us w:=by
 obtain⟨us,hr,A,c,rfl,_,_,hA⟩:=h.rd gi hk;refine⟨us,hr,?_⟩;by_cases hx:xs=[]
 ·subst hx;have lI:us=[]:=List.eq_nil_of_length_eq_zero (by rw[hr.len];simp);subst lI;cases A with
  |none=>exact Src.ofNil w ht c
  |some a=>exact Src.ofSlice w ht a 0 c [] (by simp) (λj u hu=>by simp at hu) (λu hu=>by cases hu)
 ·obtain⟨b,o,rfl,hc⟩:=hA hx;exact Src.ofSlice w ht _ _ c us hr.len (λj u hu=>by rw[lB];exact(hc j u hu).2) hr.one
def Gh.gY(G:Gh)(v:anH)(len:Nat):Gh:=
 {G with N:=G.N+1,sg:=λn=>if n=G.N then v else G.sg n,fl:=λn=>if n=G.N then len else G.fl n,ow:=λn=>if n=G.N then none else G.ow n}
theorem Wo{G:Gh}{w:anI}{h:anD ao}(hi:bC G w h){v:anH}{xs:anD (anD D)}(hv:cX G.S w v (.sl xs))(hf:∃A,v= .slice A xs.length xs.length)(e:TypeId)(k:Nat):
 bx G.N G w (G.gY v xs.length) w/\G.N<=(G.gY v xs.length).N/\bC (G.gY v xs.length) w (h++[.front e k xs.length])/\aE (G.gY v xs.length) w v (.own h.length xs):=by
 have ck:∀n,n<G.N->n≠G.N:=λn hn=>Nat.ne_of_lt hn;have hE:bx G.N G w (G.gY v xs.length) w:=⟨amY _,λ_ _ h=>h,λ_ _ _=>rfl,λ_ _=>rfl,λn hn=> .inl ⟨by simp [Gh.gY,ck n hn],by simp [Gh.gY,ck n hn]⟩,gV rfl,λ_ _=>rfl,rfl,rfl,rfl,λ_ _ h=> .inl h⟩;have hN:G.N<=(G.gY v xs.length).N:=Nat.le_succ _;have TG:xs.length<=maxLen:=by
  obtain⟨A,b,o,c,k',u,_,_,h1,h2,_⟩:=hv.pK;exact am5 h1 h2
 have kN:∀n(B:ao),n<G.N->B.dw (G.gY v xs.length) n=B.dw G n:=λn B hn=>by
  cases B<;>simp [ao.dw,Gh.gY,Nat.ne_of_lt hn]
 have hold:∀n b,bz (h++[.front e k xs.length]) (G.gY v xs.length) n=some b->bz h G n=some b:=λn b hb=>by
  by_cases hn:n<h.length
  ·unfold bz at hb ⊢;rw[amX hn,amR hn]at hb;rw[amR hn];rw[<-hb];exact(kN n _ (hi.len▸hn)).symm
  ·by_cases en:n=h.length
   ·subst en;rw[di (B:= .front e k xs.length) (by simp)]at hb;simp [ao.dw,Gh.gY,hi.len]at hb
   ·rw[ue (ank (by simp;omega))]at hb;cases hb
 refine⟨hE,hN,⟨by simp [Gh.gY,hi.len],hi.z,hi.S,λn B hB=> ?_,λm n b hm hn=>hi.inj m n b (hold m b hm) (hold n b hn),hi.gl.keep hE⟩,?_⟩
 ·by_cases hn:n<h.length
  ·rw[amX hn]at hB;have dL:n<G.N:=hi.len▸hn;exact dB.keep dL hE hN ⟨by simp [Gh.gY,ck n dL],by simp [Gh.gY,ck n dL],by simp [Gh.gY,ck n dL]⟩ (λb hb=>⟨rfl,λo h=>h⟩) (hi.cT n B hB)
  ·have kD:n=h.length:=by
    have:=(amN.1 hB).1;simp at this;omega
   subst kD;simp at hB;subst hB;obtain⟨A,hA⟩:=hf;exact⟨by simp [Gh.gY,hi.len],TG, .inl ⟨by simp [Gh.gY,hi.len],A,by simp [Gh.gY,hi.len,hA]⟩⟩
 ·exact .own h.length xs (by simp [Gh.gY,hi.len]) hv (by simp [Gh.gY,hi.len]) (λ_=>by simp [Gh.gY,hi.len])
theorem KR{P:anG}{e k b:Nat}(hk:fz P e=some k)(hb:sM P e=some b):∃i,P.info? e=some i/\i.size=k/\i.bytes=b:=by
 unfold fz at hk;unfold sM at hb;cases hq:P.info? e with
 |none=>rw[hq]at hk;cases hk
 |some i=>rw[hq]at hk hb;exact⟨i,rfl,by simpa using hk,by simpa using hb⟩
def Gh.grow(G:Gh)(n:Nat)(S:Nat->Nat->Prop)(v:anH)(len:Nat)(ow:anF Nat):Gh:=
 {G with S:=S,sg:=λm=>if m=n then v else G.sg m,fl:=λm=>if m=n then len else G.fl m,ow:=λm=>if m=n then ow else G.ow m}
theorem RX{G:Gh}{w w':anI}{h:anD ao}(hi:bC G w h){n e k len gJ:Nat}(hn:h[n]?=some (.front e k len))(S:Nat->Nat->Prop)(v:anH)(g:Nat)
 (hE:bx G.N G w (G.grow n S v gJ (some g)) w') (hg:g=w.heap.size\/G.ow n=some g) (hgw:g<w'.heap.size)
 (hS:∀b o,S b o->G.S b o\/b=g) (im:∀b,b<w.heap.size->b≠g->w'.heap[b]?=w.heap[b]?)
 (hB:dB (G.grow n S v gJ (some g)) w' n (.front e k gJ)):bC (G.grow n S v gJ (some g)) w' (h.set n (.front e k gJ)):=by
 have dW:∀m,m≠n->(h.set n (.front e k gJ))[m]?=h[m]?:=λm hm=>by rw[anm (Ne.symm hm)]
 have lP:(h.set n (.front e k gJ))[n]?=some (.front e k gJ):=by rw[anh (amN.1 hn).1]
 have kN:∀m(B:ao),m≠n->B.dw (G.grow n S v gJ (some g)) m=B.dw G m:=λm B hm=>by
  cases B<;>simp [ao.dw,Gh.grow,hm]
 have dP:∀m,m≠n->bz (h.set n (.front e k gJ)) (G.grow n S v gJ (some g)) m=bz h G m:=λm hm=>by
  unfold bz;rw[dW m hm];cases h[m]? with
  |none=>rfl
  |some B=>exact kN m B hm
 have xI:∀m,m≠n->bz h G m≠some g:=λm hm hb=>by
  rcases hg with hg|hg
  ·have:=hi.gr hb;omega
  ·exact hm (hi.inj m n g hb ((di hn).trans hg))
 refine⟨by rw[List.length_set];exact hi.len,λb hb=>anb (hi.z b hb) hE.size,λb o hs=> ?_,λm B hm=> ?_,λm m' b h1 h2=> ?_,hi.gl.keep hE⟩
 ·rcases hS b o hs with hs|hs
  ·exact anb (hi.S b o hs) hE.size
  ·rw[hs];exact hgw
 ·by_cases em:m=n
  ·subst em;rw[lP]at hm;cases hm;exact hB
  ·rw[dW m em]at hm;refine dB.keep (hi.lt hm) hE (amY _) ⟨by simp [Gh.grow,em],by simp [Gh.grow,em],by simp [Gh.grow,em]⟩ (λb hb=> ?_) (hi.cT m B hm);have hr:bz h G m=some b:=(di hm).trans hb;have ck:b≠g:=λe'=>xI m em (by rw[hr,e']);refine⟨im _ (hi.gr hr) ck,λo ji hs=> ?_⟩;rcases hS _ o hs with hs|hs
   ·exact ji hs
   ·exact ck hs
 ·by_cases e1:m=n<;>by_cases e2:m'=n
  ·rw[e1,e2]
  ·subst e1;rw[dP m' e2]at h2;have:bz (h.set m (.front e k gJ)) (G.grow m S v gJ (some g)) m=some g:=by rw[di lP];simp [ao.dw,Gh.grow]
   rw[this]at h1;cases h1;exact absurd h2 (xI m' e2)
  ·subst e2;rw[dP m e1]at h1;have:bz (h.set m' (.front e k gJ)) (G.grow m' S v gJ (some g)) m'=some g:=by rw[di lP];simp [ao.dw,Gh.grow]
   rw[this]at h2;cases h2;exact absurd h1 (xI m e1)
  ·rw[dP m e1]at h1;rw[dP m' e2]at h2;exact hi.inj m m' b h1 h2
set_option maxHeartbeats 1000000 in
theorem V7{P:anG}{G:Gh}{w:anI}{h:anD ao}(hi:bC G w h){T tx ty e k cr:Nat}{i:TypeInfo}{z:anH}(hT:P.underlying T=some (.slice e))(kx:P.info? e=some i)(hz:i.zero=some z)(pe:i.size=k)(xy:i.bytes=cr)(jJ:z.cells.size=k)
 (gi:0<k) {n:Nat} {xs ys:anD (anD D)} (hn:h[n]?=some (.front e k xs.length)) {u v:anH} (hu:aE G w u (.own n xs)) (nI:∀x∈xs,x.length=k)
 {us:anD anH} (hr:Rd G.S w k ys us) (hs:Src P k tx v ys.length us w) (Gk:xs.length+ys.length<=maxLen) (pH:(xs.length+ys.length)*cr<=140737488355328):
 ∃r w' G',(Builtin.append_ #[T,tx] ty #[u,v]).run P w= .ok r w'/\bx G.N G w G' w'/\G.N<=G'.N/\bC G' w' (h.set n (.front e k (xs.length+ys.length)))/\aE G' w' r (.own n (xs++ys)):=by
 subst pe;subst xy;have n6:=hi.lt hn;obtain⟨l9,TG,hbr⟩:=hi.cT n _ hn;obtain⟨hp,UO⟩:cX G.S w u (.sl xs)/\u=G.sg n:=by
  cases hu with
  |own _ _ _ hp hle hf=>exact⟨hp,hf l9.symm⟩
 obtain⟨olds,AG,A,c,yS,kQ,vR,hA⟩:=hp.rd gi nI;have ML:h.set n (.front e i.size (xs.length+0))=h:=by
  rw[Nat.add_zero];refine List.ext_getElem? λm=> ?_;by_cases em:m=n
  ·subst em;rw[anh (amN.1 hn).1,hn]
  ·rw[anm (Ne.symm em)]
 by_cases hy:ys.length=0
 ·have kX:ys=[]:=List.eq_nil_of_length_eq_zero hy;subst kX;have lI:us=[]:=List.eq_nil_of_length_eq_zero (by rw[hr.len];simp);subst lI;have:=run_append_nothing (P:=P) w T tx ty e i hT kx A xs.length c kQ v hs;refine⟨u,w,G,by rw[yS];exact this,bx.refl _ _ _,amY _,?_,by rw[am8];exact hu⟩;simp only[amZ];rw[ML];exact hi
 ·have hy0:0<ys.length:=Nat.pos_of_ne_zero hy;have K1:xs.length+ys.length<=9223372036854775807:=by simp only[maxLen]at Gk;omega
  have Ot:Rd G.S w i.size (xs++ys) (olds++us):=AG.append hr;have grow:c<xs.length+ys.length->∃r w' G',(Builtin.append_ #[T,tx] ty #[u,v]).run P w= .ok r w'/\bx G.N G w G' w'/\G.N<=G'.N/\bC G' w' (h.set n (.front e i.size (xs.length+ys.length)))/\aE G' w' r (.own n (xs++ys)):=by
   intro hg;have hold:(Builtin.firstCells i.size xs.length (.slice A xs.length c)).run P w.drew= .ok olds.toArray w.drew:=by
    by_cases hx:xs=[]
    ·subst hx;have:olds=[]:=List.eq_nil_of_length_eq_zero (by rw[AG.len];simp);subst this;cases A with
     |none=>exact run_firstCells_none _ _ _ _ _
     |some a=>exact run_firstCells_some _ _ _ _ _ _ [] (by simp) (λj u hu=>by simp at hu)
    ·obtain⟨b,o,rfl,hc⟩:=hA hx;exact run_firstCells_some _ _ _ _ _ _ olds AG.len (λj u hu=>by rw[lB];exact(hc j u hu).2)
   have de:=run_append_grow_src (P:=P) w T tx ty e i z hT kx hz A xs.length c olds hold v ys.length us hs hg (by omega) (growslice_fits hg pH);obtain⟨cap,jR⟩:∃cap,cap=grownCap w (xs.length+ys.length) c e:=⟨_,rfl⟩;have ko:xs.length+ys.length<=cap:=by rw[jR];exact grownCap_ge _ _ _ _
   have hle:cap<=maxLen:=by rw[jR];exact grownCap_le_maxLen _ _ _ _ Gk
   rw[<-jR]at de;obtain⟨cur,jL⟩:∃cur,cur=(olds++us).toArray++Builtin.zeroCells z.cells (cap-(xs.length+ys.length)):=⟨_,rfl⟩;rw[<-jL]at de;obtain⟨w',dS⟩:∃w',w'=w.drew.alloc (.cells cur e):=⟨_,rfl⟩;rw[<-dS]at de;have fZ:cur.size=cap*i.size:=by
     have:=size_zeroCells z.cells (cap-(xs.length+ys.length));rw[jL,Array.size_append,this,List.size_toArray,Ot.len,jJ,amO,<-Nat.add_mul]
     congr 1
     omega
   have fk:w'.heap[w.heap.size]?=some (.cells cur e (0,0)):=by rw[dS];exact World.alloc_heap_new w.drew _
   have Nj:∀b,b<w.heap.size->w'.heap[b]?=w.heap[b]?:=λb hb=>by rw[dS];exact Below.heap_alloc w.drew _ b hb
   have iq:w'.heap.size=w.heap.size+1:=by rw[dS];simp
   obtain⟨S,hS⟩:∃S:Nat->Nat->Prop,S=λb o=>G.S b o\/(b=w.heap.size/\o<(xs.length+ys.length)*i.size):=⟨_,rfl⟩;have ie:∀b o,G.S b o->w'.cell? ⟨b,o,none⟩=w.cell? ⟨b,o,none⟩:=λb o hs=>World.cell?_of_block (Nj b (hi.S b o hs));have hE:bx G.N G w (G.grow n S (.slice (some ⟨w.heap.size,0,none⟩) (xs.length+ys.length) cap) (xs.length+ys.length) (some w.heap.size)) w':=
    ⟨by rw[iq];exact Nat.le_succ _,λb o h=>by show S b o;rw[hS];exact .inl h,ie,λ_ _=>rfl,
     λm _=>by
      by_cases em:m=n
      ·right;subst em;simp only[Gh.grow,if_true,l9];omega
      ·left;exact⟨by simp [Gh.grow,em],by simp [Gh.grow,em]⟩,
     gV rfl,λb hb=>Nj b (hi.z b hb),by rw[dS];rfl,by rw[dS];rfl,by rw[dS];rfl,λb o hs=>by
      have bP:S b o:=hs;rw[hS]at bP;rcases bP with h|⟨rfl,_⟩
      ·exact .inl h
      ·exact .inr λhz=>ans _ (hi.z _ hz)⟩
   have hP:cX S w' (.slice (some ⟨w.heap.size,0,none⟩) (xs++ys).length cap) (.sl (xs++ys)):=by
    refine(Ot.keep (S':=S) (w':=w') (λb o h=>by rw[hS];exact .inl h) ie).GB w.heap.size cap (by rw[amO];exact ko) hle (λo ho=>by rw[hS];exact .inr ⟨rfl,by rw[amO]at ho;exact ho⟩) (λo x ho=> ?_);rw[cell_of_row w' w.heap.size o cur e (0,0) fk,jL,Array.getElem?_append_left (by simp only[List.size_toArray];exact(amN.1 ho).1),List.getElem?_toArray];exact ho
   rw[amO]at hP;refine⟨_,w',_,by rw[yS];exact de,hE,amY _,RX hi hn S _ w.heap.size hE (.inl rfl) (by rw[iq];exact anB _) (λb o hs=> ?_) (λb hb _=>Nj b hb) ?_,?_⟩
   ·rw[hS]at hs;exact hs.imp id And.left
   ·refine⟨by simp [Gh.grow],Gk, .inr ⟨w.heap.size,cap,cur,by simp [Gh.grow],by simp [Gh.grow],λhz=>ans _ (hi.z _ hz),fk,ko,hle,fZ,λo ho hs=> ?_⟩⟩;have bP:S w.heap.size o:=hs;rw[hS]at bP;rcases bP with bP|⟨_,bP⟩
    ·have:=hi.S _ _ bP;omega
    ·omega
   ·exact .own n (xs++ys) n6 hP (by simp [Gh.grow]) (λ_=>by simp [Gh.grow])
  rcases hbr with⟨kI,A',l4⟩|⟨g,cap,cur,kI,l4,Ia,qf,K8,Nt,Tk,Zr⟩
  ·refine grow ?_;rw[UO,l4]at yS;cases yS
   omega
  ·have Wz:=yS;rw[UO,l4]at Wz;injection Wz with eA0 _ e1;have e2:=e1.symm;subst e2;subst eA0;by_cases ri:xs.length+ys.length<=c
   ·
    have p6:xs.length*i.size+us.length<=cur.size:=by rw[hr.len,Tk,<-Nat.add_mul];exact Nat.mul_le_mul_right _ ri
    have CZ:∀o,w.cell? ⟨g,o,none⟩=cur[o]?:=λo=>cell_of_row w g o cur e (0,0) qf;have yr:∀j,j<us.length->(w.cell? ⟨g,0+xs.length*i.size+j,none⟩).isSome=true:=λj hj=>by
     rw[CZ,am7,am9 (by omega)];rfl
    have de:=run_append_room_src (P:=P) w T tx ty e i hT kx g 0 xs.length c v ys.length us hs ri yr
     (λj hj=>by unfold World.frozen?;rw[qf];simp)
    rw[am7]at de yr;obtain⟨w',dS⟩:∃w',w'=w.setCells g (xs.length*i.size) us:=⟨_,rfl⟩;rw[<-dS]at de;have acs:g<w.heap.size:=(am2.1 qf).1;have jn:=run_storeCells_at P g (xs.length*i.size) e us 0 cur w qf (by simpa using p6) hs.one;have xP:=run_storeCells_cells (P:=P) g (xs.length*i.size) us 0 w (by simpa using yr) (λj hj=>by unfold World.frozen?;rw[qf];simp) hs.one;simp only[Nat.add_zero]at jn xP;rw[jn]at xP;have wV:w'=w.setRow g (cur.toList.take (xs.length*i.size)++us++cur.toList.drop (xs.length*i.size+us.length)).toArray:=by
      rw[dS];injection xP with _ e2;exact e2.symm
    obtain⟨pW,Qk⟩:∃pW:Array anH,pW=(cur.toList.take (xs.length*i.size)++us++cur.toList.drop (xs.length*i.size+us.length)).toArray:=⟨_,rfl⟩;rw[<-Qk]at wV;have oD:w'.heap[g]?=some (.cells pW e (0,0)):=by rw[wV];exact setRow_heap w g cur pW e _ qf
    have im:∀b,b≠g->w'.heap[b]?=w.heap[b]?:=λb hb=>by rw[wV];exact setRow_other w g b pW hb
    have iq:w'.heap.size=w.heap.size:=by rw[wV];exact Kx w g pW
    have ff:∀o,pW[o]?=if o<xs.length*i.size then cur[o]? else if o<xs.length*i.size+us.length then us[o-xs.length*i.size]? else cur[o]?:=λo=>by
     rw[Qk,List.getElem?_toArray,am4];have hl:cur.toList.length=cur.size:=anl;by_cases h1:o<xs.length*i.size
     ·rw[if_pos h1,amX (by simp;omega),List.getElem?_take_of_lt h1,ana]
     ·rw[if_neg h1,am3 (by simp;omega)];simp only[List.length_take,hl];rw[Nat.min_eq_left (by omega)];by_cases h2:o<xs.length*i.size+us.length
      ·rw[if_pos h2,amX (by omega)]
      ·rw[if_neg h2,am3 (by omega),List.getElem?_drop,show xs.length*i.size+us.length+(o-xs.length*i.size-us.length)=o by omega,ana]
    have afE:pW.size=cur.size:=by
     rw[Qk];simp only[List.size_toArray,amO,List.length_take,List.length_drop,anl];omega
    have ie:∀b o,G.S b o->w'.cell? ⟨b,o,none⟩=w.cell? ⟨b,o,none⟩:=λb o hs=>by
     by_cases eb:b=g
     ·subst eb;have ho:o<xs.length*i.size:=Nat.lt_of_not_le λhle=>Zr o hle hs;rw[CZ,cell_of_row w' b o pW e (0,0) oD,ff,if_pos ho]
     ·exact World.cell?_of_block (im b eb)
    obtain⟨S,hS⟩:∃S:Nat->Nat->Prop,S=λb o=>G.S b o\/(b=g/\o<(xs.length+ys.length)*i.size):=⟨_,rfl⟩;have hE:bx G.N G w (G.grow n S (.slice (some ⟨g,0,none⟩) (xs.length+ys.length) c) (xs.length+ys.length) (some g)) w':=
     ⟨by rw[iq];exact amY _,λb o h=>by show S b o;rw[hS];exact .inl h,ie,λ_ _=>rfl,
      λm _=>by
       by_cases em:m=n
       ·right;subst em;simp only[Gh.grow,if_true,l9];omega
       ·left;exact⟨by simp [Gh.grow,em],by simp [Gh.grow,em]⟩,
      gV rfl,λb hb=>im b (λe=>Ia (e▸hb)),by rw[wV];rfl,by rw[wV];rfl,by rw[wV];rfl,λb o hs=>by
       have bP:S b o:=hs;rw[hS]at bP;rcases bP with h|⟨rfl,_⟩
       ·exact .inl h
       ·exact .inr Ia⟩
    have hP:cX S w' (.slice (some ⟨g,0,none⟩) (xs++ys).length c) (.sl (xs++ys)):=by
     refine(Ot.keep (S':=S) (w':=w') (λb o h=>by rw[hS];exact .inl h) ie).GB g c (by rw[amO];exact ri) Nt (λo ho=>by rw[hS];exact .inr ⟨rfl,by rw[amO]at ho;exact ho⟩) (λo x ho=> ?_);rw[cell_of_row w' g o pW e (0,0) oD,ff];have jP:olds.length=xs.length*i.size:=AG.len;by_cases h1:o<xs.length*i.size
     ·rw[if_pos h1];rw[amX (by omega)]at ho;have hx:xs≠ []:=λe=>by subst e;simp at h1
      obtain⟨b,o',eA,hc⟩:=hA hx;cases eA
      have:=(hc o x ho).2;rw[am7,CZ]at this;exact this
     ·rw[if_neg h1];rw[am3 (by omega),jP]at ho;have:=(amN.1 ho).1;rw[if_pos (by omega)];exact ho
    rw[amO]at hP;refine⟨_,w',_,by rw[yS];exact de,hE,amY _,RX hi hn S _ g hE (.inr kI) (by rw[iq];exact acs) (λb o hs=> ?_) (λb _ hb=>im b hb) ?_,?_⟩
    ·rw[hS]at hs;exact hs.imp id And.left
    ·refine⟨by simp [Gh.grow],Gk, .inr ⟨g,c,pW,by simp [Gh.grow],by simp [Gh.grow],Ia,oD,ri,Nt,by rw[afE,Tk],λo ho hs=> ?_⟩⟩;have bP:S g o:=hs;rw[hS]at bP;rcases bP with bP|⟨_,bP⟩
     ·exact Zr o (am5 (Nat.mul_le_mul_right _ (ant _ _)) ho) bP
     ·omega
    ·exact .own n (xs++ys) n6 hP (by simp [Gh.grow]) (λ_=>by simp [Gh.grow])
   ·exact grow (by omega)
def WF(r:anF Nat):Fence:={Fence.wide with round:=r}
def iC(N0:Nat)(G:Gh)(w:anI)(K:St->Prop)(a':Act)(w':anI):Prop:=∃G' s',bx N0 G w G' w'/\N0<=G'.N/\cx G' w' a' s'/\K s'
section
variable {P:anG} {r:anF Nat} {n N0:Nat} {G:Gh} {w:anI} {a:Act} {s:St} {o:Oper} {K:St->Prop} {Q:Exit->Act->anI->Prop}
theorem ma(eO:∀c,o.op≠ .defer c)(hs:cx G w a s)(bW:N0<=G.N){v:anH}{x:AV}{w':anI}{G':Gh}{h':anD ao}(hr:(execOp a.eval o).run P w= .ok (.value v) w')
 (hE:bx G.N G w G' w') (hN:G.N<=G'.N) (hi:bC G' w' h') (hv:aE G' w' v x) (hK:K ((s.wh h').put o.dst x)):o.wpIn (WF r) n P a w (iC N0 G w K) Q:=by
 refine⟨λ_ _=>trivial,?_⟩;rw[Oper.semAt_eq _ _ _ eO,hr];exact⟨G',_,hE.less bW,am5 bW hN,((hs.move hE hN hi).put hv o.dst),hK⟩
theorem eJ(eO:∀c,o.op≠ .defer c)(hs:cx G w a s)(bW:N0<=G.N){v:anH}{x:AV}(hr:(execOp a.eval o).run P w= .ok (.value v) w)(hv:aE G w v x)(hK:K (s.put o.dst x)):
 o.wpIn (WF r) n P a w (iC N0 G w K) Q:=
 ma eO hs bW hr (bx.refl _ _ _) (amY _) hs.inv hv hK
theorem QH(eO:∀c,o.op≠ .defer c)(hs:cx G w a s)(bW:N0<=G.N){w':anI}{G':Gh}{h':anD ao}(hr:(execOp a.eval o).run P w= .ok .skip w')
 (hE:bx G.N G w G' w') (hN:G.N<=G'.N) (hi:bC G' w' h') (hK:K ((s.wh h').put o.dst (.d (.v undef)))):o.wpIn (WF r) n P a w (iC N0 G w K) Q:=by
 refine⟨λ_ _=>trivial,?_⟩;rw[Oper.semAt_eq _ _ _ eO,hr];exact⟨G',_,hE.less bW,am5 bW hN,((hs.move hE hN hi).put (.d (.v undef)) o.dst),hK⟩
theorem Xa{t k:Nat}(h:fz P t=some k):∃i,P.info? t=some i/\i.size=k:=by
 unfold fz at h;cases hq:P.info? t with
 |none=>rw[hq]at h;cases h
 |some i=>rw[hq]at h;exact⟨i,rfl,by simpa using h⟩
theorem GA{t:Nat}{z:anH}(h:iE P t=some z):∃i,P.info? t=some i/\i.zero=some z:=by
 unfold iE at h;cases hq:P.info? t with
 |none=>rw[hq]at h;cases h
 |some i=>rw[hq]at h;exact⟨i,rfl,by simpa using h⟩
theorem CA{t:Nat}{z:anH}(h:iE P t=some z)(w:anI):(zeroValue t).run P w= .ok z w:=by
 obtain⟨i,h1,h2⟩:=GA h;simp [zeroValue,typeInfo,h1,h2]
theorem lJ{t k:Nat}(h:fz P t=some k)(w:anI):(sizeOf t).run P w= .ok k w:=by
 obtain⟨i,h1,h2⟩:=Xa h;simp [sizeOf,typeInfo,h1,h2]
theorem A5{t:Nat}{g:Bool}(h:lV P t=some g)(w:anI):(isAgg t).run P w= .ok g w:=by
 unfold lV at h;cases hq:P.underlying t with
 |none=>rw[hq]at h;cases h
 |some d=>
  rw[hq]at h;unfold isAgg;rw[Sem.run_bind,run_underlying hq w];simp only[Option.map_some,Option.some.injEq]at h;subst h;cases d<;>rfl
theorem alI{t:Nat}(h:lV P t=some true):∃d,P.underlying t=some d/\d.isRow=true:=by
 unfold lV at h;cases hq:P.underlying t with
 |none=>rw[hq]at h;cases h
 |some d=>rw[hq]at h;refine⟨d,rfl,?_⟩;cases d<;>simp_all [TypeDesc.isRow]
theorem Vk{t:Nat}{C:AV->Prop}:∀(b o:Nat)(cs:anD AV)(off:Nat)(us:Nat->anH),(∀j,j<cs.length->w.cell? ⟨b,o+j,none⟩=some (us j))->(∀(j:Nat)(c:AV),cs[j]?=some c->aE G w (us j) c)->
 (match lV P t,fz P t with
  |some true,some k=>eQ (bS (off+k) cs.length) (C (.agg ((cs.drop off).take k)))
  |some false,some _=>match cs[off]? with
   |some c=>C c
   |none=>False
  |_,_=>False)->∃u x,(loadVar t ⟨b,o+off,none⟩).run P w= .ok u w/\aE G w u x/\C x:=by
 intro b o cs off us h1 h2 h3;split at h3
 ·rename_i k hg hk
  obtain⟨hlen,hC⟩:=bw.1 h3;rw[dy]at hlen;obtain⟨d,yQ,qj⟩:=alI hg;have JS:((List.range k).map λj=>us (off+j)).length=k:=by simp
  have de:=run_loadVar_mid (P:=P) w b (o+off) t ((List.range k).map λj=>us (off+j)) d (λj u hu=>by
   rw[amU]at hu;by_cases hj:j<k
   ·rw[List.getElem?_range hj]at hu;simp only[Option.map_some,Option.some.injEq]at hu;subst hu;have:=h1 (off+j) (by omega)
    rwa [<-Nat.add_assoc]at this
   ·rw[ank (by simp;omega)]at hu;cases hu) yQ qj (by rw[JS];exact hk)
  refine⟨_,_,de, .agg _ _ (by simp;omega) λi u c hu hc=> ?_,hC⟩;rw[List.getElem?_toArray,amU]at hu;rw[List.getElem?_take]at hc;split at hc
  ·rename_i pe
   rw[List.getElem?_range pe]at hu;simp only[Option.map_some,Option.some.injEq]at hu;subst hu;rw[List.getElem?_drop]at hc;exact h2 (off+i) c hc
  ·cases hc
 ·rename_i k hg hk
  split at h3
  ·rename_i c hc
   refine⟨us off,c,?_,h2 off c hc,h3⟩;unfold loadVar;rw[Sem.run_bind,A5 hg w];simp only[Result.andThen_ok,Bool.false_eq_true,if_false];unfold load;simp only[Sem.run,h1 off (amN.1 hc).1]
  ·exact h3.elim
 ·exact h3.elim
theorem Uo{t:Nat}{p:AV}{v:anH}{C:AV->Prop}(hi:bC G w s.h)(hv:aE G w v p)(h:oG P t s.h p C):∃u x,(Instr.loadAt t v).run P w= .ok u w/\aE G w u x/\C x:=by
 have key:=Vk (P:=P) (G:=G) (w:=w) (t:=t) (C:=C);unfold oG sa at h;cases p with
 |ptr m off=>
  simp only at h;split at h
  ·rename_i cs hm
   obtain⟨_,_,vs,T,hh,hl,hr⟩:=hi.cT m _ hm;cases hv with
   |ptr _ _ vG=>
    obtain⟨u,x,h1,h2,h3⟩:=key (G.aI m) 0 cs off (λj=>vs.getD j undef) (λj hj=>by
     have iy:j<vs.size:=by rw[hl];exact hj
     rw[am7,cell_of_row w (G.aI m) j vs T (0,0) hh];simp [Array.getD,iy]) (λj c hc=>by
     have iy:j<vs.size:=by rw[hl];exact(amN.1 hc).1
     exact hr j _ c (by simp [Array.getD,iy]) hc) h
    rw[am7]at h1;exact⟨u,x,by simp [Instr.loadAt,Instr.sureAddr,h1],h2,h3⟩
  ·exact h.elim
 |ba xs i off=>
  simp only at h;split at h
  ·rename_i cs fZ
   cases hv with
   |ba _ _ _ b o us x hx hS hu=>
    rw[hx]at fZ;cases fZ
    obtain⟨u,y,h1,h2,h3⟩:=key b o (cs.map .d) off us (λj hj=>(hS j (by simpa using hj)).2) (λj c hc=>by
     rw[amU]at hc;cases hd:cs[j]? with
     |none=>rw[hd]at hc;cases hc
     |some d=>rw[hd]at hc;cases hc;exact .d (hu j d hd)) h
    exact⟨u,y,by simp [Instr.loadAt,Instr.sureAddr,h1],h2,h3⟩
  ·exact h.elim
 |_=>exact h.elim
theorem aE.list{u:anH}{x:AV}{xs:anD (anD D)}(h:aE G w u x)(hx:x.eY=some xs):cX G.S w u (.sl xs):=by
 unfold AV.eY at hx;split at hx
 ·cases hx;cases h with|d h=>exact h
 ·cases hx;cases h with|own _ _ _ h=>exact h
 ·cases hx;cases h with|full _ h=>exact h
 ·cases hx
  cases h with
  |d h=>
   cases h with
   |v=>exact .sl none 0 0 0 0 [] (λ_ _=>undef) (λh=>absurd rfl h) (amY _) (by simp) (λ_ h=>by cases h) (λi j hi=>by simp at hi) (λi j x d hx=>by simp at hx)
 ·cases hx
theorem aE.int{u:anH}{x:AV}{z:Int}(h:aE G w u x)(hx:x.int?=some z):∃k,u= .int k z:=by
 unfold AV.int? at hx;split at hx
 ·rename_i k m
  cases hx
  cases h with
  |d h=>cases h with|v=>exact⟨k,rfl⟩
 ·cases hx
theorem aE.bool{u:anH}{t:Bool}(h:aE G w u (.d (.v (.bool t)))):u= .bool t:=by
 cases h with|d h=>cases h with|v=>rfl
theorem aE.val{u v:anH}(h:aE G w u (.d (.v v))):u=v:=by
 cases h with|d h=>cases h with|v=>rfl
theorem jw{T e k:Nat}(h:dQ P T=some (e,k)):P.underlying T=some (.slice e)/\fz P e=some k:=by
 unfold dQ at h;split at h
 ·rename_i e' he
  cases hq:fz P e' with
  |none=>rw[hq]at h;cases h
  |some k'=>rw[hq]at h;simp at h;obtain⟨rfl,rfl⟩:=h;exact⟨he,hq⟩
 ·cases h
theorem N4{T m e k:Nat}(h:tW P T=some (m,e,k)):P.underlying T=some (.array m e)/\fz P e=some k:=by
 unfold tW at h;split at h
 ·rename_i m' e' he
  cases hq:fz P e' with
  |none=>rw[hq]at h;cases h
  |some k'=>rw[hq]at h;simp at h;obtain⟨rfl,rfl,rfl⟩:=h;exact⟨he,hq⟩
 ·cases h
theorem ae1{T:Nat}{x i:AV}{u v:anH}{C:AV->Prop}(hu:aE G w u x)(hv:aE G w v i)(h:sq P T x i C):∃p y,(Instr.indexAt T u v).run P w= .ok p w/\aE G w p y/\C y:=by
 unfold sq at h;split at h
 ·rename_i e k hT
  obtain⟨eX,fq⟩:=jw hT;split at h
  ·rename_i m off len cap k'
   split at h
   ·rename_i z hz
    obtain⟨uC,h0,aJ,hC⟩:=bw.1 h;rw[beq_iff_eq]at uC;subst uC;obtain⟨kz,rfl⟩:=hv.int hz;cases hu with
    |row _ _ _ _ _ hm hl oZ=>
     have hN:(z.toNat:Int)=z:=Int.toNat_of_nonneg h0;refine⟨_,_,?_, .ptr m (off+z.toNat*k') hm,hC⟩;simp [Instr.indexAt,asIntOf,run_underlying eX,h0,aJ,lJ fq,lB]
   ·exact h.elim
  ·split at h
   ·rename_i xs z k9 hz
    obtain⟨h0,h⟩:=h;obtain⟨kz,rfl⟩:=hv.int hz;split at h
    ·rename_i c hc
     obtain⟨hk,hC⟩:=h;obtain⟨A,b,o,cc,k',us,rfl,hA,kQ,vR,eW,hS,lI⟩:=(hu.list k9).pK;have aJ:z.toNat<xs.length:=(amN.1 hc).1;have ck:xs≠ []:=λe=>by subst e;simp at aJ
     have ek:k'=k:=by rw[<-eW c (am0 hc),hk]
     subst ek;rw[hA ck];have NH:z<(xs.length:Int):=by omega
     refine⟨_, .ba [c] 0 0,?_, .ba [c] 0 0 b (o+z.toNat*k') (us z.toNat) c rfl (λj hj=> ?_) (λj d hd=>lI _ _ _ _ hc hd),hC⟩
     ·simp [Instr.indexAt,asIntOf,run_underlying eX,h0,NH,lJ fq,lB]
     ·have:=hS z.toNat j aJ (by rw[hk]at hj;exact hj);exact⟨this.1,this.2.1⟩
    ·exact h.elim
   ·exact h.elim
 ·split at h
  ·rename_i m e k b off z hT hz
   obtain⟨h0,aJ,hC⟩:=h;obtain⟨eX,fq⟩:=N4 hT;obtain⟨kz,rfl⟩:=hv.int hz;cases hu with
   |ptr _ _ hb=>
    refine⟨_,_,?_, .ptr b (off+z.toNat*k) hb,hC⟩;simp [Instr.indexAt,Instr.sureAddr,asIntOf,run_underlying eX,h0,aJ,lJ fq,lB]
  ·rename_i m e k xs i' off z hT hz
   obtain⟨jc,h0,aJ,h9⟩:=bw.1 h;rw[beq_iff_eq]at jc;subst jc;obtain⟨eX,fq⟩:=N4 hT;obtain⟨kz,rfl⟩:=hv.int hz;split at h9
   ·rename_i c hc
    split at h9
    ·rename_i d hd
     cases hu with
     |ba _ _ _ b o us c' ff hS lI=>
      rw[hc]at ff;cases ff
      have ak5:=(amN.1 hd).1;refine⟨_, .ba [[d]] 0 0,?_, .ba [[d]] 0 0 b (o+(off+z.toNat)) (λ_=>us (off+z.toNat)) [d] rfl (λj hj=> ?_) (λj d' jB=> ?_),h9⟩
      ·simp [Instr.indexAt,Instr.sureAddr,asIntOf,run_underlying eX,h0,aJ,lJ fq,lB,Nat.add_assoc]
      ·simp at hj;subst hj;exact hS _ ak5
      ·match j with
       |0=>simp at jB;subst jB;exact lI _ _ hd
       |j+1=>simp at jB
    ·exact h9.elim
   ·exact h9.elim
  ·exact h.elim
theorem rZ{T:Nat}(h:gC P T=true):P.underlying T=some .string:=by
 unfold gC at h;split at h
 ·assumption
 ·cases h
theorem aaP{T:Nat}{x:AV}{u:anH}{ty:Nat}{C:Nat->Prop}(hu:aE G w u x)(h:s8 P T x C):∃m:Nat,(Builtin.len_ #[T] ty #[u]).run P w= .ok (.int .i64 m) w/\C m:=by
 have Sw:∀(A:anF Addr)(l c:Nat),(dQ P T).isSome=true->(Builtin.len_ #[T] ty #[.slice A l c]).run P w= .ok (.int .i64 l) w:=by
  intro A l c hT;obtain⟨⟨e,k⟩,hT⟩:=Option.isSome_iff_exists.1 hT;simp [Builtin.len_,run_underlying (jw hT).1,goInt]
 unfold s8 at h;split at h
 ·rename_i b
  have:=hu.val;subst this;obtain⟨hT,hC⟩:=bw.1 h;exact⟨b.size,by simp [Builtin.len_,run_underlying (rZ hT),goInt],hC⟩
 ·cases hu with
  |row=>exact⟨_,Sw _ _ _ (bw.1 h).1,(bw.1 h).2⟩
 ·split at h
  ·rename_i xs k9
   obtain⟨A,b,o,c,k,us,rfl,_⟩:=(hu.list k9).pK;exact⟨_,Sw _ _ _ (bw.1 h).1,(bw.1 h).2⟩
  ·exact h.elim
def A0(a:Act)(x:anF Operand)(d m:Nat):Prop:=match x with|none=>m=d|some y=>∃k z,a.eval y= .int k z/\0<=z/\m=z.toNat
theorem uY{x:anF Operand}{d:Nat}{C:Nat->Prop}(hs:cx G w a s)(h:ju (ev s) x d C):∃m,C m/\A0 a x d m:=by
 cases x with
 |none=>exact⟨_,h,rfl⟩
 |some y=>
  unfold ju at h;simp only at h;split at h
  ·rename_i z hz
   obtain⟨k,hk⟩:=(hs.ev y).int hz;exact⟨_,h.2,k,z,hk,h.1,rfl⟩
  ·exact h.elim
theorem As{k:IntKind}{z:Int}{y:Nat}{code:BoundsCode}(h0:0<=z)(h:z.toNat<=y)(w:anI):(Instr.sliceBound (.int k z) y code).run P w= .ok z.toNat w:=by
 have:z<=(y:Int):=by omega
 simp [Instr.sliceBound,asIntOf,h0,this]
theorem BM{lo hi:anF Operand}{len cap l h:Nat}{yZ:Bool}(jP:A0 a lo 0 l)(qc:A0 a hi len h)(hl:l<=h)(hh:h<=cap)(w:anI):
 (Instr.sliceBounds yZ len cap (lo.map a.eval) (hi.map a.eval) none).run P w= .ok (l,h,cap) w:=by
 unfold A0 at jP qc;cases lo with
 |none=>
  subst jP;cases hi with
  |none=>subst qc;simp [Instr.sliceBounds]
  |some y=>
   obtain⟨k,z,e,h0,rfl⟩:=qc;simp [Instr.sliceBounds,e,As h0 hh]
 |some x=>
  obtain⟨k',z',e',U1,rfl⟩:=jP;cases hi with
  |none=>subst qc;simp [Instr.sliceBounds,e',As U1 hl]
  |some y=>
   obtain⟨k,z,e,h0,rfl⟩:=qc;simp [Instr.sliceBounds,e,e',As h0 hh,As U1 hl]
theorem cX.part{S:Nat->Nat->Prop}{v:anH}{xs:anD (anD D)}{k:Nat}(hp:cX S w v (.sl xs))(hk:∀c∈xs,c.length=k){l h:Nat}(hl:l<=h)(hh:h<=xs.length):
 ∃A c,v= .slice A xs.length c/\xs.length<=c/\cX S w (.slice (if c=l then A else A.map (·.add (l*k))) (h-l) (c-l)) (.sl ((xs.take h).drop l)):=by
 obtain⟨A,b,o,c,k',us,rfl,hA,kQ,vR,eW,hS,lI⟩:=hp.pK;refine⟨A,c,rfl,kQ,?_⟩;have hlen:((xs.take h).drop l).length=h-l:=by simp;omega
 rw[<-hlen];by_cases hx:xs=[]
 ·subst hx;have e:((([]:anD (anD D)).take h).drop l)=[]:=by simp
  rw[e];exact .sl _ 0 0 (c-l) 0 [] (λ_ _=>undef) (λh=>absurd rfl h) (Nat.zero_le _) (by omega) (λ_ h=>by cases h) (λi j hi=>by simp at hi) (λi j x d hx=>by simp at hx)
 ·have ek:k'=k:=by
   obtain⟨x,ou⟩:=List.exists_mem_of_ne_nil xs hx;rw[<-eW x ou,hk x ou]
  subst ek;have dW:∀i,i<h-l->((xs.take h).drop l)[i]?=xs[l+i]?:=λi hi=>by
   rw[List.getElem?_drop,List.getElem?_take_of_lt (by omega)]
  refine .sl _ b (o+l*k') (c-l) k' _ (λi j=>us (l+i) j) (λck=> ?_) (by rw[hlen];omega) (by omega) (λx hx=>hk x (List.mem_of_mem_take (List.mem_of_mem_drop hx))) (λi j hi hj=> ?_) (λi j x d hx hd=> ?_)
  ·have Pz:0<((xs.take h).drop l).length:=List.length_pos_iff.2 ck;rw[hlen]at Pz;rw[if_neg (by omega),hA hx];simp [lB]
  ·rw[hlen]at hi;have:=hS (l+i) j (by omega) hj;rw[Nat.add_mul,<-Nat.add_assoc]at this;exact this
  ·have hi:=(amN.1 hx).1;rw[hlen]at hi;rw[dW i hi]at hx;exact lI _ _ _ _ hx hd
theorem ZT{T:Nat}{x:AV}{u:anH}{lo hi mx:anF Operand}{C:AV->Prop}(hs:cx G w a s)(hu:aE G w u x)(h:uL P T (ev s) x lo hi mx C):
 ∃p y,(Instr.sliceAt T u (lo.map a.eval) (hi.map a.eval) (mx.map a.eval)).run P w= .ok p w/\aE G w p y/\C y:=by
 unfold uL at h;split at h
 ·split at h
  ·rename_i b
   obtain⟨hT,h⟩:=bw.1 h;have hT:=rZ hT;have:=hu.val;subst this;obtain⟨m,h,hm⟩:=uY hs h;obtain⟨xZ,h⟩:=h;obtain⟨l,h,hl⟩:=uY hs h;obtain⟨te,h⟩:=h;refine⟨_,_,?_, .d (.v _),h⟩;have hb:=BM (P:=P) (yZ:=false) hl hm te xZ w;simp [Instr.sliceAt,Instr.slice,run_underlying hT,hb]
  ·rename_i m off
   split at h
   ·rename_i c e k hT
    rw[bw,dy]at h;obtain⟨vR,h⟩:=h;have vR:c<=maxLen:=by unfold maxLen;omega
    obtain⟨eX,fq⟩:=N4 hT;obtain⟨hh,h,hm⟩:=uY hs h;obtain⟨xZ,h⟩:=bw.1 h;rw[dy]at xZ;obtain⟨l,h,hl⟩:=uY hs h;obtain⟨te,h⟩:=bw.1 h;simp only[amP,dy,Bool.not_eq_true',<-Bool.not_eq_true,Nat.not_le]at te;obtain⟨te,kQ⟩:=te;have hb:=BM (P:=P) (yZ:=false) hl hm te xZ w;cases hu with
    |ptr _ _ vG=>
     refine⟨_,_,?_, .row m (off+l*k) (hh-l) (c-l) k vG (by omega) (by omega),h⟩;simp [Instr.sliceAt,Instr.sureAddr,run_underlying eX,hb,lJ fq,lB,Nat.ne_of_gt kQ]
   ·exact h.elim
  ·split at h
   ·rename_i xs e k k9 hT
    obtain⟨hk,h⟩:=h;obtain⟨eX,fq⟩:=jw hT;obtain⟨hh,h,hm⟩:=uY hs h;obtain⟨xZ,h⟩:=h;obtain⟨l,h,hl⟩:=uY hs h;obtain⟨te,h⟩:=h;obtain⟨A,c,rfl,kQ,hp⟩:=(hu.list k9).part hk te xZ;have hb:=BM (P:=P) (yZ:=true) hl hm te (am5 xZ kQ) w;refine⟨_,_,?_, .d hp,h⟩;simp [Instr.sliceAt,Instr.slice,run_underlying eX,hb,lJ fq]
   ·exact h.elim
 ·rename_i y
  split at h
  case h_2=>exact h.elim
  rename_i yh
  split at h
  ·rename_i xs e k k9 hT
   obtain⟨hk,h⟩:=h;obtain⟨eX,fq⟩:=jw hT;obtain⟨c',h3,hc⟩:=uY hs h;obtain⟨gd,h3⟩:=h3;obtain⟨hh,h4,hm⟩:=uY hs h3;obtain⟨rfl,h5⟩:=h4;clear h h3;obtain⟨k1,z1,e1,p1,q1⟩:=hc;obtain⟨k2,z2,e2,p2,q2⟩:=hm;obtain⟨A,c,rfl,kQ,hp⟩:=(hu.list k9).part hk (Nat.zero_le hh) gd;have hp':cX G.S w (.slice A hh hh) (.sl (xs.take hh)):=by
    have h1:(if c=0 then A else A.map (·.add (0*k)))=A:=by
     split
     ·rfl
     ·cases A<;>simp [Addr.add]
    rw[h1,ann]at hp;obtain⟨A',b,o,c2,k',us,e,r1,r2,r3,r4,r5,r6⟩:=hp.pK;have hl:(xs.take hh).length=hh:=by simp;omega
    injection e with eA e3 e4;subst eA;have:=cX.sl (S:=G.S) (w:=w) A b o hh k' (xs.take hh) us r1 (by omega) (by omega) r4 r5 r6
    rwa [hl]at this
   refine⟨.slice A hh hh, .full (xs.take hh),?_, .full _ hp' ⟨A,by simp;omega⟩,h5⟩;have b1:(Instr.sliceBound (.int k1 z1) c .slice3Acap).run P w= .ok hh w:=by rw[As p1 (by omega),q1]
   have b2:(Instr.sliceBound (.int k2 z2) hh .slice3B).run P w= .ok hh w:=by rw[As p2 (by omega),<-q2]
   simp only[Option.map_some,Option.map_none,e1,e2];have hA:A.map (·.add 0)=A:=by cases A<;>simp [Addr.add]
   simp [Instr.sliceAt,Instr.slice,Instr.sliceBounds,run_underlying eX,b1,b2,lJ fq,hA]
  ·exact h.elim
theorem II:∀{cs:anD AV}{ds:anD D},mJ cs=some ds->ds.length=cs.length/\∀(i:Nat)(c:AV)(d:D),cs[i]?=some c->ds[i]?=some d->c.xm=some d
 |[],ds,h=>by simp [mJ]at h;subst h;simp
 |c::cs,ds,h=>by
  unfold mJ at h;split at h
  ·rename_i d l hd hl
   cases h
   obtain⟨h1,h2⟩:=II hl;refine⟨by simp [h1],λi c' d' hc jB=> ?_⟩
   match i with
   |0=>simp at hc jB;subst hc;subst jB;exact hd
   |i+1=>exact h2 i c' d' (by simpa using hc) (by simpa using jB)
  ·cases h
theorem cX.vn{S:Nat->Nat->Prop}{w:anI}{u:anH}{x:D}(h:cX S w u x):cX S w u x.vn:=by
 unfold D.vn;split
 ·cases h with
  |v=>exact .sl none 0 0 0 0 [] (λ_ _=>undef) (λh=>absurd rfl h) (amY _) (Nat.zero_le _) (λ_ h=>absurd h anu) (λi j hi=>absurd hi (ang _)) (λi j x d hx=>by simp at hx)
 ·exact h
theorem aE.Hq{u:anH}{x:AV}{d:D}(h:aE G w u x)(hx:x.xm=some d):cX G.S w u d:=by
 unfold AV.xm at hx;split at hx
 ·cases hx;cases h with|d h=>exact h.vn
 ·cases hx;cases h with|own _ _ _ h=>exact h
 ·cases hx;cases h with|full _ h=>exact h
 ·cases hx
theorem sV(k:Nat):∀(m:Nat)(l:anD D),(nP k m l).length=m
 |0,_=>rfl
 |m+1,l=>by simp [nP,sV k m]
theorem Pl(k:Nat):∀(m:Nat)(l:anD D)(i:Nat),i<m->(nP k m l)[i]?=some ((l.drop (i*k)).take k)
 |0,_,_,h=>by omega
 |m+1,l,0,_=>by simp [nP]
 |m+1,l,i+1,h=>by
  have:=Pl k m (l.drop k) i (by omega);rw[nP,anp,this,List.drop_drop,Nat.add_mul,Nat.one_mul,Nat.add_comm k]
theorem Uz{k m:Nat}{us:anD anH}{ds:anD D}(hl:ds.length=m*k)(hu:us.length=m*k)(h1:∀u∈us,u.oneCell'=true)
 (hr:∀(i:Nat)(u:anH)(d:D),us[i]?=some u->ds[i]?=some d->cX G.S w u d):Rd G.S w k (nP k m ds) us:=by
 have hb:∀i,i<m->(i+1)*k<=m*k:=λi hi=>Nat.mul_le_mul_right k hi;refine⟨by rw[sV,hu],λx hx=> ?_,h1,λi j x d hx hd=> ?_⟩
 ·obtain⟨i,hi⟩:=List.mem_iff_getElem?.1 hx;have Hu:i<m:=by have:=(amN.1 hi).1;rwa [sV]at this
  rw[Pl k m ds i Hu]at hi;cases hi
  have:=hb i Hu;rw[Nat.add_mul]at this;simp;omega
 ·have Hu:i<m:=by have:=(amN.1 hx).1;rwa [sV]at this
  rw[Pl k m ds i Hu]at hx;cases hx
  rw[List.getElem?_take]at hd;split at hd
  ·rw[List.getElem?_drop]at hd;have:=(amN.1 hd).1;have aJ:i*k+j<us.length:=by omega
   exact⟨us[i*k+j],amR aJ,hr _ _ _ (amR aJ) hd⟩
  ·cases hd
theorem abC{k U e':Nat}{y:AV}{v:anH}{C:anD (anD D)->Prop}(hi:bC G w s.h)(hv:aE G w v y)(hk:0<k)(hU:P.underlying U=some (.slice e'))(h:uR s.h k y C):
 ∃ys us,Rd G.S w k ys us/\Src P k U v ys.length us w/\C ys:=by
 unfold uR at h;split at h
 ·rename_i m off len cap k'
  split at h
  ·rename_i cs hm
   split at h
   ·rename_i ds qD
    obtain⟨eR,hC⟩:=bw.1 h;simp only[amP,beq_iff_eq,dy]at eR;obtain⟨⟨rfl,hlen⟩,iO⟩:=eR;obtain⟨h1,h2⟩:=II qD;obtain⟨_,_,vs,T,hh,hl,hr⟩:=hi.cT m _ hm;cases hv with
    |row _ _ _ _ _ vG kQ oZ=>
     have hdl:ds.length=len*k':=by rw[h1];simp;omega
     have oh:((vs.toList.drop off).take (len*k')).length=len*k':=by simp;omega
     have zV:∀(i:Nat)(u:anH)(c:AV),((vs.toList.drop off).take (len*k'))[i]?=some u->((cs.drop off).take (len*k'))[i]?=some c->aE G w u c:=λi u c hu hc=>by
      rw[List.getElem?_take]at hu hc;split at hu
      ·rename_i pe
       rw[if_pos pe]at hc;rw[List.getElem?_drop]at hu hc;exact hr _ u c (by rw[<-ana];exact hu) hc
      ·cases hu
     have gd:((cs.drop off).take (len*k')).length=len*k':=by simp;omega
     have R9:∀u∈(vs.toList.drop off).take (len*k'),u.oneCell'=true:=λu hu=>by
      obtain⟨i,hi⟩:=List.mem_iff_getElem?.1 hu;have jE:i<len*k':=by rw[<-oh];exact(amN.1 hi).1
      have CR:=amR (l:=(cs.drop off).take (len*k')) (i:=i) (by rw[gd];exact jE);exact(zV i u _ hi CR).jV (ane.1 iO _ (am0 CR))
     have Ds:=Uz (G:=G) (w:=w) (k:=k') (m:=len) hdl oh R9 (λi u d hu hd=>by
      have jE:i<len*k':=by rw[<-oh];exact(amN.1 hu).1
      have CR:=amR (l:=(cs.drop off).take (len*k')) (i:=i) (by rw[gd];exact jE);exact(zV i u _ hu CR).Hq (h2 i _ d CR hd))
     refine⟨_,_,Ds,?_,hC⟩;rw[sV];refine Src.ofSlice w hU _ len cap _ oh (λj u hu=> ?_) R9;rw[List.getElem?_take]at hu;split at hu
     ·rw[List.getElem?_drop,ana]at hu;rw[lB,cell_of_row w _ _ vs T (0,0) hh];exact hu
     ·cases hu
   ·exact h.elim
  ·exact h.elim
 ·split at h
  ·rename_i ys kX
   obtain⟨us,h1,h2⟩:=(hv.list kX).src (P:=P) hk h.1 hU;exact⟨ys,us,h1,h2,h.2⟩
  ·exact h.elim
theorem FX:cX G.S w (.slice none 0 0) (.sl []):=
 .sl none 0 0 0 0 [] (λ_ _=>undef) (λh=>absurd rfl h) (amY _) (by simp) (λ_ h=>by cases h) (λi j hi=>by simp at hi) (λi j x d hx=>by simp at hx)
theorem aah(h:anD ao)(x y:ao):(h++[x]).set h.length y=h++[y]:=by simp
theorem aab{T U ty e':Nat}{x y:AV}{u v:anH}{C:AV->anD ao->Prop}(hi:bC G w s.h)(hu:aE G w u x)(hv:aE G w v y)(hU:P.underlying U=some (.slice e'))(h:uQ P T s.h x y C):
 ∃p w' G' q h',(Builtin.append_ #[T,U] ty #[u,v]).run P w= .ok p w'/\bx G.N G w G' w'/\G.N<=G'.N/\bC G' w' h'/\aE G' w' p q/\C q h':=by
 unfold uQ at h;split at h
 ·rename_i e k hT
  obtain⟨eX,fq⟩:=jw hT;split at h
  ·rename_i z cr hz pH
   obtain⟨eR,h⟩:=bw.1 h;simp only[amP,beq_iff_eq,dy,anl]at eR;obtain⟨hk,jJ⟩:=eR;obtain⟨i,jx,jY,Kt⟩:=KR fq pH;have Xg:i.zero=some z:=by
    obtain⟨i',h1,h2⟩:=GA hz;rw[jx]at h1;cases h1;exact h2
   obtain⟨ys,us,hr,hs,h2⟩:=abC hi hv hk hU h;clear h;have fresh:∀(xs:anD (anD D)),cX G.S w u (.sl xs)->(∃A,u= .slice A xs.length xs.length)->(∀c∈xs,c.length=k)->xs.length+ys.length<=maxLen->(xs.length+ys.length)*cr<=140737488355328->
    C (.own s.h.length (xs++ys)) (s.h++[.front e k (xs.length+ys.length)])->
    ∃p w' G' q h',(Builtin.append_ #[T,U] ty #[u,v]).run P w= .ok p w'/\bx G.N G w G' w'/\G.N<=G'.N/\bC G' w' h'/\aE G' w' p q/\C q h':=by
    intro xs hp hf nI hm hb hC;obtain⟨a1,a2,a3,a4⟩:=Wo hi hp hf e k;obtain⟨p,w',G',r1,r2,r3,r4,r5⟩:=V7 (P:=P) (ty:=ty) a3 eX jx Xg jY Kt jJ hk (n:=s.h.length) (xs:=xs) (ys:=ys) (by simp) a4 nI (hr.keep a1.S a1.cell) hs hm hb;rw[aah]at r4;exact⟨p,w',G',_,_,r1,a1.trans (r2.less a2),am5 a2 r3,r4,r5,hC⟩
   split at h2
   ·rename_i m xs
    split at h2
    ·rename_i e2 k2 len hm
     obtain⟨eR,rfl,nI,oZ,hb,hC⟩:=bw.1 h2;simp only[amP,beq_iff_eq]at eR;obtain⟨rfl,rfl⟩:=eR;obtain⟨p,w',G',r1,r2,r3,r4,r5⟩:=V7 (P:=P) (ty:=ty) hi eX jx Xg jY Kt jJ hk hm hu nI hr hs oZ hb;exact⟨p,w',G',_,_,r1,r2,r3,r4,r5,hC⟩
    ·exact h2.elim
   ·have:=hu.val;subst this;obtain⟨oZ,hb,hC⟩:=h2;exact fresh [] FX ⟨none,rfl⟩ (λ_ h=>by cases h) (by simpa using oZ) (by simpa using hb) (by simpa using hC)
   ·rename_i xs
    obtain⟨nI,oZ,hb,hC⟩:=h2;cases hu with
    |full _ hp hf=>exact fresh xs hp hf nI oZ hb hC
   ·exact h2.elim
  ·exact h.elim
 ·exact h.elim
end
theorem T2(off:Nat):∀(l:anD anH)(k:Nat)(cs:Array anH),((l.zipIdx k).foldl (λcs(p:anH×Nat)=>cs.setIfInBounds (off+p.2) p.1) cs).size=cs.size/\
 ∀i,off+k+l.length<=cs.size->((l.zipIdx k).foldl (λcs(p:anH×Nat)=>cs.setIfInBounds (off+p.2) p.1) cs)[i]?=if off+k<=i/\i<off+k+l.length then l[i-(off+k)]? else cs[i]?
 |[],k,cs=>⟨rfl,λi _=>by
    have h:¬(off+k<=i/\i<off+k+([]:anD anH).length):=by simp
    rw[if_neg h];rfl⟩
 |u::l,k,cs=>by
  obtain⟨h1,h2⟩:=T2 off l (k+1) (cs.setIfInBounds (off+k) u);simp only[List.zipIdx_cons,List.foldl_cons];refine⟨by rw[h1];simp,λi hi=> ?_⟩;simp only[amQ]at hi ⊢;rw[h2 i (by simp;omega)];by_cases ha:off+(k+1)<=i/\i<off+(k+1)+l.length
  ·rw[if_pos ha,if_pos ⟨by omega,by omega⟩];rw[show i-(off+k)=i-(off+(k+1))+1 by omega,anp]
  ·rw[if_neg ha];by_cases hb:i=off+k
   ·subst hb;rw[if_pos ⟨amY _,by omega⟩,Nat.sub_self,List.getElem?_cons_zero,Array.getElem?_setIfInBounds_self_of_lt (by omega)]
   ·rw[if_neg (by omega),Array.getElem?_setIfInBounds_ne (Ne.symm hb)]
section
variable {P:anG} {G:Gh} {w:anI}
structure Row(G:Gh)(w:World)(vs:Array Value)(cs:List AV):Prop where
 len:vs.size=cs.length
 rel:∀(i:Nat)(u:Value)(c:AV),vs[i]?=some u->cs[i]?=some c->aE G w u c
 one:∀(i:Nat)(u:Value),vs[i]?=some u->u.oneCell'=true
theorem adD{vs us:Array anH}{cs ys:anD AV}(h:Row G w vs cs)(h':Row G w us ys){off:Nat}(hb:off+ys.length<=cs.length):
 Row G w (us.zipIdx.foldl (λcs(p:anH×Nat)=>cs.setIfInBounds (off+p.2) p.1) vs) (gM cs off ys):=by
 have e:us.zipIdx.foldl (λcs(p:anH×Nat)=>cs.setIfInBounds (off+p.2) p.1) vs=(us.toList.zipIdx 0).foldl (λcs(p:anH×Nat)=>cs.setIfInBounds (off+p.2) p.1) vs:=by
  rw[<-Array.foldl_toList,Array.toList_zipIdx]
 obtain⟨h1,h2⟩:=T2 off us.toList 0 vs;rw[<-e]at h1 h2;have hl:us.toList.length=ys.length:=by rw[anl,h'.len]
 have hle:off+0+us.toList.length<=vs.size:=by rw[hl,h.len];omega
 have hs:∀i,(gM cs off ys)[i]?=if off+0<=i/\i<off+0+us.toList.length then ys[i-off]? else cs[i]?:=λi=>by
  unfold gM;rw[am4];by_cases ha:i<off
  ·rw[amX (by simp;omega),List.getElem?_take_of_lt ha,if_neg (by omega)]
  ·rw[am3 (by simp;omega)];simp only[List.length_take];rw[Nat.min_eq_left (by omega)];by_cases hb:i-off<ys.length
   ·rw[amX hb,if_pos (by omega)]
   ·rw[am3 (by omega),List.getElem?_drop,if_neg (by omega),show off+ys.length+(i-off-ys.length)=i by omega]
 refine⟨by rw[h1,EX _ _ _ hb,h.len],λi u c hu hc=> ?_,λi u hu=> ?_⟩
 ·rw[h2 i hle]at hu;rw[hs]at hc;split at hu
  ·rename_i hp
   rw[if_pos hp]at hc;exact h'.rel _ _ _ (by rw[<-ana];exact hu) hc
  ·rename_i hp
   rw[if_neg hp]at hc;exact h.rel _ _ _ hu hc
 ·rw[h2 i hle]at hu;split at hu
  ·exact h'.one _ _ (by rw[<-ana];exact hu)
  ·exact h.one _ _ hu
theorem aE.XY{u:anH}{x:AV}(h:aE G w u x)(hb:x.iX=true):Row G w u.cells x.cells:=by
 obtain⟨h1,h2⟩:=h.cells hb;refine⟨h1,λi v c hv hc=>(h2 i v c hv hc).1,λi v hv=> ?_⟩;have aJ:i<x.cells.length:=by rw[<-h1];exact(am2.1 hv).1
 exact(h2 i v _ hv (amR aJ)).2
theorem MI(place:Nat->anF (Nat×Nat))(places:anD (Nat×Nat))(hp:∀i pl,places[i]?=some pl->place i=some pl):∀(ps:anD (Nat×AV))(qs:anD (Nat×anH))(cs bV:anD AV)(vs:Array anH),Row G w vs cs->
 qs.length=ps.length->(∀(i:Nat)(p:Nat×AV)(q:Nat×anH),ps[i]?=some p->qs[i]?=some q->q.1=p.1/\aE G w q.2 p.2)->(ps.all λp=>p.2.iX)=true->oM places cs ps=some bV->
 ∃fu,Instr.fill place vs qs=some fu/\Row G w fu bV
 |[],[],cs,bV,vs,h,_,_,_,hf=>by
  simp only[oM,Option.some.injEq]at hf;subst hf;exact⟨vs,rfl,h⟩
 |[],_::_,_,_,_,_,hl,_,_,_=>by simp at hl
 |_::_,[],_,_,_,_,hl,_,_,_=>by simp at hl
 |(j,x)::ps,(j',u)::qs,cs,bV,vs,h,hl,hr,hb,hf=>by
  obtain⟨e1,e2⟩:=hr 0 (j,x) (j',u) rfl rfl;simp only at e1 e2;subst e1;simp only[anz,amP]at hb;unfold oM at hf;split at hf
  ·rename_i off k Ce
   rw[cond_eq_ite]at hf;split at hf
   ·rename_i hc
    simp only[amP,beq_iff_eq,dy]at hc;have oD:=e2.XY hb.1;obtain⟨fu,h1,h2⟩:=MI place places hp ps qs _ bV _ (adD h oD (by rw[hc.1];exact hc.2)) (by simpa using hl) (λi p q hp hq=>hr (i+1) p q (by simpa using hp) (by simpa using hq)) hb.2 hf;refine⟨fu,?_,h2⟩;unfold Instr.fill;rw[hp _ _ Ce];have h3:¬(u.cells.size≠k||decide (off+u.cells.size>vs.size))=true:=by
     rw[oD.len,hc.1,h.len];simp;exact hc.2
    simp only[h3];exact h1
   ·cases hf
  ·cases hf
theorem Zz{z:Array anH}(h:z.toList.all Value.oneCell'=true):z.all (·.oneCell')=true:=by
 rw[ane]at h;exact Array.all_eq_true_iff_forall_mem.2 λu hu=>h u (Array.mem_toList_iff.2 hu)
theorem abW(z:anH)(h:z.cells.all (·.oneCell')=true):Row G w z.cells (z.cells.toList.map λu=> .d (.v u)):=by
 refine⟨by simp,λi u c hu hc=> ?_,λi u hu=>Array.all_eq_true_iff_forall_mem.1 h u (Array.mem_of_getElem? hu)⟩;rw[amU,ana,hu]at hc;cases hc
 exact .d (.v u)
theorem YV:∀(fs:anD Field)(ps:anD (Nat×Nat))(w:anI),E6 P fs=some ps->(fs.mapM (m:=Sem) λf=>do pure (f.offset,<-sizeOf f.type)).run P w= .ok ps w
 |[],ps,w,h=>by simp [E6]at h;subst h;simp
 |f::fs,ps,w,h=>by
  unfold E6 at h;simp only[List.mapM_cons,Option.bind_eq_bind,Option.bind_eq_some_iff,Option.map_eq_some_iff,Option.pure_def,Option.some.injEq]at h;obtain⟨p,⟨k,hk,rfl⟩,qs,hq,rfl⟩:=h;have ih:=YV fs qs w hq;simp only[List.mapM_cons,Sem.run_bind,lJ hk,Sem.run_pure,Result.andThen_ok,ih]
theorem ZL{T:Nat}{ps:anD (Nat×AV)}{qs:Array (Nat×anH)}{C:AV->Prop}(hl:qs.toList.length=ps.length)
 (hr:∀(i:Nat)(p:Nat×AV)(q:Nat×anH),ps[i]?=some p->qs.toList[i]?=some q->q.1=p.1/\aE G w q.2 p.2) (h:wH P T ps C):∃u y,(Instr.build T qs).run P w= .ok u w/\aE G w u y/\C y:=by
 unfold wH at h;split at h
 ·rename_i places z IN hz
  obtain⟨fs,hT,Ce⟩:∃fs,P.underlying T=some (.struct fs)/\E6 P fs.toList=some places:=by
   unfold Qx at IN;split at IN
   ·exact⟨_,by assumption,IN⟩
   ·cases IN
  ·split at h
   ·rename_i cs hf
    obtain⟨eR,hC⟩:=bw.1 h;simp only[amP]at eR;obtain⟨hb,iO⟩:=eR;have iO:=Zz iO;have l9:(fs.mapM (m:=Sem) λf=>do pure (f.offset,<-sizeOf f.type)).run P w= .ok places.toArray w:=by
     rw[Array.mapM_eq_mapM_toList];have:=YV fs.toList places w Ce;have e:(Functor.map List.toArray (fs.toList.mapM (m:=Sem) λf=>do pure (f.offset,<-sizeOf f.type)):Sem _)=(fs.toList.mapM (m:=Sem) λf=>do pure (f.offset,<-sizeOf f.type))>>=λl=>pure l.toArray:=rfl;rw[e,Sem.run_bind,this];rfl
    obtain⟨fu,h1,h2⟩:=MI (λi=>places.toArray[i]?) places (λi pl h=>by simpa using h) ps qs.toList _ cs z.cells (abW (G:=G) (w:=w) z iO) hl hr hb hf;refine⟨.agg fu, .agg cs,?_, .agg fu cs h2.len h2.rel,hC⟩;unfold Instr.build;simp only[Sem.run_bind,CA hz,Result.andThen_ok,run_underlying hT,l9,h1,Sem.run_pure]
   ·exact h.elim
 ·exact h.elim
theorem Xo{T:Nat}(h:Af P T=true):P.underlying T=some .bool:=by
 unfold Af at h;split at h
 ·assumption
 ·cases h
theorem FY{T:Nat}{k:IntKind}(h:sf P T=some k):P.underlying T=some (.int k):=by
 unfold sf at h;split at h
 ·cases h;assumption
 ·cases h
theorem Sl{t off:Nat}{vs:Array anH}{u:anH}(ha:lV P t=some false)(hu:vs[off]?=some u):(part t vs off).run P w= .ok u w:=by
 unfold part;rw[Sem.run_bind,A5 ha w];simp [hu]
theorem ala{t:Nat}{u v:anH}{x y:AV}{b:Bool}(d:Nat)(hu:aE G w u x)(hv:aE G w v y)(h:Nz P t x y=some b):(Op.equalIn (d+1) t u v).run P w= .ok b w:=by
 unfold Nz at h;split at h
 ·have e1:=hu.val;have e2:=hv.val;subst e1;subst e2
  rename_i k a k' b'
  cases hc:xx k k'&&(sf P t).isSome with
  |false=>rw[hc]at h;cases h
  |true=>
   rw[hc]at h;cases h;rw[amP,Mn]at hc;obtain⟨rfl,hc⟩:=hc;obtain⟨k2,hk⟩:=Option.isSome_iff_exists.1 hc;exact run_equalIn_int w d t k k2 a b' (FY hk)
 ·have e1:=hu.val;have e2:=hv.val;subst e1;subst e2;cases hc:gC P t with
  |false=>rw[hc]at h;cases h
  |true=>rw[hc]at h;cases h;rw[<-Lh,<-Lh];exact run_equalIn_string w d t _ _ (rZ hc)
 ·have e1:=hu.val;have e2:=hv.val;subst e1;subst e2;cases hc:Af P t with
  |false=>rw[hc]at h;cases h
  |true=>rw[hc]at h;cases h;exact run_equalIn_bool w d t _ _ (Xo hc)
 ·cases h
theorem afW{t off k:Nat}{vs:Array anH}(ha:lV P t=some true)(hk:fz P t=some k):(part t vs off).run P w= .ok (.agg (vs.extract off (off+k))) w:=by
 unfold part;rw[Sem.run_bind,A5 ha w];simp [lJ hk]
theorem YF{us:Array anH}{xs:anD AV}{off k:Nat}(hx:us.size=xs.length)(hb:off+k<=xs.length)(hu:∀(i:Nat)(u:anH)(c:AV),us[i]?=some u->xs[i]?=some c->aE G w u c):
 (us.extract off (off+k)).size=((xs.drop off).take k).length/\∀(i:Nat)(u:anH)(c:AV),(us.extract off (off+k))[i]?=some u->((xs.drop off).take k)[i]?=some c->aE G w u c:=by
 refine⟨by simp;omega,λi u c h1 h2=> ?_⟩;rw[List.getElem?_take]at h2;split at h2
 ·next hi=>
  rw[List.getElem?_drop]at h2;rw[Array.getElem?_extract]at h1;split at h1
  ·exact hu _ _ _ h1 h2
  ·cases h1
 ·cases h2
theorem FQ{sub:TypeId->anD AV->anD AV->anF Bool}(d:Nat)
 (tA:∀(T:Nat)(us vs:Array anH)(xs ys:anD AV)(b:Bool),us.size=xs.length->vs.size=ys.length->(∀(i:Nat)(u:anH)(c:AV),us[i]?=some u->xs[i]?=some c->aE G w u c)->(∀(i:Nat)(u:anH)(c:AV),vs[i]?=some u->ys[i]?=some c->aE G w u c)->sub T xs ys=some b->(Op.equalIn (d+1) T (.agg us) (.agg vs)).run P w= .ok b w)
 {us vs:Array anH} {xs ys:anD AV} (hx:us.size=xs.length) (hy:vs.size=ys.length)
 (hu:∀(i:Nat)(u:anH)(c:AV),us[i]?=some u->xs[i]?=some c->aE G w u c) (hv:∀(i:Nat)(u:anH)(c:AV),vs[i]?=some u->ys[i]?=some c->aE G w u c):
 ∀(fs:anD Field)(b:Bool),AZ P sub fs xs ys=some b->(Op.eqFields (d+1) us vs fs).run P w= .ok b w
 |[],b,h=>by cases h;simp [Op.eqFields]
 |f::fs,b,h=>by
  unfold AZ at h;cases hn:f.name== "_" with
  |true=>rw[hn]at h;cases h
  |false=>
   rw[hn]at h;simp only[cond_false]at h;have ck:f.name≠ "_" :=by simpa using hn
   split at h
   ·next e1=>
    split at h
    ·next x y e2 e3=>
     split at h
     ·next a c e4 e5=>
      cases h
      have l1:f.offset<us.size:=by rw[hx];exact(amN.1 e2).1
      have l2:f.offset<vs.size:=by rw[hy];exact(amN.1 e3).1
      have g1:=am9 l1;have g2:=am9 l2;simp only[Op.eqFields,if_pos ck,Sem.run_bind,Sl (w:=w) e1 g1,Sl (w:=w) e1 g2,Result.andThen_ok,ala d (hu _ _ _ g1 e2) (hv _ _ _ g2 e3) e4];cases a with
      |true=>simp only[Bool.not_true,Bool.false_eq_true,if_false,Bool.true_and];exact FQ d tA hx hy hu hv fs c e5
      |false=>simp
     ·cases h
    ·cases h
   ·next e1=>
    split at h
    ·next k e2=>
     cases mw:bS (f.offset+k) xs.length&&bS (f.offset+k) ys.length with
     |false=>rw[mw]at h;cases h
     |true=>
      rw[mw]at h;rw[amP,dy,dy]at mw;simp only[cond_true]at h;split at h
      ·next a c e4 e5=>
       cases h
       obtain⟨p1,p2⟩:=YF hx mw.1 hu;obtain⟨q1,q2⟩:=YF hy mw.2 hv;simp only[Op.eqFields,if_pos ck,Sem.run_bind,afW (w:=w) e1 e2,Result.andThen_ok,tA _ _ _ _ _ a p1 q1 p2 q2 e4];cases a with
       |true=>simp only[Bool.not_true,Bool.false_eq_true,if_false,Bool.true_and];exact FQ d tA hx hy hu hv fs c e5
       |false=>simp
      ·cases h
    ·cases h
   ·cases h
theorem T4:∀(n d:Nat)(T:Nat)(us vs:Array anH)(xs ys:anD AV)(b:Bool),us.size=xs.length->vs.size=ys.length->(∀(i:Nat)(u:anH)(c:AV),us[i]?=some u->xs[i]?=some c->aE G w u c)->(∀(i:Nat)(u:anH)(c:AV),vs[i]?=some u->ys[i]?=some c->aE G w u c)->FC P n T xs ys=some b->(Op.equalIn (d+n+1) T (.agg us) (.agg vs)).run P w= .ok b w
 |0,_,_,_,_,_,_,_,_,_,_,_,h=>by cases h
 |n+1,d,T,us,vs,xs,ys,b,hx,hy,hu,hv,h=>by
  unfold FC at h;split at h
  ·next fs hT=>
   cases hc:P.stoodInHeld T with
   |true=>rw[hc]at h;cases h
   |false=>
    rw[hc]at h;have hf:P.fieldsOf T=fs:=by unfold Program.fieldsOf;rw[hT]
    rw[show d+(n+1)+1=(d+n+1)+1 by omega,run_equalIn_struct w (d+n+1) T us vs (by rw[hf];exact hT) hc,hf];exact FQ (d+n) (λT' O6 fu Ns LB b'=>T4 n d T' O6 fu Ns LB b') hx hy hu hv _ b h
  ·cases h
theorem abl{T:Nat}{us vs:Array anH}{xs ys:anD AV}{b:Bool}(hx:us.size=xs.length)(hy:vs.size=ys.length)
 (hu:∀(i:Nat)(u:anH)(c:AV),us[i]?=some u->xs[i]?=some c->aE G w u c) (hv:∀(i:Nat)(u:anH)(c:AV),vs[i]?=some u->ys[i]?=some c->aE G w u c) (h:Ju P T xs ys=some b):
 P.eqGuardType P.depth T=false/\(Op.equalIn 10000 T (.agg us) (.agg vs)).run P w= .ok b w:=by
 unfold Ju at h;split at h
 ·next fs hT=>
  cases hc:P.stoodInHeld T||P.eqGuardType P.depth T with
  |true=>rw[hc]at h;cases h
  |false=>
   rw[hc]at h;rw[anC]at hc;refine⟨hc.2,?_⟩;have hf:P.fieldsOf T=fs:=by unfold Program.fieldsOf;rw[hT]
   rw[run_equalIn_struct w 9999 T us vs (by rw[hf];exact hT) hc.1,hf];exact FQ 9998 (λT' O6 fu Ns LB b'=>T4 4 9994 T' O6 fu Ns LB b') hx hy hu hv _ b h
 ·cases h
theorem alH{op:BinOp}{x y:AV}{u v:anH}{T:Nat}{X Y:Operand}{C:AV->Prop}(hu:aE G w u x)(hv:aE G w v y)(h:wi P T op x y C):
 ∃r z,(do eqGuard op T X Y u v;binOp op T u v:Sem anH).run P w= .ok r w/\aE G w r z/\C z:=by
 unfold wi at h;split at h
 ·rename_i k a k' b
  have e1:=hu.val;have e2:=hv.val;subst e1;subst e2;have hg:(eqGuard op T X Y (.int k a) (.int k' b)).run P w= .ok () w:=by unfold eqGuard;cases op<;>simp
  rw[Sem.run_bind,hg];simp only[Result.andThen_ok];split at h
  ·rename_i z hq
   obtain⟨uC,hp,hC⟩:=bw.1 h;rw[Mn]at uC;subst uC;refine⟨z,_,?_, .d (.v z),hC⟩;cases op<;>simp [O9]at hq<;>subst hq<;>simp [binOp,Op.intDiv,hp]
  ·split at h
   ·rename_i z hq
    refine⟨z,_,?_, .d (.v z),h.2⟩;have hb:¬b<0:=by omega
    cases op<;>simp [MO]at hq<;>subst hq<;>simp [binOp,Op.shift,hb]
   ·split at h
    ·rename_i z hq
     obtain⟨uC,hC⟩:=bw.1 h;rw[Mn]at uC;subst uC;refine⟨z,_,?_, .d (.v z),hC⟩;cases op<;>simp [QC]at hq<;>subst hq<;>simp [binOp,Op.intArith,Op.intCmp,Op.intBits]
    ·exact h.elim
 ·rename_i a b
  have e1:=hu.val;have e2:=hv.val;subst e1;subst e2;have hg:(eqGuard op T X Y (.string a) (.string b)).run P w= .ok () w:=by unfold eqGuard;cases op<;>simp
  rw[Sem.run_bind,hg];simp only[Result.andThen_ok];split at h
  ·rename_i z hq
   refine⟨z,_,?_, .d (.v z),h⟩;cases op<;>simp [QI]at hq<;>subst hq<;>simp [binOp,Op.stringOp,Lh]
  ·split at h
   ·refine⟨_,_,?_, .d (.v _),h.2⟩;have hm:¬(((a.size+b.size:Nat):Int)>IntKind.i64.max):=by
     have:=h.1;unfold maxLen at this;have e:IntKind.i64.max=9223372036854775807:=by decide
     rw[e];omega
    simp only[binOp,Op.stringOp];rw[if_neg hm];rfl
   ·exact h.elim
 ·rename_i a b
  have e1:=hu.val;have e2:=hv.val;subst e1;subst e2;have hg:(eqGuard op T X Y (.bool a) (.bool b)).run P w= .ok () w:=by unfold eqGuard;cases op<;>simp
  rw[Sem.run_bind,hg];simp only[Result.andThen_ok];split at h
  ·rename_i z hq
   obtain⟨hT,hC⟩:=bw.1 h;have hT:=Xo hT;refine⟨z,_,?_, .d (.v z),hC⟩;have hb:=run_equalIn_bool (P:=P) w 9999 T a b hT;cases op<;>simp [LU]at hq<;>subst hq<;>simp [binOp,Op.equal,Op.maxDepth,hb]
  ·exact h.elim
 ·rename_i xs ys
  cases hu with
  |agg us _ hl1 DP=>
   cases hv with
   |agg vs _ IG C4=>
    split at h
    ·next b hb=>
     obtain⟨hg,he⟩:=abl hl1 IG DP C4 hb;rw[Sem.run_bind,run_eqGuard_agg w op T X Y us vs hg];simp only[Result.andThen_ok];split at h
     ·next z hz=>
      refine⟨z,_,?_, .d (.v z),h⟩;cases op<;>simp [xw]at hz<;>subst hz
      ·rw[run_eql_struct,he];rfl
      ·rw[run_neq_struct,he];rfl
     ·exact h.elim
    ·exact h.elim
 ·exact h.elim
theorem al9{op:UnOp}{x:AV}{u:anH}{C:AV->Prop}(hu:aE G w u x)(h:xz op x C):∃r z,(Op.unary op u).run P w= .ok r w/\aE G w r z/\C z:=by
 unfold xz at h;split at h
 ·rename_i v
  have e:=hu.val;subst e;split at h
  ·rename_i z hq
   refine⟨z,_,?_, .d (.v z),h⟩;unfold IF at hq;split at hq
   ·cases hq;simp [Op.unary]
   ·cases hq;simp [Op.unary,Op.intArith]
   ·cases hq;simp [Op.unary,Op.intBits]
   ·cases hq
  ·exact h.elim
 ·exact h.elim
theorem ai3{T:Nat}(h:BC P T=true):P.underlying T=some (.int .u8):=by
 unfold BC at h;split at h
 ·assumption
 ·cases h
theorem adr{a b:Nat}{x:AV}{u:anH}{C:AV->Prop}(hu:aE G w u x)(h:w8 P a b x C):∃r z,(convert a b u).run P w= .ok r w/\aE G w r z/\C z:=by
 unfold w8 at h;split at h
 ·rename_i k2 m
  have e:=hu.val;subst e;split at h
  ·rename_i k1 k h1 h2
   refine⟨_,_,?_, .d (.v _),h⟩;simp [convert,run_underlying (FY h1),run_underlying (FY h2),Conv.intToInt]
  ·exact h.elim
 ·rename_i s
  have e:=hu.val;subst e;obtain⟨eR,hC⟩:=bw.1 h;rw[amP]at eR;refine⟨_,_,?_, .d (.v _),hC⟩;simp [convert,run_underlying (rZ eR.1),run_underlying (rZ eR.2)]
 ·split at h
  ·rename_i xs e k k9 hT
   obtain⟨eR,ns,rfl,hC⟩:=bw.1 h;rw[amP]at eR;refine⟨_,_,?_, .d (.v _),hC⟩;obtain⟨A,bb,o,cc,k',us,rfl,hA,kQ,vR,eW,hS,lI⟩:=(hu.list k9).pK;rw[run_convert_bytes_string w a b e A _ cc (jw hT).1 (ai3 eR.1) (rZ eR.2)];simp only[amS]at hA kQ hS ⊢;cases ns with
   |nil=>
    cases A with
    |none=>rfl
    |some ad=>
     have hl:=run_loadCells_list (P:=P) w ad (([]:anD Int).map (Value.int .u8)) (λj v hj=>by simp at hj);simp only[List.map_nil,amZ]at hl;have:=run_bytesToString (P:=P) w ad 0 cc [] (by simpa using hl);exact this
   |cons n0 ns=>
    have HX:=hA (by simp);subst HX;have jc:k'=1:=(eW [.v (.int .u8 n0)] (by simp)).symm;subst jc;have hl:=run_loadCells_list (P:=P) w ⟨bb,o,none⟩ ((n0::ns).map (Value.int .u8)) (λj v hj=>by
     have aJ:=(amN.1 hj).1;rw[amS]at aJ;have h1:=(hS j 0 aJ (by omega)).2.1;rw[amU,amR aJ]at hj;cases hj
     have h2:=lI j 0 [.v (.int .u8 ((n0::ns)[j]))] (.v (.int .u8 ((n0::ns)[j]))) (by rw[amU,amR aJ];rfl) rfl;have h3:us j 0= .int .u8 ((n0::ns)[j]):=by
      generalize us j 0=q at h2;cases h2;rfl
     rw[lB];rw[h3]at h1
     simpa using h1)
    rw[amS]at hl;rw[run_bytesToString w _ _ cc _ hl];have key:∀(l:anD Int)(r:anE),l.foldl (λr n=>r.push (UInt8.ofNat n.toNat)) r=⟨r.data++(l.map λn=>UInt8.ofNat n.toNat).toArray⟩:=by
      intro l
      induction l with
      |nil=>intro r;simp
      |cons x l ih=>intro r;rw[List.foldl_cons,ih];simp [ByteArray.push]
    rw[key];have C9:ByteArray.empty.data= #[]:=rfl;rw[C9];simp
  ·exact h.elim
theorem PE{T f off k:Nat}{g:Bool}(h:sL P T f=some (off,k,g)):∃fs fd,P.underlying T=some (.struct fs)/\fs[f]?=some fd/\fz P fd.type=some k/\0<k/\lV P fd.type=some g/\fd.offset=off:=by
 unfold sL at h;split at h
 ·rename_i fs hT
  split at h
  ·rename_i fd hf
   split at h
   ·rename_i k' g' h1 h2
    cases h
    exact⟨fs,fd,hT,hf,h1,Nat.succ_pos _,h2,rfl⟩
   ·cases h
  ·cases h
 ·cases h
theorem P9{T f off k o b:Nat}{g:Bool}(h:sL P T f=some (off,k,g)):(Instr.fieldAt T (.pointer (some ⟨b,o,none⟩)) f).run P w= .ok (.pointer (some ⟨b,o+off,none⟩)) w:=by
 obtain⟨fs,fd,h1,h2,h3,h4,h5,rfl⟩:=PE h;simp [Instr.fieldAt,run_underlying h1,h2,Instr.sureAddr,fieldPlace,lJ h3,Nat.ne_of_gt h4,lB]
theorem aeC{T f:Nat}{x:AV}{u:anH}{C:AV->Prop}(hu:aE G w u x)(h:x8 P T x f C):∃r z,(Instr.field T u f).run P w= .ok r w/\aE G w r z/\C z:=by
 unfold x8 at h;split at h
 ·rename_i off k cs hT
  obtain⟨hl,hC⟩:=bw.1 h;rw[dy]at hl;obtain⟨fs,fd,h1,h2,h3,h4,h5,rfl⟩:=PE hT;cases hu with
  |agg vs _ hlen hr=>
   refine⟨.agg (vs.extract fd.offset (fd.offset+k)),_,?_, .agg _ _ ?_ λi u c hu hc=> ?_,hC⟩
   ·simp [Instr.field,run_underlying h1,h2,asAgg,part,A5 h5,lJ h3]
   ·simp;omega
   ·rw[Array.getElem?_extract]at hu;rw[List.getElem?_take]at hc;split at hc
    ·rw[List.getElem?_drop]at hc;split at hu
     ·exact hr _ u c hu hc
     ·cases hu
    ·cases hc
 ·rename_i off k cs hT
  obtain⟨fs,fd,h1,h2,h3,h4,h5,rfl⟩:=PE hT;split at h
  ·rename_i c hc
   cases hu with
   |agg vs _ hlen hr=>
    have aJ:fd.offset<vs.size:=by rw[hlen];exact(amN.1 hc).1
    refine⟨vs[fd.offset],c,?_,hr _ _ c (am9 aJ) hc,h⟩;simp [Instr.field,run_underlying h1,h2,asAgg,part,A5 h5,am9 aJ]
  ·exact h.elim
 ·exact h.elim
end
def Gh.CJ(G:Gh)(b m:Nat):Gh:={G with S:=λc o=>G.S c o\/(c=b/\o<m)}
theorem U0{G:Gh}{w:anI}{h:anD ao}(hi:bC G w h)(ob:Obj)(m:Nat):bx G.N G w (G.CJ w.heap.size m) (w.alloc ob)/\bC (G.CJ w.heap.size m) (w.alloc ob) h:=by
 have hE:bx G.N G w (G.CJ w.heap.size m) (w.alloc ob):=
  ⟨by simp,λ_ _ h=> .inl h,λb _ h=>World.cell?_alloc_lt _ _ _ (hi.S _ _ h),λ_ _=>rfl,λ_ _=> .inl ⟨rfl,rfl⟩,gV rfl,λb hb=>Below.heap_alloc w ob b (hi.z b hb),rfl,rfl,rfl,λb o hs=>hs.imp id fun⟨e,_⟩ hz=>ans _ (hi.z _ (e▸hz))⟩
 refine⟨hE,hi.len,λb hb=>anb (hi.z b hb) hE.size,λb o hs=> ?_,λn B hB=> ?_,λm n b h1 h2=>hi.inj m n b h1 h2,hi.gl.keep hE⟩
 ·rcases hs with hs|⟨rfl,_⟩
  ·exact anb (hi.S b o hs) hE.size
  ·simp
 ·refine dB.keep (hi.lt hB) hE (amY _) ⟨rfl,rfl,rfl⟩ (λb hb=> ?_) (hi.cT n B hB);have aJ:=hi.gr (n:=n) (b:=b) ((di hB).trans hb);refine⟨Below.heap_alloc w _ _ aJ,λo ji hs=> ?_⟩;rcases hs with hs|⟨e,_⟩
  ·exact ji hs
  ·omega
theorem Yv(k:Nat):∀(n o i:Nat)(pl:Nat×Nat),(vp k o n)[i]?=some pl->pl=(o+i*k,k)
 |0,_,_,_,h=>by simp [vp]at h
 |n+1,o,0,pl,h=>by simp [vp]at h;rw[<-h];simp
 |n+1,o,i+1,pl,h=>by
  have:=Yv k n (o+k) i pl (by simpa [vp]using h);rw[this,Nat.add_mul];simp;omega
theorem Zf(l:anD AV):∀n,(sH n l).length=n*l.length
 |0=>by simp [sH]
 |n+1=>by rw[sH,amO,Zf l n,Nat.add_mul];omega
theorem Uj(l:anD AV):∀(n i:Nat),i<n*l.length->(sH n l)[i]?=l[i%l.length]?
 |0,i,h=>by omega
 |n+1,i,h=>by
  rw[sH];by_cases hi:i<l.length
  ·rw[amX hi,Nat.mod_eq_of_lt hi]
  ·rw[am3 (by omega),Uj l n _ (by rw[Nat.add_mul]at h;omega),<-Nat.mod_eq_sub_mod (by omega)]
theorem aiV(z:anH){k:Nat}(hz:z.cells.size=k)(n:Nat):sH n (z.cells.toList.map λu=> .d (.v u))=(List.range (n*k)).map λi=> .d (.v (z.cells[i%z.cells.size]!)):=by
 have hl:(z.cells.toList.map λu=>AV.d (.v u)).length=k:=by simp [hz]
 refine List.ext_getElem? λi=> ?_;by_cases hi:i<n*k
 ·rw[Uj _ _ _ (by rw[hl];exact hi),amU,amU,List.getElem?_range hi,hl,hz,ana];have hk:0<k:=Nat.pos_of_ne_zero λe=>by subst e;simp at hi
  have aJ:i%k<z.cells.size:=by rw[hz];exact Nat.mod_lt _ hk
  rw[am9 aJ];simp only[Option.map_some];rw[getElem!_pos z.cells (i%k) aJ]
 ·rw[ank (by rw[Zf,hl];omega),ank (by simp;omega)]
theorem Wy:∀{ps:anD (Nat×AV)}{places:anD (Nat×Nat)}{cs bV:anD AV},oM places cs ps=some bV->bV.length=cs.length
 |[],_,_,_,h=>by simp only[oM,Option.some.injEq]at h;rw[h]
 |(i,x)::ps,places,cs,bV,h=>by
  unfold oM at h;split at h
  ·rw[cond_eq_ite]at h;split at h
   ·rename_i hc
    simp only[amP,beq_iff_eq,dy]at hc;rw[Wy h,EX _ _ _ (by rw[hc.1];exact hc.2)]
   ·cases h
  ·cases h
section
variable {P:anG} {r:anF Nat} {n N0:Nat} {G:Gh} {w:anI} {a:Act} {s:St} {o:Oper} {K:St->Prop} {Q:Exit->Act->anI->Prop}
theorem aj1{T len:Nat}{h:anD ao}{ps:anD (Nat×AV)}{qs:Array (Nat×anH)}{C:AV->Prop}(hi:bC G w h)(hl:qs.toList.length=ps.length)
 (hr:∀(i:Nat)(p:Nat×AV)(q:Nat×anH),ps[i]?=some p->qs.toList[i]?=some q->q.1=p.1/\aE G w q.2 p.2) (hC:vz P T len ps C):
 ∃u w' G' y,(Instr.buildSlice T len qs).run P w= .ok u w'/\bx G.N G w G' w'/\G.N<=G'.N/\bC G' w' h/\aE G' w' u y/\C y:=by
 unfold vz at hC;split at hC
 ·rename_i e k hT
  obtain⟨eX,fq⟩:=jw hT;split at hC
  ·rename_i z hz
   split at hC
   ·rename_i cs hf
    split at hC
    ·rename_i ds qD
     obtain⟨eR,hC⟩:=bw.1 hC;simp only[amP,beq_iff_eq,dy,anl]at eR;obtain⟨⟨⟨⟨hk,hsm⟩,jJ⟩,iO⟩,hb⟩:=eR;have iO:=Zz iO;rw[aiV z jJ]at hf;have Ce:=Yv k;obtain⟨z0,wR⟩:∃z0:Array anH,z0=if len*k=0 then #[]else z.cells:=⟨_,rfl⟩
     obtain⟨zr,Dv⟩:∃zr:Array anH,zr=(Array.range (len*k)).map (z0[·%z0.size]!):=⟨_,rfl⟩;have oD:Row G w zr ((List.range (len*k)).map λi=> .d (.v (z.cells[i%z.cells.size]!))):=by
      have ET:∀i,i<len*k->z0[i%z0.size]! =z.cells[i%z.cells.size]! :=λi hi=>by rw[wR,if_neg (by omega)]
      refine⟨by rw[Dv];simp,λi u c hu hc=> ?_,λi u hu=> ?_⟩
      ·rw[Dv,Array.getElem?_map]at hu;rw[amU]at hc;by_cases hi:i<len*k
       ·rw[List.getElem?_range hi]at hc;rw[Array.getElem?_range,if_pos hi]at hu;simp only[Option.map_some,Option.some.injEq]at hu hc;subst hu;subst hc;rw[ET i hi];exact .d (.v _)
       ·rw[ank (by simp;omega)]at hc;cases hc
      ·rw[Dv,Array.getElem?_map]at hu;by_cases hi:i<len*k
       ·rw[Array.getElem?_range,if_pos hi]at hu;simp only[Option.map_some,Option.some.injEq]at hu;subst hu;rw[ET i hi];have aJ:i%z.cells.size<z.cells.size:=Nat.mod_lt _ (by omega);rw[getElem!_pos z.cells _ aJ];exact Array.all_eq_true_iff_forall_mem.1 iO _ (Array.getElem_mem _)
       ·rw[Array.getElem?_eq_none (by simp;omega)]at hu;cases hu
     obtain⟨fu,h1,h2⟩:=MI (λi=>some (i*k,k)) (vp k 0 len) (λi pl h=>by
      have:=Ce len 0 i pl h;rw[this];simp) ps qs.toList _ cs zr oD hl hr hb hf
     obtain⟨d1,d2⟩:=II qD;have gd:cs.length=len*k:=by
      have:=Wy hf;rw[this];simp
     have wa:fu.size=len*k:=by rw[h2.len,gd]
     obtain⟨i1,i2⟩:=U0 hi (.cells fu e) (len*k);have Ds:Rd G.S w k (nP k len ds) fu.toList:=Uz (by rw[d1,gd]) (by rw[anl,wa]) (λu hu=>by
      obtain⟨j,hj⟩:=List.mem_iff_getElem?.1 hu;exact h2.one j u (by rw[<-ana];exact hj)) (λi u d hu hd=>by
      have aJ:i<cs.length:=by rw[<-d1];exact(amN.1 hd).1
      exact(h2.rel i u _ (by rw[<-ana];exact hu) (amR aJ)).Hq (d2 i _ d (amR aJ) hd))
     have hp:cX (G.CJ w.heap.size (len*k)).S (w.alloc (.cells fu e)) (.slice (some ⟨w.heap.size,0,none⟩) len len) (.sl (nP k len ds)):=by
      have:=(Ds.keep i1.S i1.cell).GB w.heap.size len (by rw[sV];exact amY _) (by have:=Nat.le_mul_of_pos_right len hk;simp only[maxLen];omega) (λo ho=> .inr ⟨rfl,by rw[sV]at ho;exact ho⟩) (λo u hu=>by
       rw[World.cell?_alloc_new];rw[<-ana];exact hu)
      rwa [sV]at this
     refine⟨_,_,_,_,?_,i1,amY _,i2, .full _ hp ⟨some ⟨w.heap.size,0,none⟩,by rw[sV]⟩,hC⟩;have ji:¬(len*k>2^24):=by omega
     unfold Instr.buildSlice;simp only[Sem.run_bind,run_underlying eX,Result.andThen_ok,lJ fq,ji,if_false];by_cases h0:len*k=0
     ·rw[if_pos h0]at wR;subst wR;subst Dv;simp [h0]at h1;simp [h0,h1,newRow]
     ·rw[if_neg h0]at wR;subst wR;subst Dv;simp [h0,CA hz,h1,newRow]
    ·exact hC.elim
   ·exact hC.elim
  ·exact hC.elim
 ·exact hC.elim
end
section
variable {P:anG} {G:Gh} {w:anI} {h:anD ao}
theorem yu(k s:anE)(d:D)(l:anD (anE×D)):lQ ((k,d)::l) s=if k=s then some d else lQ l s:=by
 have e1:lQ ((k,d)::l) s=bif bL k==bL s then some d else lQ l s:=rfl;rw[e1];by_cases e:k=s
 ·subst e;rw[if_pos rfl];simp
 ·rw[if_neg e];have:(bL k==bL s)=false:=by rw[beq_eq_false_iff_ne];exact λhe=>e (KV he)
  rw[this];rfl
theorem B9{T k e:TypeId}(h:tK P T=some (k,e)):P.underlying T=some (.map k e):=by
 unfold tK at h;split at h
 ·next k' e' hT=>cases h;exact hT
 ·cases h
theorem afh(hi:bC G w h):bx G.N G w (G.cv w.heap.size) (w.alloc (.map #[] 0))/\bC (G.cv w.heap.size) (w.alloc (.map #[] 0)) (h++[.map []])/\aE (G.cv w.heap.size) (w.alloc (.map #[] 0)) (.map (some w.heap.size)) (.mp h.length):=by
 have hE:=rD G w hi.z hi.S (.map #[] 0);have hN:G.N<=(G.cv w.heap.size).N:=Nat.le_succ _;have fy:(G.cv w.heap.size).aI h.length=w.heap.size:=by simp [Gh.cv,hi.len]
 have kN:∀n(B:ao),n<G.N->B.dw (G.cv w.heap.size) n=B.dw G n:=λn B hn=>by
  cases B<;>simp [ao.dw,Gh.cv,Nat.ne_of_lt hn]
 have fk:∀n,n<G.N->bz (h++[.map []]) (G.cv w.heap.size) n=bz h G n:=λn hn=>by
  have aJ:n<h.length:=by rw[hi.len];exact hn
  unfold bz;rw[amX aJ,amR aJ];exact kN n _ hn
 have rL:bz (h++[.map []]) (G.cv w.heap.size) h.length=some w.heap.size:=by
  rw[di (B:= .map []) (by simp)];exact congrArg some fy
 refine⟨hE,⟨by simp [Gh.cv,hi.len],λb hb=>anb (hi.z b hb) hE.size,λb o hs=>anb (hi.S b o hs) hE.size,λn B hB=> ?_,λm n b hm hn=> ?_,hi.gl.keep hE⟩,?_⟩
 ·by_cases hn:n<h.length
  ·rw[amX hn]at hB;have dL:n<G.N:=hi.len▸hn;exact dB.keep dL hE hN ⟨rfl,rfl,rfl⟩ (λb hb=>⟨Below.heap_alloc w _ _ (hi.gr (n:=n) ((di hB).trans hb)),λo h=>h⟩) (hi.cT n B hB)
  ·have kD:n=h.length:=by
    have:=(amN.1 hB).1;simp at this;omega
   subst kD;simp at hB;subst hB;exact⟨by rw[fy];exact λhz=>ans _ (hi.z _ hz),λo hs=>by rw[fy]at hs;exact ans _ (hi.S _ _ hs), #[],0,by rw[fy];exact World.alloc_heap_new w _,
    ⟨by simp,MapKept.stamped_empty 0,λe he=>(by simp at he),λs d hs=>(by cases hs),by simp,λi e he=>(by simp at he),rfl⟩⟩
 ·have key:∀n b,bz (h++[.map []]) (G.cv w.heap.size) n=some b->(n<G.N/\bz h G n=some b)\/(n=h.length/\b=w.heap.size):=λn b hn=>by
   by_cases aJ:n<G.N
   ·exact .inl ⟨aJ,by rw[<-fk n aJ];exact hn⟩
   ·by_cases e:n=h.length
    ·subst e;rw[rL]at hn;cases hn;exact .inr ⟨rfl,rfl⟩
    ·rw[ue (ank (by simp;have:=hi.len;omega))]at hn;cases hn
  rcases key m b hm with⟨_,iL⟩|⟨rfl,rfl⟩<;>rcases key n _ hn with⟨_,dL⟩|⟨rfl,hb⟩
  ·exact hi.inj m n b iL dL
  ·have:=hi.gr iL;omega
  ·have:=hi.gr dL;omega
  ·rfl
 ·have:=aE.mp (G:=G.cv w.heap.size) (w:=w.alloc (.map #[] 0)) h.length (by simp [Gh.cv,hi.len])
  rwa [fy]at this
theorem aku{v:anH}{d:D}(h:cX G.S w v d):aE G w v (FM d):=by
 cases d with
 |v x=>exact .d h
 |sl xs=>exact .d h
 |ag ds=>
  cases h with
  |ag vs _ hl h=>
   refine .agg vs _ (by rw[amS];exact hl) λi u c hu hc=> ?_;rw[amU]at hc;obtain⟨d,hd,rfl⟩:=Option.map_eq_some_iff.1 hc;exact .d (h i u d hu hd)
theorem aek(z:anH):aE G w z (y9 z):=by
 unfold y9;split
 ·next vs=>
  refine .agg vs _ (by rw[amS];exact anl.symm) λi u c hu hc=> ?_;rw[amU,ana,hu]at hc;cases hc
  exact .d (cX.v u).vn
 ·exact .d (.v _)
theorem aE.toM{u:anH}{x:AV}{d:D}(h:aE G w u x)(hx:x.QA=some d):cX G.S w u d:=by
 unfold AV.QA at hx;split at hx
 ·next cs=>
  obtain⟨ds,qD,rfl⟩:=Option.map_eq_some_iff.1 hx;obtain⟨h1,h2⟩:=II qD;cases h with
  |agg vs _ hl hc=>
   refine .ag vs ds (hl.trans h1.symm) λi v e hv he=> ?_;have hi:i<cs.length:=by rw[<-h1];exact(amN.1 he).1
   exact(hc i v _ hv (amR hi)).Hq (h2 i _ e (amR hi) he)
 ·exact h.Hq hx
theorem rC{s:anE}:MapKept.IsKey .string (.string s):=trivial
theorem agC{T k e:TypeId}{z:anH}{n:Nat}{kv:anD (anE×D)}{s:anE}{ok:Bool}(hi:bC G w h)(hT:tK P T=some (k,e))(hz:iE P e=some z)(hk:gC P k=true)(hn:h[n]?=some (.map kv)):
 ∃v,(Instr.lookup T (.map (some (G.aI n))) (.string s) ok).run P w= .ok v w/\aE G w v (ua ok z (lQ kv s)):=by
 obtain⟨_,_,es,clock,hh,hm⟩:=hi.cT n _ hn;have n5:∀x∈es.toList,MapKept.IsKey .string x.key:=λx hx=>by
  obtain⟨s',d,h1,_⟩:=hm.Ae x hx;rw[h1];exact rC
 have p7:=rZ hk;have one:∀(v:anH)(d:AV)(b:Bool),aE G w v d->aE G w (if ok then .tuple #[v, .bool b]else v) (bif ok then .aQ [d, .d (.v (.bool b))]else d):=λv d b hp=>by
  cases ok with
  |false=>exact hp
  |true=>
   refine .aQ #[v, .bool b] _ rfl λi u c hu hc=> ?_
   match i with
   |0=>simp at hu hc;subst hu;subst hc;exact hp
   |1=>simp at hu hc;subst hu;subst hc;exact .d (.v _)
   |i+2=>simp at hu
 rcases MapKept.findNow_spec (rC (s:=s)) es.toList 0 n5 with⟨h1,h2⟩|⟨j,e0,h1,h2,h3⟩
 ·have agA:lQ kv s=none:=by
   cases hq:lQ kv s with
   |none=>rfl
   |some d=>
    obtain⟨x,hx,nI⟩:=hm.all s d hq;exact absurd nI (h2 x hx)
  refine⟨if ok then .tuple #[z, .bool false]else z,?_,?_⟩
  ·simp [Instr.lookup,run_underlying (B9 hT),MapKept.run_getObj_map hh,MapKept.run_checkKey p7 rC,MapKept.run_findKey p7 h1,CA hz,Result.andThen]
  ·rw[agA];have:=one z _ false (aek z);unfold ua;exact this
 ·have mN:e0∈es.toList:=am0 h2;obtain⟨s',d,k1,k2,k3⟩:=hm.Ae e0 mN;rw[h3]at k1;cases k1
  refine⟨if ok then .tuple #[e0.val, .bool true]else e0.val,?_,?_⟩
  ·simp [Instr.lookup,run_underlying (B9 hT),MapKept.run_getObj_map hh,MapKept.run_checkKey p7 rC,MapKept.run_findKey p7 h1,Result.andThen]
  ·rw[k2];have:=one e0.val _ true (aku k3);unfold ua;exact this
theorem agb{T k e:TypeId}{n:Nat}{kv:anD (anE×D)}{s:anE}{v:anH}{d:D}(hi:bC G w h)(hT:tK P T=some (k,e))(hk:gC P k=true)(hn:h[n]?=some (.map kv))(hv:cX G.S w v d)(hlen:kv.length<maxLen):
 ∃w',(Instr.mapUpdate T (.map (some (G.aI n))) (.string s) v).run P w= .ok () w'/\bx G.N G w G w'/\bC G w' (h.set n (.map ((s,d)::kv))):=by
 obtain⟨hZ,hS,es,clock,hh,hm⟩:=hi.cT n _ hn;have n5:∀x∈es.toList,MapKept.IsKey .string x.key:=λx hx=>by
  obtain⟨s',d,h1,_⟩:=hm.Ae x hx;rw[h1];exact rC
 have p7:=rZ hk;have fin:∀(yd:Array MapEntry)(Cj:Nat)(w':anI),w'=ChangeMaps.setBlock w (G.aI n) (.map yd Cj)->tJ G.S w yd Cj ((s,d)::kv)->bx G.N G w G w'/\bC G w' (h.set n (.map ((s,d)::kv))):=by
  intro yd Cj w' dS iL;have im:∀b,b≠G.aI n->w'.heap[b]?=w.heap[b]?:=λb hb=>by rw[dS];exact ChangeMaps.heap_setBlock_other hh _ hb
  have ML:w'.heap[G.aI n]?=some (.map yd Cj):=by rw[dS];exact ChangeMaps.heap_setBlock_same hh _
  have iq:w'.heap.size=w.heap.size:=by rw[dS];simp [ChangeMaps.setBlock]
  have ie:∀b o,G.S b o->w'.cell? ⟨b,o,none⟩=w.cell? ⟨b,o,none⟩:=λb o hs=>World.cell?_of_block (im b (λe=>hS o (e▸hs)));have hE:bx G.N G w G w':=⟨by rw[iq];exact amY _,λ_ _ h=>h,ie,λ_ _=>rfl,λ_ _=> .inl ⟨rfl,rfl⟩,gV rfl,λb hb=>im b (λe=>hZ (e▸hb)),by rw[dS];rfl,by rw[dS];rfl,by rw[dS];rfl,λ_ _ h=> .inl h⟩;refine⟨hE,?_⟩;have k8:bz h G n=some (G.aI n):=di hn;have lP:(h.set n (.map ((s,d)::kv)))[n]?=some (.map ((s,d)::kv)):=by rw[anh (amN.1 hn).1]
  have dW:∀m,m≠n->(h.set n (.map ((s,d)::kv)))[m]?=h[m]?:=λm hm=>by rw[anm (Ne.symm hm)]
  have dP:∀m,bz (h.set n (.map ((s,d)::kv))) G m=bz h G m:=λm=>by
   by_cases e:m=n
   ·subst e;rw[di lP,di hn];rfl
   ·unfold bz;rw[dW m e]
  refine⟨by rw[List.length_set];exact hi.len,λb hb=>anb (hi.z b hb) hE.size,λb o hs=>anb (hi.S b o hs) hE.size,λm B hB=> ?_,λm m' b h1 h2=>hi.inj m m' b (by rw[<-dP];exact h1) (by rw[<-dP];exact h2),hi.gl.keep hE⟩;by_cases e:m=n
  ·subst e;rw[lP]at hB;cases hB
   exact⟨hZ,hS,yd,Cj,ML,iL.keep (λ_ _ h=>h) ie⟩
  ·rw[dW m e]at hB;have ck:∀b,bz h G m=some b->b≠G.aI n:=λb hb eb=>e (hi.inj m n b hb (by rw[eb];exact k8));exact dB.keep (hi.lt hB) hE (amY _) ⟨rfl,rfl,rfl⟩ (λb hb=>⟨im b (ck _ ((di hB).trans hb)),λo h=>h⟩) (hi.cT m B hB)
 rcases MapKept.findNow_spec (rC (s:=s)) es.toList 0 n5 with⟨h1,h2⟩|⟨j,e0,h1,h2,h3⟩
 ·have iL:tJ G.S w (es.push ⟨.string s,v,clock⟩) (clock+1) ((s,d)::kv):=by
   refine⟨by have:=hm.len;simp;omega,MapKept.stamped_push hm.stamped h2,λx hx=> ?_,λs' d' bP=> ?_,by have:=hm.len;simp;omega,λi e he=> ?_,by rw[hm.DV];simp⟩
   ·simp only[Array.toList_push,anq,List.mem_singleton]at hx;rcases hx with hx|rfl
    ·obtain⟨s',d',k1,k2,k3⟩:=hm.Ae x hx;refine⟨s',d',k1,?_,k3⟩;rw[yu,if_neg (λe=>h2 x hx (by rw[k1,e]))];exact k2
    ·exact⟨s,d,rfl,by rw[yu,if_pos rfl],hv⟩
   ·rw[yu]at bP;simp only[Array.toList_push,anq,List.mem_singleton];split at bP
    ·next e=>subst e;exact⟨_, .inr rfl,rfl⟩
    ·obtain⟨x,hx,hk⟩:=hm.all s' d' bP;exact⟨x, .inl hx,hk⟩
   ·rw[Array.getElem?_push]at he;split at he
    ·next ei=>cases he;rw[ei];exact hm.DV
    ·exact hm.born i e he
  obtain⟨f1,f2⟩:=fin _ _ _ rfl iL;refine⟨_,?_,f1,f2⟩;simp [Instr.mapUpdate,run_underlying (B9 hT),MapKept.run_getObj_map hh,MapKept.run_checkKey p7 rC,MapKept.run_findKey p7 h1,MapKept.run_setObj_map _ hh,Result.andThen,ChangeMaps.setBlock]
 ·have hj:es[j]?=some e0:=by simpa using h2
  have zF:j<es.toList.length:=(amN.1 h2).1;have ajv:∀e',es[j]?=some e'->({e' with key:= .string s,val:=v}:MapEntry).key=e'.key:=λe' s7=>by rw[hj]at s7;cases s7;exact h3.symm
  have JS:(es.modify j (λe'=>{e' with key:= .string s,val:=v})).toList=es.toList.set j {e0 with key:= .string s,val:=v}:=by
   rw[Array.toList_modify];exact ChangeMaps.modify_eq_set _ _ _ _ h2
  have jv:(es.toList.map (·.key)).Nodup:=hm.stamped.2.2;have iL:tJ G.S w (es.modify j (λe'=>{e' with key:= .string s,val:=v})) clock ((s,d)::kv):=by
   refine⟨by simpa using hm.size,MapKept.stamped_modify hm.stamped _ _ (λ_ _=>rfl) (λe' _ s7=>ajv e' s7),λx hx=> ?_,λs' d' bP=> ?_,by have:=hm.len;simp;omega,λi e he=> ?_,by rw[hm.DV];simp⟩
   ·rw[JS]at hx;obtain⟨i,dx,ex⟩:=List.getElem_of_mem hx;rw[List.getElem_set]at ex;split at ex
    ·rw[<-ex];exact⟨s,d,rfl,by rw[yu,if_pos rfl],hv⟩
    ·next ck=>
     have jY:i<es.toList.length:=by simpa using dx
     have ou:x∈es.toList:=by rw[<-ex];exact List.getElem_mem jY
     obtain⟨s',d',k1,k2,k3⟩:=hm.Ae x ou;refine⟨s',d',k1,?_,k3⟩;rw[yu,if_neg ?_]
     ·exact k2
     ·intro yd;have a1:(es.toList.map (·.key))[i]?=some (.string s):=by rw[amU,amR jY,ex];simp [k1,yd]
      have a2:(es.toList.map (·.key))[j]?=some (.string s):=by rw[amU,h2];simp [h3]
      have hii:i<(es.toList.map (·.key)).length:=by simpa using jY
      exact ck ((List.getElem?_inj hii jv).1 (a1.trans a2.symm)).symm
   ·rw[JS];rw[yu]at bP;split at bP
    ·next e=>subst e;exact⟨_,List.mem_iff_getElem?.2 ⟨j,anh zF⟩,rfl⟩
    ·next ck=>
     obtain⟨x,hx,hk⟩:=hm.all s' d' bP;obtain⟨i,dx,ex⟩:=List.getElem_of_mem hx;refine⟨x,List.mem_iff_getElem.2 ⟨i,by simpa using dx,?_⟩,hk⟩;rw[List.getElem_set];split
     ·next e=>
      subst e;exfalso;have:es.toList[j]?=some x:=by rw[amR dx,ex]
      rw[this]at h2;cases h2
      rw[h3]at hk;injection hk with hk;exact ck hk
     ·exact ex
   ·rw[Array.getElem?_modify]at he;split at he
    ·next ei=>
     subst ei;rw[hj]at he;cases he
     exact hm.born _ e0 hj
    ·exact hm.born i e he
  obtain⟨f1,f2⟩:=fin _ _ _ rfl iL;refine⟨_,?_,f1,f2⟩;simp [Instr.mapUpdate,run_underlying (B9 hT),MapKept.run_getObj_map hh,MapKept.run_checkKey p7 rC,MapKept.run_findKey p7 h1,hj,h3,MapKept.run_keyThatStays rC,MapKept.run_setObj_map _ hh,Result.andThen,ChangeMaps.setBlock]
end
set_option linter.unusedVariables false
set_option linter.unusedSimpArgs false
section
variable {P:anG} {G:Gh} {w:anI} {h:anD ao}
theorem Hl{w':anI}(hi:bC G w h){n:Nat}{B B':ao}(hn:h[n]?=some B)(uD:∀G':Gh,B.dw G' n=G'.ow n)(Mk:∀G':Gh,B'.dw G' n=G'.ow n)(S:Nat->Nat->Prop)(v:anH)(len:Nat)(ow:anF Nat)
 (hE:bx G.N G w (G.grow n S v len ow) w') (hg:∀g,ow=some g->(g=w.heap.size\/G.ow n=some g)/\g<w'.heap.size)
 (hS:∀b o,S b o->G.S b o\/ow=some b) (im:∀b,b<w.heap.size->ow≠some b->w'.heap[b]?=w.heap[b]?)
 (hB:dB (G.grow n S v len ow) w' n B'):bC (G.grow n S v len ow) w' (h.set n B'):=by
 have dW:∀m,m≠n->(h.set n B')[m]?=h[m]?:=λm hm=>by rw[anm (Ne.symm hm)]
 have lP:(h.set n B')[n]?=some B':=by rw[anh (amN.1 hn).1]
 have kN:∀m(C:ao),m≠n->C.dw (G.grow n S v len ow) m=C.dw G m:=λm C hm=>by
  cases C<;>simp [ao.dw,Gh.grow,hm]
 have dP:∀m,m≠n->bz (h.set n B') (G.grow n S v len ow) m=bz h G m:=λm hm=>by
  unfold bz;rw[dW m hm];cases h[m]? with
  |none=>rfl
  |some C=>exact kN m C hm
 have Fw:bz (h.set n B') (G.grow n S v len ow) n=ow:=by rw[di lP,Mk];simp [Gh.grow]
 have xI:∀m b,m≠n->ow=some b->bz h G m≠some b:=λm b hm ho hb=>by
  rcases (hg b ho).1 with hg|hg
  ·have:=hi.gr hb;omega
  ·exact hm (hi.inj m n b hb ((di hn).trans ((uD G).trans hg)))
 refine⟨by rw[List.length_set];exact hi.len,λb hb=>anb (hi.z b hb) hE.size,λb o hs=> ?_,λm C hm=> ?_,λm m' b h1 h2=> ?_,hi.gl.keep hE⟩
 ·rcases hS b o hs with hs|hs
  ·exact anb (hi.S b o hs) hE.size
  ·exact(hg b hs).2
 ·by_cases em:m=n
  ·subst em;rw[lP]at hm;cases hm;exact hB
  ·rw[dW m em]at hm;refine dB.keep (hi.lt hm) hE (amY _) ⟨by simp [Gh.grow,em],by simp [Gh.grow,em],by simp [Gh.grow,em]⟩ (λb hb=> ?_) (hi.cT m C hm);have hr:bz h G m=some b:=(di hm).trans hb;have ck:ow≠some b:=λe'=>xI m b em e' hr;refine⟨im _ (hi.gr hr) ck,λo ji hs=> ?_⟩;rcases hS _ o hs with hs|hs
   ·exact ji hs
   ·exact ck hs
 ·by_cases e1:m=n<;>by_cases e2:m'=n
  ·rw[e1,e2]
  ·subst e1;rw[dP m' e2]at h2;rw[Fw]at h1;exact absurd h2 (xI m' b e2 h1)
  ·subst e2;rw[dP m e1]at h1;rw[Fw]at h2;exact absurd h1 (xI m b e1 h2)
  ·rw[dP m e1]at h1;rw[dP m' e2]at h2;exact hi.inj m m' b h1 h2
def Gh.ej(G:Gh)(v:anH)(len:Nat)(ow:anF Nat):Gh:=
 {G with N:=G.N+1,sg:=λn=>if n=G.N then v else G.sg n,fl:=λn=>if n=G.N then len else G.fl n,ow:=λn=>if n=G.N then ow else G.ow n}
theorem KZ{w':anI}(hi:bC G w h)(B:ao)(uD:∀(G':Gh) n,B.dw G' n=G'.ow n)(v:anH)(len:Nat)(ow:anF Nat)(hw:(∀b,b<w.heap.size->w'.heap[b]?=w.heap[b]?)/\w.heap.size<=w'.heap.size/\w'.os=w.os/\w'.tape=w.tape/\w'.output=w.output)
 (how:∀g,ow=some g->w.heap.size<=g)
 (hB:dB (G.ej v len ow) w' G.N B):bx G.N G w (G.ej v len ow) w'/\bC (G.ej v len ow) w' (h++[B]):=by
 have ck:∀n,n<G.N->n≠G.N:=λn hn=>Nat.ne_of_lt hn;have hE:bx G.N G w (G.ej v len ow) w':=⟨hw.2.1,λ_ _ h=>h,λb o hs=>World.cell?_of_block (hw.1 b (hi.S b o hs)),λ_ _=>rfl,λn hn=> .inl ⟨by simp [Gh.ej,ck n hn],by simp [Gh.ej,ck n hn]⟩,gV rfl,λb hb=>hw.1 b (hi.z b hb),hw.2.2.1,hw.2.2.2.1,hw.2.2.2.2,λ_ _ h=> .inl h⟩;have hN:G.N<=(G.ej v len ow).N:=Nat.le_succ _;have kN:∀n(C:ao),n<G.N->C.dw (G.ej v len ow) n=C.dw G n:=λn C hn=>by
  cases C<;>simp [ao.dw,Gh.ej,Nat.ne_of_lt hn]
 have key:∀n b,bz (h++[B]) (G.ej v len ow) n=some b->(n<G.N/\bz h G n=some b)\/(n=G.N/\ow=some b):=λn b hb=>by
  by_cases hn:n<h.length
  ·unfold bz at hb;rw[amX hn,amR hn]at hb;exact .inl ⟨hi.len▸hn,by unfold bz;rw[amR hn,<-hb];exact(kN n _ (hi.len▸hn)).symm⟩
  ·by_cases en:n=h.length
   ·subst en;rw[di (B:=B) (by simp),uD]at hb;exact .inr ⟨hi.len,by simpa [Gh.ej,hi.len]using hb⟩
   ·rw[ue (ank (by simp;omega))]at hb;cases hb
 refine⟨hE,by simp [Gh.ej,hi.len],λb hb=>anb (hi.z b hb) hw.2.1,λb o hs=>anb (hi.S b o hs) hw.2.1,λn C hC=> ?_,λm n b h1 h2=> ?_,hi.gl.keep hE⟩
 ·by_cases hn:n<h.length
  ·rw[amX hn]at hC;have dL:n<G.N:=hi.len▸hn;exact dB.keep dL hE hN ⟨by simp [Gh.ej,ck n dL],by simp [Gh.ej,ck n dL],by simp [Gh.ej,ck n dL]⟩ (λb hb=>⟨hw.1 b (hi.gr ((di hC).trans hb)),λo h=>h⟩) (hi.cT n C hC)
  ·have kD:n=h.length:=by
    have:=(amN.1 hC).1;simp at this;omega
   subst kD;simp at hC;subst hC;rw[hi.len];exact hB
 ·rcases key m b h1 with⟨_,a1⟩|⟨rfl,a1⟩<;>rcases key n b h2 with⟨_,b1⟩|⟨rfl,b1⟩
  ·exact hi.inj m n b a1 b1
  ·have:=hi.gr a1;have:=how b b1;omega
  ·have:=hi.gr b1;have:=how b a1;omega
  ·rfl
theorem aE.y4{n o len L k:Nat}{e:TypeId}{cs:anD (anD AV)}{u:anH}(hi:bC G w h)(hn:h[n]?=some (.vec e k cs))(hL:cs.length=L)(hv:aE G w u (.vec n o len L k)):Um (G.sg n) u o len L k:=by
 have hb:=(hi.cT n _ hn).1;cases hv with|vec _ _ _ _ _ h1 h2 h3 h4=>exact h4 (by rw[<-hL,hb])
theorem aE.XB{n i j L k:Nat}{e:TypeId}{k':Nat}{cs:anD (anD AV)}{u:anH}(hi:bC G w h)(hn:h[n]?=some (.vec e k' cs))(hL:cs.length=L)(hv:aE G w u (.db n i j L k)):VF (G.sg n) u i j L k:=by
 have hb:=(hi.cT n _ hn).1;cases hv with|db _ _ _ _ _ h1 h2 h3 h4=>exact h4 (by rw[<-hL,hb])
theorem HM{n:Nat}{e k:Nat}{cs:anD (anD AV)}(hi:bC G w h)(hn:h[n]?=some (.vec e k cs))(ck:cs≠ []):∃(g cap:Nat)(cur:Array anH),G.ow n=some g/\G.sg n= .slice (some ⟨g,0,none⟩) cs.length cap/\¬G.Z g/\w.heap[g]?=some (.cells cur e (0,0))/\cs.length<=cap/\cap<=maxLen/\cur.size=cap*k/\(∀o,¬G.S g o)/\
        ∀(i j:Nat)(c:anD AV)(x:AV)(u:anH),cs[i]?=some c->c[j]?=some x->cur[i*k+j]?=some u->aE G w u x:=by
 obtain⟨_,_,_,h4|h4⟩:=hi.cT n _ hn
 ·exact absurd h4.2.1 ck
 ·exact h4
theorem B6{n:Nat}{e k:Nat}{cs:anD (anD AV)}(hi:bC G w h)(hn:h[n]?=some (.vec e k cs)):∀c∈cs,c.length=k:=(hi.cT n _ hn).2.2.1
theorem m3{i k L j:Nat}(hi:i<L)(hj:j<k):i*k+j<L*k:=by
 have:(i+1)*k<=L*k:=Nat.mul_le_mul_right k hi;rw[Nat.add_mul]at this;omega
theorem Hm{i k j:Nat}(hj:j<k):(i*k+j)/ k=i/\(i*k+j)%k=j:=by
 have hk:0<k:=by omega
 exact⟨by rw[Nat.add_comm,Nat.add_mul_div_right _ _ hk,Nat.div_eq_of_lt hj,am7],by rw[Nat.add_comm,Nat.add_mul_mod_self_right,Nat.mod_eq_of_lt hj]⟩
theorem ahc{i i' j j' k:Nat}(hj:j<k)(iy:j'<k)(e:i*k+j=i'*k+j'):i=i'/\j=j':=by
 have h1:=Hm (i:=i) hj;have h2:=Hm (i:=i') iy;exact⟨by rw[<-h1.1,<-h2.1,e],by rw[<-h1.2,<-h2.2,e]⟩
theorem ahi{t n i j L k:Nat}{e:TypeId}{cs:anD (anD AV)}{c:anD AV}{x:AV}{v:anH}(hi:bC G w h)(hn:h[n]?=some (.vec e k cs))(hL:cs.length=L)(hc:cs[i]?=some c)(hx:Mi P t c j=some x)(hv:aE G w v (.db n i j L k)):
 ∃u,(Instr.loadAt t v).run P w= .ok u w/\aE G w u x:=by
 have jE:i<cs.length:=(amN.1 hc).1;have TP:c.length=k:=B6 hi hn c (am0 hc);obtain⟨g,cap,cur,r1,r2,r3,r4,r5,r6,r7,r8,r9⟩:=HM hi hn (λe=>by subst e;simp at jE);obtain⟨_,g',KW,p1,p2⟩:=hv.XB hi hn hL;rw[r2]at p1;cases p1
 have h1:∀q,q<c.length->w.cell? ⟨g,i*k+q,none⟩=some (cur.getD (i*k+q) undef):=λq hq=>by
  rw[cell_of_row w g _ cur e (0,0) r4];have:i*k+q<cur.size:=by
    rw[r7];exact anb (m3 jE (by omega)) (Nat.mul_le_mul_right k r5)
  simp [Array.getD,this]
 have h2:∀(q:Nat)(y:AV),c[q]?=some y->aE G w (cur.getD (i*k+q) undef) y:=λq y hq=>by
  have Oj:=(amN.1 hq).1;have aJ:i*k+q<cur.size:=by
   rw[r7];exact anb (m3 jE (by omega)) (Nat.mul_le_mul_right k r5)
  have e1:cur[i*k+q]?=some (cur.getD (i*k+q) undef):=by simp [Array.getD,aJ]
  exact r9 i q c y _ hc hq e1
 have key:=Vk (P:=P) (G:=G) (w:=w) (t:=t) (C:=(·=x)) g (i*k) c j (λq=>cur.getD (i*k+q) undef) h1 h2 (by
  unfold Mi at hx;revert hx;cases lV P t with
  |none=>intro hx;cases hx
  |some ag=>
   cases fz P t with
   |none=>cases ag<;>(intro hx;cases hx)
   |some kk=>
    cases ag with
    |true=>
     simp only;intro hx;cases hb:bS (j+kk) c.length with
     |false=>rw[hb]at hx;cases hx
     |true=>rw[hb]at hx;cases hx;exact rfl
    |false=>
     simp only;intro hx;rw[hx])
 obtain⟨u,y,k1,k2,rfl⟩:=key;refine⟨u,?_,k2⟩;rw[p2];simp [Instr.loadAt,Instr.sureAddr,k1]
theorem agr{t b off k:Nat}{T:TypeId}{v:anH}{vs:Array anH}(hh:w.heap[b]?=some (.cells vs T (0,0)))(ht:fz P t=some k)(hk:v.cells.size=k)(iO:∀u∈v.cells.toList,u.oneCell'=true)(hb:off+k<=vs.size):
 (storeVar t ⟨b,off,none⟩ v).run P w= .ok () (w.setRow b (vs.toList.take off++v.cells.toList++vs.toList.drop (off+v.cells.toList.length)).toArray):=by
 obtain⟨i,jx,jY⟩:=Xa ht;have jn:=run_storeCells_at P b off T v.cells.toList 0 vs w hh (by rw[anl,hk];simpa using hb) iO;simp only[Nat.add_zero]at jn;unfold storeVar;simp only[sizeOf,typeInfo,Sem.run_bind,hk];simp [jx,jY,jn]
theorem U4(vs:Array anH)(us:anD anH)(off q:Nat)(hb:off+us.length<=vs.size):(vs.toList.take off++us++vs.toList.drop (off+us.length)).toArray[q]?=if off<=q/\q<off+us.length then us[q-off]? else vs[q]?:=by
 rw[List.getElem?_toArray,am4];have wa:vs.toList.length=vs.size:=anl;by_cases h1:q<off
 ·rw[amX (by simp;omega),List.getElem?_take_of_lt h1,if_neg (by omega),ana]
 ·rw[am3 (by simp;omega)];simp only[List.length_take,wa];rw[Nat.min_eq_left (by omega)];by_cases h2:q<off+us.length
  ·rw[amX (by omega),if_pos (by omega)]
  ·rw[am3 (by omega),List.getElem?_drop,if_neg (by omega),show off+us.length+(q-off-us.length)=q by omega,ana]
theorem TX(vs:Array anH)(us:anD anH)(off:Nat)(hb:off+us.length<=vs.size):(vs.toList.take off++us++vs.toList.drop (off+us.length)).toArray.size=vs.size:=by
 simp only[List.size_toArray,amO,List.length_take,List.length_drop,anl];omega
theorem ahD(cs ys:anD AV)(off q:Nat)(hb:off+ys.length<=cs.length):(gM cs off ys)[q]?=if off<=q/\q<off+ys.length then ys[q-off]? else cs[q]?:=by
 unfold gM;rw[am4];by_cases h1:q<off
 ·rw[amX (by simp;omega),List.getElem?_take_of_lt h1,if_neg (by omega)]
 ·rw[am3 (by simp;omega)];simp only[List.length_take];rw[Nat.min_eq_left (by omega)];by_cases h2:q<off+ys.length
  ·rw[amX (by omega),if_pos (by omega)]
  ·rw[am3 (by omega),List.getElem?_drop,if_neg (by omega),show off+ys.length+(q-off-ys.length)=q by omega]
theorem RJ{n e k g cap:Nat}{cs bV:anD (anD AV)}{cur:Array anH}{us:anD anH}{off:Nat}(hi:bC G w h)(hn:h[n]?=some (.vec e k cs))(gi:0<k)(r1:G.ow n=some g)(r2:G.sg n= .slice (some ⟨g,0,none⟩) cs.length cap)(r3:¬G.Z g)(r4:w.heap[g]?=some (.cells cur e (0,0)))(r5:cs.length<=cap)(r6:cap<=maxLen)(r7:cur.size=cap*k)(r8:∀o,¬G.S g o)
 (hb:off+us.length<=cur.size) (hl:bV.length=cs.length) (iR:∀c∈bV,c.length=k)
 (zV:∀(i j:Nat)(c:anD AV)(x:AV)(u:anH),bV[i]?=some c->c[j]?=some x->(if off<=i*k+j/\i*k+j<off+us.length then us[i*k+j-off]? else cur[i*k+j]?)=some u->aE G w u x):
 ∃G',bx G.N G w G' (w.setRow g (cur.toList.take off++us++cur.toList.drop (off+us.length)).toArray)/\G'.N=G.N/\bC G' (w.setRow g (cur.toList.take off++us++cur.toList.drop (off+us.length)).toArray) (h.set n (.vec e k bV))/\(∀m,G'.sg m=G.sg m)/\(∀m,G'.fl m=G.fl m):=by
 obtain⟨w',dS⟩:∃w',w'=w.setRow g (cur.toList.take off++us++cur.toList.drop (off+us.length)).toArray:=⟨_,rfl⟩;rw[<-dS];have im:∀b,b≠g->w'.heap[b]?=w.heap[b]?:=λb hb=>by rw[dS];exact setRow_other w g b _ hb
 have oD:w'.heap[g]?=some (.cells (cur.toList.take off++us++cur.toList.drop (off+us.length)).toArray e (0,0)):=by rw[dS];exact setRow_heap w g cur _ e _ r4
 have iq:w'.heap.size=w.heap.size:=by rw[dS];exact Kx w g _
 obtain⟨G',rN⟩:∃G',G'=G.grow n G.S (G.sg n) (G.fl n) (some g):=⟨_,rfl⟩;have Mq:∀m,G'.sg m=G.sg m:=λm=>by rw[rN];simp only[Gh.grow];split<;>simp_all
 have l9:∀m,G'.fl m=G.fl m:=λm=>by rw[rN];simp only[Gh.grow];split<;>simp_all
 have hE:bx G.N G w G' w':=⟨by rw[iq];exact amY _,λb o h=>by rw[rN];exact h,λb o hs=>World.cell?_of_block (im b (λe=>r8 o (e▸hs))),λ_ _=>by rw[rN];rfl,λm _=> .inl ⟨l9 m,Mq m⟩,gV (by rw[rN];rfl) (by rw[rN];rfl),λb hb=>im b (λe=>r3 (e▸hb)),by rw[dS];rfl,by rw[dS];rfl,by rw[dS];rfl,λb o hs=> .inl (by rw[rN]at hs;exact hs)⟩;have pP:=hi.cT n _ hn;refine⟨G',hE,by rw[rN];rfl,?_,Mq,l9⟩;subst rN;refine Hl hi hn (λ_=>rfl) (λ_=>rfl) _ _ _ _ hE (λg' sW=> ?_) (λb o hs=> .inl hs) (λb _ eI=>im b (λe=>eI (by rw[e]))) ?_
 ·cases sW;exact⟨.inr r1,by rw[iq];exact(am2.1 r4).1⟩
 ·refine⟨by rw[l9,hl];exact pP.1,by rw[hl];exact pP.2.1,iR, .inr ⟨g,cap,_,by simp [Gh.grow],by rw[Mq,hl];exact r2,r3,oD,by rw[hl];exact r5,r6,by rw[TX _ _ _ hb];exact r7,r8,λi j c x u hc hx hu=> ?_⟩⟩;rw[U4 _ _ _ _ hb]at hu;exact(zV i j c x u hc hx hu).keep hE (amY _)
theorem akD{t n i j L k:Nat}{e:TypeId}{cs:anD (anD AV)}{c:anD AV}{x:AV}{v u:anH}(hi:bC G w h)(hn:h[n]?=some (.vec e k cs))(hL:cs.length=L)(hc:cs[i]?=some c)(hv:aE G w v (.db n i j L k))(hx:aE G w u x)(KQ:x.iX=true)(ht:fz P t=some x.cells.length)(hj:j+x.cells.length<=k)(gi:0<k):
 ∃w' G',(Instr.storeAt t v u).run P w= .ok () w'/\bx G.N G w G' w'/\G.N<=G'.N/\bC G' w' (h.set n (.vec e k (cs.set i (gM c j x.cells)))):=by
 have jE:i<cs.length:=(amN.1 hc).1;have iR:=B6 hi hn;have TP:c.length=k:=iR c (am0 hc);obtain⟨g,cap,cur,r1,r2,r3,r4,r5,r6,r7,r8,r9⟩:=HM hi hn (λe=>by subst e;simp at jE);obtain⟨_,g',KW,p1,p2⟩:=hv.XB hi hn hL;rw[r2]at p1;cases p1
 obtain⟨c1,c2⟩:=hx.cells KQ;have oh:u.cells.toList.length=x.cells.length:=by rw[anl,c1]
 have iO:∀y∈u.cells.toList,y.oneCell'=true:=λy hy=>by
  obtain⟨q,hq⟩:=List.mem_iff_getElem?.1 hy;have Oj:u.cells[q]?=some y:=by rw[<-ana];exact hq
  have hql:q<x.cells.length:=by rw[<-c1];exact(am2.1 Oj).1
  exact(c2 q y _ Oj (amR hql)).2
 have p6:i*k+j+x.cells.length<=cur.size:=by
  have h1:(i+1)*k<=cap*k:=Nat.mul_le_mul_right k (anb jE r5);rw[Nat.add_mul]at h1;rw[r7];omega
 have de:=agr (P:=P) (off:=i*k+j) r4 ht c1 iO p6;obtain⟨G',e1,e2,e3,_⟩:=RJ (us:=u.cells.toList) (off:=i*k+j) (bV:=cs.set i (gM c j x.cells)) hi hn gi r1 r2 r3 r4 r5 r6 r7 r8 (by rw[oh];exact p6) (by rw[List.length_set]) (λd hd=>by
     obtain⟨q,hq⟩:=List.mem_iff_getElem?.1 hd;by_cases e:i=q
     ·subst e;rw[anh jE]at hq;cases hq
      rw[EX _ _ _ (by omega)];exact TP
     ·rw[anm e]at hq;exact iR d (am0 hq)) (λa b d y z hd hy hz=>by
     have iM:b<k:=by
      by_cases e:i=a
      ·subst e;rw[anh jE]at hd;cases hd
       have:=(amN.1 hy).1;rw[EX _ _ _ (by omega)]at this;omega
      ·rw[anm e]at hd;rw[<-iR d (am0 hd)];exact(amN.1 hy).1
     rw[oh]at hz;by_cases e:i=a
     ·subst e;rw[anh jE]at hd;cases hd
      rw[ahD _ _ _ _ (by omega)]at hy;by_cases hb:j<=b/\b<j+x.cells.length
      ·rw[if_pos hb]at hy;rw[if_pos (by omega),show i*k+b-(i*k+j)=b-j by omega,ana]at hz;exact(c2 _ _ _ hz hy).1
      ·rw[if_neg hb]at hy;rw[if_neg (by omega)]at hz;exact r9 i b c y z hc hy hz
     ·rw[anm e]at hd;rw[if_neg ?_]at hz
      ·exact r9 a b d y z hd hy hz
      ·intro hh;have:a*k+b=i*k+(a*k+b-i*k):=by omega
       exact e ((ahc (i:=a) (i':=i) (j:=b) (j':=a*k+b-i*k) iM (by omega) this).1.symm))
 refine⟨_,G',?_,e1,by rw[e2];exact amY _,e3⟩;rw[p2];simp [Instr.storeAt,Instr.sureAddr,de]
end
section
variable {P:anG} {G:Gh} {w:anI} {h:anD ao}
structure zp(G:Gh)(w:World)(k:Nat)(ys:List (List AV))(us:List Value):Prop where
 len:us.length=ys.length*k
 wid:∀c∈ys,c.length=k
 one:∀u∈us,u.oneCell'=true
 rel:∀(i j:Nat)(c:List AV)(x:AV)(u:Value),ys[i]?=some c->c[j]?=some x->us[i*k+j]?=some u->aE G w u x
theorem KJ{k tx e':Nat}{y:AV}{v:anH}{ys:anD (anD AV)}(hi:bC G w h)(hv:aE G w v y)(hs:yR h k y ys)(gi:0<k)(hT:P.underlying tx=some (.slice e')):
 ∃us,zp G w k ys us/\Src P k tx v ys.length us w:=by
 rcases hs with⟨xs,h1,h2,rfl⟩|⟨n,o,len,L,e,cs,rfl,h2,h3,h4,h5⟩
 ·obtain⟨us,hr,xb⟩:=(hv.list h1).src gi h2 hT;have hl:(bG xs).length=xs.length:=by unfold bG;rw[amS]
  refine⟨us,⟨by rw[hl];exact hr.len,λc hc=> ?_,hr.one,λi j c x u hc hx hu=> ?_⟩,by rw[hl];exact xb⟩
  ·unfold bG at hc;obtain⟨d,hd,rfl⟩:=List.mem_map.1 hc;rw[amS];exact h2 d hd
  ·unfold bG at hc;rw[amU]at hc;cases ou:xs[i]? with
   |none=>rw[ou]at hc;cases hc
   |some d=>
    rw[ou]at hc;cases hc
    rw[amU]at hx;cases hy:d[j]? with
    |none=>rw[hy]at hx;cases hx
    |some z=>
     rw[hy]at hx;cases hx
     obtain⟨u',a1,a2⟩:=hr.rel i j d z ou hy;rw[a1]at hu;cases hu
     exact .d a2
 ·have lh:=hv.y4 hi h2 h3;obtain⟨A,c,rfl,c1,c2,c3,c4⟩:=lh.sl;have wZ:ys.length=len:=by rw[h4,List.length_take,List.length_drop,h3];have:=lh.ol;omega
  by_cases h0:len=0
  ·subst h0;have:ys=[]:=List.eq_nil_of_length_eq_zero wZ;subst this;refine⟨[],⟨by simp,(λ_ h=>by cases h),(λ_ h=>by cases h),λi j c x u hc=>by simp at hc⟩,?_⟩;cases A with
   |none=>exact Src.ofNil w hT c
   |some a=>exact Src.ofSlice w hT a 0 c [] (by simp) (λj u hu=>by simp at hu) (λu hu=>by cases hu)
  ·have ho:o<L:=by have:=lh.ol;omega
   obtain⟨g,cap,p1,rfl,p3⟩:=c4 ho;have ck:cs≠ []:=λe=>by subst e;simp at h3;omega
   obtain⟨g',KW,cur,r1,r2,r3,r4,r5,r6,r7,r8,r9⟩:=HM hi h2 ck;rw[r2]at p1;cases p1
   have iR:=B6 hi h2;have ie:∀q,q<len*k->o*k+q<cur.size:=λq hq=>by
    have h1:(o+len)*k<=cap*k:=Nat.mul_le_mul_right k (by have:=lh.ol;omega);rw[Nat.add_mul]at h1;rw[r7];omega
   have kX:∀i,i<len->ys[i]?=cs[o+i]?:=λi dx=>by rw[h4,List.getElem?_take_of_lt dx,List.getElem?_drop]
   have iO:∀q,q<len*k->(cur.getD (o*k+q) undef).oneCell'=true:=λq hq=>by
    have Oh:q / k<len:=Nat.div_lt_of_lt_mul (by rw[Nat.mul_comm];exact hq);have ZE:q%k<k:=Nat.mod_lt _ gi;obtain⟨d,fZ⟩:∃d,cs[o+q / k]?=some d:=⟨_,amR (by have:=lh.ol;omega)⟩;have CZ:=iR _ (am0 fZ);obtain⟨x,hx⟩:∃x,d[q%k]?=some x:=⟨_,amR (by rw[CZ];exact ZE)⟩;have e1:(o+q / k)*k+q%k=o*k+q:=by
     rw[Nat.add_mul];have:=Nat.div_add_mod q k;rw[Nat.mul_comm]at this;omega
    have hu':cur[(o+q / k)*k+q%k]?=some (cur.getD (o*k+q) undef):=by
     rw[e1];simp [Array.getD,ie q hq]
    refine(r9 _ _ _ _ _ fZ hx hu').jV ?_;have mN:d∈ys:=am0 ((kX _ Oh).trans fZ);have:=h5 _ mN;rw[ane]at this;exact this _ (am0 hx)
   refine⟨(List.range (len*k)).map λq=>cur.getD (o*k+q) undef,⟨by rw[wZ];simp,λc hc=>iR c ?_,λu hu=> ?_,λi j c x u hc hx hu=> ?_⟩,?_⟩
   ·rw[h4]at hc;exact List.mem_of_mem_drop (List.mem_of_mem_take hc)
   ·obtain⟨q,hq,rfl⟩:=List.mem_map.1 hu;exact iO q (List.mem_range.1 hq)
   ·have jE:i<len:=by rw[<-wZ];exact(amN.1 hc).1
    rw[kX i jE]at hc;have J4:j<k:=by rw[<-iR c (am0 hc)];exact(amN.1 hx).1
    have aJ:i*k+j<len*k:=m3 jE J4;rw[amU,List.getElem?_range aJ]at hu;simp only[Option.map_some,Option.some.injEq]at hu;refine r9 (o+i) j c x u hc hx ?_;rw[<-hu,show(o+i)*k+j=o*k+(i*k+j) by rw[Nat.add_mul];omega];simp [Array.getD,ie _ aJ]
   ·rw[wZ];refine Src.ofSlice w hT _ len c _ (by simp) (λj u hu=> ?_) (λu hu=> ?_)
    ·rw[lB,cell_of_row w g _ cur e (0,0) r4];rw[amU]at hu;by_cases hj:j<len*k
     ·rw[List.getElem?_range hj]at hu;simp only[Option.map_some,Option.some.injEq]at hu;rw[<-hu];simp [Array.getD,ie _ hj]
     ·rw[ank (by simp;omega)]at hu;cases hu
    ·obtain⟨q,hq,rfl⟩:=List.mem_map.1 hu;exact iO q (List.mem_range.1 hq)
theorem zp.keep{G':Gh}{w':anI}{k:Nat}{ys:anD (anD AV)}{us:anD anH}(h:zp G w k ys us)(hE:bx G.N G w G' w')(hN:G.N<=G'.N):zp G' w' k ys us:=
 ⟨h.len,h.wid,h.one,λi j c x u h1 h2 h3=>(h.rel i j c x u h1 h2 h3).keep hE hN⟩
theorem aeX{α:Type}{k:Nat}(l:anD α)(us:anD α)(m i j:Nat)(hl:l.length=m*k)(hj:j<k):(l++us)[i*k+j]?=if i<m then l[i*k+j]? else us[(i-m)*k+j]?:=by
 by_cases h:i<m
 ·rw[if_pos h,amX (by rw[hl];exact m3 h hj)]
 ·have h1:m*k<=i*k:=Nat.mul_le_mul_right k (by omega);rw[if_neg h,am3 (by rw[hl];omega),hl,Nat.sub_mul,show i*k+j-m*k=i*k-m*k+j by omega]
theorem Nk{e k cap:Nat}{cs:anD (anD AV)}{cur:Array anH}(hi:bC G w h)(h1:cs.length<=cap)(h2:cap<=maxLen)(h3:cur.size=cap*k)(iR:∀c∈cs,c.length=k)(w0:anI)(qp:w0.heap=w.heap/\w0.os=w.os/\w0.tape=w.tape/\w0.output=w.output)
 (zV:∀(i j:Nat)(c:anD AV)(x:AV)(u:anH),cs[i]?=some c->c[j]?=some x->cur[i*k+j]?=some u->aE G w u x):
 ∃G',bx G.N G w G' (w0.alloc (.cells cur e))/\G.N<=G'.N/\bC G' (w0.alloc (.cells cur e)) (h++[.vec e k cs])/\∀len,len<=cs.length->aE G' (w0.alloc (.cells cur e)) (.slice (some ⟨w.heap.size,0,none⟩) len cap) (.vec h.length 0 len cs.length k):=by
 have iq:w0.heap.size=w.heap.size:=by rw[qp.1]
 have fk:(w0.alloc (.cells cur e)).heap[w.heap.size]?=some (.cells cur e (0,0)):=by rw[<-iq];exact World.alloc_heap_new w0 _
 have hold:∀b,b<w.heap.size->(w0.alloc (.cells cur e)).heap[b]?=w.heap[b]?:=λb hb=>by rw[Below.heap_alloc w0 _ b (by rw[iq];exact hb),qp.1]
 have hw:(∀b,b<w.heap.size->(w0.alloc (.cells cur e)).heap[b]?=w.heap[b]?)/\w.heap.size<=(w0.alloc (.cells cur e)).heap.size/\(w0.alloc (.cells cur e)).os=w.os/\(w0.alloc (.cells cur e)).tape=w.tape/\(w0.alloc (.cells cur e)).output=w.output:=
  ⟨hold,by simp [iq],qp.2.1,qp.2.2.1,qp.2.2.2⟩
 obtain⟨sv,mf⟩:∃sv,sv=Value.slice (some ⟨w.heap.size,0,none⟩) cs.length cap:=⟨_,rfl⟩;obtain⟨DG,_⟩:bx G.N G w (G.ej sv cs.length (some w.heap.size)) (w0.alloc (.cells cur e))/\True:=by
  refine⟨⟨hw.2.1,λ_ _ h=>h,λb o hs=>World.cell?_of_block (hw.1 b (hi.S b o hs)),λ_ _=>rfl,λn hn=> .inl ⟨by simp [Gh.ej,Nat.ne_of_lt hn],by simp [Gh.ej,Nat.ne_of_lt hn]⟩,gV rfl,λb hb=>hw.1 b (hi.z b hb),hw.2.2.1,hw.2.2.2.1,hw.2.2.2.2,λ_ _ h=> .inl h⟩,trivial⟩
 obtain⟨hE,hI⟩:=KZ (w':=w0.alloc (.cells cur e)) hi (.vec e k cs) (λ_ _=>rfl) sv cs.length (some w.heap.size) hw (λg hg=>by cases hg;exact amY _) (by
  refine⟨by simp [Gh.ej],am5 h1 h2,iR, .inr ⟨w.heap.size,cap,cur,by simp [Gh.ej],by simp [Gh.ej,mf],λhz=>ans _ (hi.z _ hz),fk,h1,h2,h3,λo hs=>ans _ (hi.S _ _ hs),λi j c x u hc hx hu=>(zV i j c x u hc hx hu).keep DG (Nat.le_succ _)⟩⟩)
 refine⟨_,hE,Nat.le_succ _,hI,λlen hlen=> ?_⟩;rw[hi.len];refine .vec G.N 0 len cs.length k (by simp [Gh.ej]) ⟨_,_,_,rfl⟩ (by simp [Gh.ej]) λ_=>⟨by omega,⟨_,_,rfl,am5 hlen h1,h2,h1,λ_=>⟨w.heap.size,cap,by simp [Gh.ej,mf],by simp,by simp⟩⟩,λ_ e=>by subst e;simp [Gh.ej,mf]⟩
theorem ajM{T e k len m cr:Nat}{i:TypeInfo}{z:anH}{kl kc:IntKind}{l c:Int}(hi:bC G w h)(hT:P.underlying T=some (.slice e))(kx:P.info? e=some i)(hz:i.zero=some z)(pe:i.size=k)(xy:i.bytes=cr)(jJ:z.cells.toList.length=k)(gi:0<k)
 (h0:0<=l) (kQ:l<=c) (hl:l.toNat=len) (hc:c.toNat=m) (hm:m<=maxLen) (hb:cr*m<=281474976710656):
 ∃u w' G',(Instr.makeSlice T (.int kl l) (.int kc c)).run P w= .ok u w'/\bx G.N G w G' w'/\G.N<=G'.N/\bC G' w' (h++[.vec e k (List.replicate m (z.cells.toList.map λu=> .d (.v u)))])/\aE G' w' u (.vec h.length 0 len m k):=by
 subst pe;subst xy;have eI:(i.bytes:Int)*c<=281474976710656:=by
  have:((i.bytes*m:Nat):Int)<=281474976710656:=by omega
  rw[Int.natCast_mul,<-hc,Int.toNat_of_nonneg (by omega)]at this;exact this
 have h63:c<=9223372036854775807:=by have h:=hm;simp [maxLen]at h;omega
 have de:=run_make (P:=P) w T e i z hT kx hz kl kc l c h0 kQ eI h63;rw[hl,hc]at de;have gd:(List.replicate m (z.cells.toList.map λu=>AV.d (.v u))).length=m:=ano;obtain⟨G',g1,g2,g3,g4⟩:=Nk (e:=e) (k:=i.size) (cap:=m) (cs:=List.replicate m (z.cells.toList.map λu=>AV.d (.v u))) (cur:=madeCells z.cells (m*i.size)) hi (by rw[gd];exact amY _) hm (size_madeCells _ _) (λc hc=>by
  rw[List.eq_of_mem_replicate hc,amS];exact jJ) w ⟨rfl,rfl,rfl,rfl⟩ (λa b c x u hc hx hu=>by
  have:=List.eq_of_mem_replicate (am0 hc);subst this;rw[amU]at hx;cases hq:z.cells.toList[b]? with
  |none=>rw[hq]at hx;cases hx
  |some y=>
   rw[hq]at hx;cases hx
   have iM:b<i.size:=by rw[<-jJ];exact(amN.1 hq).1
   have Oy:a<m:=by have:=(amN.1 hc).1;rwa [gd]at this
   unfold madeCells at hu;have aJ:a*i.size+b<m*i.size:=m3 Oy iM;rw[Array.getElem?_map,Array.getElem?_range,if_pos aJ]at hu;simp only[Option.map_some,Option.some.injEq]at hu;have jg:z.cells.size=i.size:=by rw[<-anl];exact jJ
   rw[jg,(Hm (i:=a) iM).2]at hu;have rb:z.cells[b]?=some y:=by rw[<-ana];exact hq
   rw[getElem!_pos z.cells b (by rw[jg];exact iM)]at hu;rw[am9 (by rw[jg];exact iM)]at rb;cases rb
   subst hu;exact .d (.v _))
 rw[gd]at g4;refine⟨_,_,G',de,g1,g2,g3,g4 len ?_⟩;rw[<-hl,<-hc];omega
theorem agz{T tx ty e k cr n o len L:Nat}{i:TypeInfo}{z:anH}{u v:anH}{cs ys:anD (anD AV)}{us:anD anH}(hi:bC G w h)(hT:P.underlying T=some (.slice e))(kx:P.info? e=some i)(hz:i.zero=some z)(pe:i.size=k)(xy:i.bytes=cr)(jJ:z.cells.size=k)(gi:0<k)
 (hn:h[n]?=some (.vec e k cs)) (hL:cs.length=L) (hu:aE G w u (.vec n o len L k)) (hr:zp G w k ys us) (hs:Src P k tx v ys.length us w)
 {L':Nat} {bV:anD (anD AV)} (qE:(o+len+ys.length<=L/\L'=L/\bV=cs.take (o+len)++ys++cs.drop (o+len+ys.length))\/(o=0/\len=L/\L'=L+ys.length/\bV=cs++ys/\L'<=maxLen/\L'*cr<=140737488355328)):
 ∃r w' G',(Builtin.append_ #[T,tx] ty #[u,v]).run P w= .ok r w'/\bx G.N G w G' w'/\G.N<=G'.N/\bC G' w' (h.set n (.vec e k bV))/\aE G' w' r (.vec n o (len+ys.length) L' k):=by
 subst pe;subst xy;have n6:=hi.lt hn;have iR:=B6 hi hn;have lh:=hu.y4 hi hn hL;have pP:=hi.cT n _ hn;have amI:=lh;obtain⟨Il,⟨A,c,rfl,c1,c2,c3,c4⟩,call⟩:=lh;by_cases hy:ys.length=0
 ·have kX:ys=[]:=List.eq_nil_of_length_eq_zero hy;subst kX;have lI:us=[]:=List.eq_nil_of_length_eq_zero (by rw[hr.len];simp);subst lI;have de:=run_append_nothing (P:=P) w T tx ty e i hT kx A len c c1 v hs;have e1:bV=cs:=by
   rcases qE with⟨_,_,e⟩|⟨_,_,_,e,_⟩
   ·rw[e];simp
   ·rw[e];simp
  have e2:L'=L:=by
   rcases qE with⟨_,e,_⟩|⟨_,_,e,_⟩
   ·exact e
   ·rw[e];simp
  subst e1;subst e2;refine⟨_,w,G,de,bx.refl _ _ _,amY _,?_,by simpa using hu⟩;have:h.set n (.vec e i.size bV)=h:=by
   refine List.ext_getElem? λm=> ?_;by_cases em:m=n
   ·subst em;rw[anh (amN.1 hn).1,hn]
   ·rw[anm (Ne.symm em)]
  rw[this];exact hi
 ·have hy0:0<ys.length:=Nat.pos_of_ne_zero hy;have room:len+ys.length<=c->∀g cap cur,G.ow n=some g->G.sg n= .slice (some ⟨g,0,none⟩) cs.length cap->¬G.Z g->w.heap[g]?=some (.cells cur e (0,0))->cs.length<=cap->cap<=maxLen->cur.size=cap*i.size->(∀o,¬G.S g o)->
      (∀(a b:Nat)(d:anD AV)(x:AV)(q:anH),cs[a]?=some d->d[b]?=some x->cur[a*i.size+b]?=some q->aE G w q x)->A=some ⟨g,o*i.size,none⟩->o+c=cap->
      ∃r w' G',(Builtin.append_ #[T,tx] ty #[.slice A len c,v]).run P w= .ok r w'/\bx G.N G w G' w'/\G.N<=G'.N/\bC G' w' (h.set n (.vec e i.size bV))/\aE G' w' r (.vec n o (len+ys.length) L' i.size):=by
   intro ri g cap cur r1 r2 r3 r4 r5 r6 r7 r8 r9 rA rc;have p6:(o+len)*i.size+us.length<=cur.size:=by
    rw[hr.len,r7,<-Nat.add_mul];exact Nat.mul_le_mul_right _ (by omega)
   have yr:∀j,j<us.length->(w.cell? ⟨g,o*i.size+len*i.size+j,none⟩).isSome=true:=λj hj=>by
    rw[cell_of_row w g _ cur e (0,0) r4,am9 (by rw[Nat.add_mul]at p6;omega)];rfl
   have de:=run_append_room_src (P:=P) w T tx ty e i hT kx g (o*i.size) len c v ys.length us hs ri yr (λj hj=>by unfold World.frozen?;rw[r4];simp);have jn:=run_storeCells_at P g (o*i.size+len*i.size) e us 0 cur w r4 (by rw[Nat.add_mul]at p6;simpa using p6) hr.one;have xP:=run_storeCells_cells (P:=P) g (o*i.size+len*i.size) us 0 w (by simpa using yr) (λj hj=>by unfold World.frozen?;rw[r4];simp) hr.one;simp only[Nat.add_zero]at jn xP;rw[jn]at xP;injection xP with _ e2;rw[<-e2,<-Nat.add_mul]at de;rw[rA];have fk:∀(a b:Nat)(d:anD AV)(x:AV)(q:anH),bV[a]?=some d->d[b]?=some x->(if(o+len)*i.size<=a*i.size+b/\a*i.size+b<(o+len)*i.size+us.length then us[a*i.size+b-(o+len)*i.size]? else cur[a*i.size+b]?)=some q->aE G w q x:=by
    intro a b d x q hd hx hq;have Mb:d.length=i.size:=by
     have hm:=am0 hd;rcases qE with⟨_,_,e⟩|⟨_,_,_,e,_⟩
     ·rw[e]at hm;rcases anq.1 hm with hm|hm
      ·rcases anq.1 hm with hm|hm
       ·exact iR d (List.mem_of_mem_take hm)
       ·exact hr.wid d hm
      ·exact iR d (List.mem_of_mem_drop hm)
     ·rw[e]at hm;rcases anq.1 hm with hm|hm
      ·exact iR d hm
      ·exact hr.wid d hm
    have iM:b<i.size:=by rw[<-Mb];exact(amN.1 hx).1
    have IU:(a<o+len/\cs[a]?=some d)\/(o+len<=a/\a<o+len+ys.length/\ys[a-(o+len)]?=some d)\/(o+len+ys.length<=a/\cs[a]?=some d):=by
     rcases qE with⟨hf,_,e⟩|⟨e0,e1,_,e,_⟩
     ·rw[e]at hd;have MV:(cs.take (o+len)).length=o+len:=by rw[List.length_take];omega
      by_cases h1:a<o+len
      ·rw[am4,amX (by rw[MV];exact h1),List.getElem?_take_of_lt h1]at hd;exact .inl ⟨h1,hd⟩
      ·rw[am4,am3 (by rw[MV];omega),MV]at hd;by_cases h2:a-(o+len)<ys.length
       ·rw[amX h2]at hd;exact .inr (.inl ⟨by omega,by omega,hd⟩)
       ·rw[am3 (by omega),List.getElem?_drop,show o+len+ys.length+(a-(o+len)-ys.length)=a by omega]at hd;exact .inr (.inr ⟨by omega,hd⟩)
     ·rw[e]at hd;by_cases h1:a<cs.length
      ·rw[amX h1]at hd;exact .inl ⟨by omega,hd⟩
      ·rw[am3 (by omega)]at hd;have:=(amN.1 hd).1;exact .inr (.inl ⟨by omega,by omega,by rw[show a-(o+len)=a-cs.length by omega];exact hd⟩)
    rcases IU with⟨h1,h2⟩|⟨h1,h2,h3⟩|⟨h1,h2⟩
    ·rw[if_neg (by have:=m3 h1 iM;omega)]at hq;exact r9 a b d x q h2 hx hq
    ·have hle:(o+len)*i.size<=a*i.size:=Nat.mul_le_mul_right _ h1;have aJ:a*i.size+b<(o+len+ys.length)*i.size:=m3 h2 iM;rw[Nat.add_mul (o+len)]at aJ;rw[if_pos ⟨by omega,by rw[hr.len];exact aJ⟩]at hq;refine hr.rel (a-(o+len)) b d x q h3 hx ?_;rw[Nat.sub_mul,show a*i.size-(o+len)*i.size+b=a*i.size+b-(o+len)*i.size by omega];exact hq
    ·have hle:(o+len+ys.length)*i.size<=a*i.size:=Nat.mul_le_mul_right _ h1;rw[Nat.add_mul (o+len)]at hle;rw[if_neg (by rw[hr.len];omega)]at hq;exact r9 a b d x q h2 hx hq
   have VW:∀d∈bV,d.length=i.size:=λd hm=>by
    rcases qE with⟨_,_,e⟩|⟨_,_,_,e,_⟩
    ·rw[e]at hm;rcases anq.1 hm with hm|hm
     ·rcases anq.1 hm with hm|hm
      ·exact iR d (List.mem_of_mem_take hm)
      ·exact hr.wid d hm
     ·exact iR d (List.mem_of_mem_drop hm)
    ·rw[e]at hm;rcases anq.1 hm with hm|hm
     ·exact iR d hm
     ·exact hr.wid d hm
   rcases qE with⟨hf,eL,ec⟩|⟨e0,e1,eL,ec,jN,mI⟩
   ·have gd:bV.length=cs.length:=by rw[ec];simp;omega
    obtain⟨G',k1,k2,k3,k4,k5⟩:=RJ (us:=us) (off:=(o+len)*i.size) (bV:=bV) hi hn gi r1 r2 r3 r4 r5 r6 r7 r8 p6 gd VW fk;refine⟨_,_,G',de,k1,by rw[k2];exact amY _,k3,?_⟩;refine .vec n o (len+ys.length) L' i.size (by rw[k2];exact n6) ⟨_,_,_,rfl⟩ (by rw[k5,eL,pP.1,hL];exact amY _) λ_=> ?_;rw[k4];refine⟨by omega,⟨_,_,rfl,ri,c2,by omega,λho=> ?_⟩,λho hl=> ?_⟩
    ·rw[eL]at ho ⊢;obtain⟨g2,Vh,q1,q2,q3⟩:=c4 ho;exact⟨g2,Vh,q1,by rw[<-q2,rA],q3⟩
    ·subst ho;rw[r2,hL,<-eL,<-hl];simp at rc;subst rc;simp
   ·subst e0;subst e1;simp only[am7,Nat.zero_mul]at*;subst rc;obtain⟨w',dS⟩:∃w',w'=w.setRow g (cur.toList.take (len*i.size)++us++cur.toList.drop (len*i.size+us.length)).toArray:=⟨_,rfl⟩;rw[<-dS]at de;have im:∀b,b≠g->w'.heap[b]?=w.heap[b]?:=λb hb=>by rw[dS];exact setRow_other w g b _ hb
    have oD:w'.heap[g]?=some (.cells (cur.toList.take (len*i.size)++us++cur.toList.drop (len*i.size+us.length)).toArray e (0,0)):=by rw[dS];exact setRow_heap w g cur _ e _ r4
    have iq:w'.heap.size=w.heap.size:=by rw[dS];exact Kx w g _
    obtain⟨sv,mf⟩:∃sv,sv=Value.slice (some ⟨g,0,none⟩) L' c:=⟨_,rfl⟩;have gd:bV.length=L':=by rw[ec,amO,hL,eL]
    have l9:G.fl n=len:=by rw[pP.1,hL]
    have hE:bx G.N G w (G.grow n G.S sv L' (some g)) w':=⟨by rw[iq];exact amY _,λ_ _ h=>h,λb q hs=>World.cell?_of_block (im b (λe=>r8 q (e▸hs))),λ_ _=>rfl,λm _=>by
        by_cases em:m=n
        ·right;subst em;simp only[Gh.grow,if_true,l9];omega
        ·left;exact⟨by simp [Gh.grow,em],by simp [Gh.grow,em]⟩,gV rfl,λb hb=>im b (λe=>r3 (e▸hb)),by rw[dS];rfl,by rw[dS];rfl,by rw[dS];rfl,λb q hs=> .inl hs⟩
    refine⟨_,w',_,de,hE,amY _,Hl hi hn (λ_=>rfl) (λ_=>rfl) _ _ _ _ hE (λg' sW=>by cases sW;exact⟨.inr r1,by rw[iq];exact(am2.1 r4).1⟩) (λb q hs=> .inl hs) (λb _ eI=>im b (λe=>eI (by rw[e]))) ?_,?_⟩
    ·refine⟨by simp [Gh.grow,gd],by rw[gd];exact jN,VW, .inr ⟨g,c,_,by simp [Gh.grow],by simp [Gh.grow,mf,gd],r3,oD,by rw[gd];omega,r6,by rw[TX _ _ _ p6];exact r7,r8,λa b d x q hd hx hq=> ?_⟩⟩;rw[U4 _ _ _ _ p6]at hq;exact(fk a b d x q hd hx hq).keep hE (amY _)
    ·refine .vec n 0 (len+ys.length) L' i.size n6 ⟨_,_,_,rfl⟩ (by simp [Gh.grow]) λ_=>⟨by omega,⟨_,_,rfl,ri,c2,by omega,λ_=>⟨g,c,by simp [Gh.grow,mf],by simp,by simp⟩⟩,λ_ e=> ?_⟩;simp [Gh.grow,mf,eL]
  rcases pP.2.2.2 with⟨b1,b2,A',b3⟩|⟨g,cap,cur,r1,r2,r3,r4,r5,r6,r7,r8,r9⟩
  ·
   subst b2;simp at hL;subst hL;have ho:o=0:=by omega
   have It:len=0:=by omega
   subst ho;subst It;have:=call rfl rfl;rw[b3]at this;injection this with q1 _ q2;subst q2;rcases qE with⟨hf,_,_⟩|⟨_,_,eL,ec,jN,mI⟩
   ·omega
   ·simp only[am7,List.nil_append]at eL ec;subst ec;rw[eL]at jN mI;have K1:bV.length<=9223372036854775807:=by simp only[maxLen]at jN;omega
    have hold:(Builtin.firstCells i.size 0 (.slice A 0 0)).run P w.drew= .ok ([]:anD anH).toArray w.drew:=by
     cases A with
     |none=>exact run_firstCells_none _ _ _ _ _
     |some a=>exact run_firstCells_some _ _ _ _ _ _ [] (by simp) (λj u hu=>by simp at hu)
    have de:=run_append_grow_src (P:=P) w T tx ty e i z hT kx hz A 0 0 [] hold v bV.length us hs (by omega) (by omega) (growslice_fits (by omega) (by simpa using mI));simp only[am7,List.nil_append]at de;obtain⟨cap,jR⟩:∃cap,cap=grownCap w bV.length 0 e:=⟨_,rfl⟩;have ko:bV.length<=cap:=by rw[jR];exact grownCap_ge _ _ _ _
    have hle:cap<=maxLen:=by rw[jR];exact grownCap_le_maxLen _ _ _ _ jN
    rw[<-jR]at de;obtain⟨cur,jL⟩:∃cur,cur=us.toArray++Builtin.zeroCells z.cells (cap-bV.length):=⟨_,rfl⟩;rw[<-jL]at de;have fZ:cur.size=cap*i.size:=by
      have:=size_zeroCells z.cells (cap-bV.length);rw[jL,Array.size_append,this,List.size_toArray,hr.len,jJ,<-Nat.add_mul]
      congr 1
      omega
    have fk:(w.drew.alloc (.cells cur e)).heap[w.heap.size]?=some (.cells cur e (0,0)):=World.alloc_heap_new w.drew _;have vT:∀b,b<w.heap.size->(w.drew.alloc (.cells cur e)).heap[b]?=w.heap[b]?:=λb hb=>Below.heap_alloc w.drew _ b hb;obtain⟨sv,mf⟩:∃sv,sv=Value.slice (some ⟨w.heap.size,0,none⟩) L' cap:=⟨_,rfl⟩;have l9:G.fl n=0:=by rw[pP.1];rfl
    have hE:bx G.N G w (G.grow n G.S sv L' (some w.heap.size)) (w.drew.alloc (.cells cur e)):=⟨by simp,λ_ _ h=>h,λb q hs=>World.cell?_of_block (vT b (hi.S b q hs)),λ_ _=>rfl,λm _=>by
        by_cases em:m=n
        ·right;subst em;simp only[Gh.grow,if_true,l9];omega
        ·left;exact⟨by simp [Gh.grow,em],by simp [Gh.grow,em]⟩,gV rfl,λb hb=>vT b (hi.z b hb),rfl,rfl,rfl,λb q hs=> .inl hs⟩
    refine⟨_,_,_,de,hE,amY _,Hl hi hn (λ_=>rfl) (λ_=>rfl) _ _ _ _ hE (λg' sW=>by cases sW;exact⟨.inl rfl,by simp⟩) (λb q hs=> .inl hs) (λb hb _=>vT b hb) ?_,?_⟩
    ·refine⟨by simp [Gh.grow,eL],jN,hr.wid, .inr ⟨w.heap.size,cap,cur,by simp [Gh.grow],by simp [Gh.grow,mf,eL],λhz=>ans _ (hi.z _ hz),fk,ko,hle,fZ,λq hs=>ans _ (hi.S _ _ hs),λa b d x q hd hx hq=> ?_⟩⟩;have iM:b<i.size:=by rw[<-hr.wid d (am0 hd)];exact(amN.1 hx).1
     have aJ:a*i.size+b<us.length:=by rw[hr.len];exact m3 (amN.1 hd).1 iM
     rw[jL,Array.getElem?_append_left (by simpa using aJ),List.getElem?_toArray]at hq;exact(hr.rel a b d x q hd hx hq).keep hE (amY _)
    ·rw[am7];refine .vec n 0 bV.length L' i.size n6 ⟨_,_,_,rfl⟩ (by simp [Gh.grow]) λ_=>⟨by omega,⟨_,_,rfl,ko,hle,by omega,λ_=>⟨w.heap.size,cap,by simp [Gh.grow,mf],by simp,by simp⟩⟩,λ_ e=> ?_⟩;simp [Gh.grow,mf,eL]
  ·
   rcases qE with⟨hf,eL,ec⟩|⟨e0,e1,eL,ec,jN,mI⟩
   ·obtain⟨g2,Vh,q1,q2,q3⟩:=c4 (by omega);rw[r2]at q1;injection q1 with q4 _ q5;cases q4
    subst q5;exact room (by omega) g cap cur r1 r2 r3 r4 r5 r6 r7 r8 r9 q2 q3
   ·have:=call e0 e1;rw[r2]at this;injection this with q2 _ q3;by_cases ri:len+ys.length<=c
    ·exact room ri g cap cur r1 r2 r3 r4 r5 r6 r7 r8 r9 (by rw[q2,e0];simp) (by omega)
    ·subst e0;subst q2;subst q3;rw[eL]at jN mI;have K1:L+ys.length<=9223372036854775807:=by simp only[maxLen]at jN;omega
     have HB:(cur.toList.take (len*i.size)).length=len*i.size:=by
      rw[List.length_take,anl,r7];exact Nat.min_eq_left (Nat.mul_le_mul_right _ c1)
     have hold:(Builtin.firstCells i.size len (.slice (some ⟨g,0,none⟩) len c)).run P w.drew= .ok (cur.toList.take (len*i.size)).toArray w.drew:=
      run_firstCells_some _ _ _ _ _ _ _ HB (λj q hq=>by
       rw[lB,am7];show w.cell? ⟨g,j,none⟩=some q;rw[cell_of_row w g _ cur e (0,0) r4,<-ana];have zF:=(amN.1 hq).1;rw[HB]at zF;rw[List.getElem?_take_of_lt zF]at hq;exact hq)
     have de:=run_append_grow_src (P:=P) w T tx ty e i z hT kx hz (some ⟨g,0,none⟩) len c _ hold v ys.length us hs (by omega) (by omega) (growslice_fits (by omega) (by rw[e1];exact mI));obtain⟨cap,jR⟩:∃cap,cap=grownCap w (len+ys.length) c e:=⟨_,rfl⟩;have ko:len+ys.length<=cap:=by rw[jR];exact grownCap_ge _ _ _ _
     have hle:cap<=maxLen:=by rw[jR];exact grownCap_le_maxLen _ _ _ _ (by rw[e1];exact jN)
     rw[<-jR]at de;obtain⟨uZ,jL⟩:∃uZ,uZ=(cur.toList.take (len*i.size)++us).toArray++Builtin.zeroCells z.cells (cap-(len+ys.length)):=⟨_,rfl⟩;rw[<-jL]at de;have IG:(cur.toList.take (len*i.size)++us).length=(len+ys.length)*i.size:=by rw[amO,HB,hr.len,<-Nat.add_mul]
     have fZ:uZ.size=cap*i.size:=by
      have:=size_zeroCells z.cells (cap-(len+ys.length));rw[jL,Array.size_append,this,List.size_toArray,IG,jJ,<-Nat.add_mul]
      congr 1
      omega
     have fk:(w.drew.alloc (.cells uZ e)).heap[w.heap.size]?=some (.cells uZ e (0,0)):=World.alloc_heap_new w.drew _;have vT:∀b,b<w.heap.size->(w.drew.alloc (.cells uZ e)).heap[b]?=w.heap[b]?:=λb hb=>Below.heap_alloc w.drew _ b hb;obtain⟨sv,mf⟩:∃sv,sv=Value.slice (some ⟨w.heap.size,0,none⟩) L' cap:=⟨_,rfl⟩;have l9:G.fl n=L:=by rw[pP.1,hL]
     have gd:bV.length=L':=by rw[ec,amO,hL,eL]
     have hE:bx G.N G w (G.grow n G.S sv L' (some w.heap.size)) (w.drew.alloc (.cells uZ e)):=⟨by simp,λ_ _ h=>h,λb q hs=>World.cell?_of_block (vT b (hi.S b q hs)),λ_ _=>rfl,λm _=>by
         by_cases em:m=n
         ·right;subst em;simp only[Gh.grow,if_true,l9];omega
         ·left;exact⟨by simp [Gh.grow,em],by simp [Gh.grow,em]⟩,gV rfl,λb hb=>vT b (hi.z b hb),rfl,rfl,rfl,λb q hs=> .inl hs⟩
     refine⟨_,_,_,de,hE,amY _,Hl hi hn (λ_=>rfl) (λ_=>rfl) _ _ _ _ hE (λg' sW=>by cases sW;exact⟨.inl rfl,by simp⟩) (λb q hs=> .inl hs) (λb hb _=>vT b hb) ?_,?_⟩
     ·refine⟨by simp [Gh.grow,gd],by rw[gd,eL];exact jN,λd hd=> ?_, .inr ⟨w.heap.size,cap,uZ,by simp [Gh.grow],by simp [Gh.grow,mf,gd],λhz=>ans _ (hi.z _ hz),fk,by rw[gd];omega,hle,fZ,λq hs=>ans _ (hi.S _ _ hs),λa b d x q hd hx hq=> ?_⟩⟩
      ·rw[ec]at hd;rcases anq.1 hd with hd|hd
       ·exact iR d hd
       ·exact hr.wid d hd
      ·refine aE.keep hE (amY _) ?_;have Mb:d.length=i.size:=by
        have hm:=am0 hd;rw[ec]at hm;rcases anq.1 hm with hm|hm
        ·exact iR d hm
        ·exact hr.wid d hm
       have iM:b<i.size:=by rw[<-Mb];exact(amN.1 hx).1
       have hal:a<len+ys.length:=by
        have:=(amN.1 hd).1;rw[gd,eL]at this;omega
       have aJ:a*i.size+b<(cur.toList.take (len*i.size)++us).length:=by rw[IG];exact m3 hal iM
       rw[jL,Array.getElem?_append_left (by simpa using aJ),List.getElem?_toArray,aeX _ us len a b HB iM]at hq;rw[ec]at hd;by_cases h1:a<len
       ·rw[if_pos h1,List.getElem?_take_of_lt (m3 h1 iM),ana]at hq;rw[amX (by omega)]at hd;exact r9 a b d x q hd hx hq
       ·rw[if_neg h1]at hq;rw[am3 (by omega)]at hd;exact hr.rel (a-len) b d x q (by rw[<-hd];congr 1;omega) hx hq
     ·refine .vec n 0 (len+ys.length) L' i.size n6 ⟨_,_,_,rfl⟩ (by simp [Gh.grow]) λ_=>⟨by omega,⟨_,_,rfl,ko,hle,by omega,λ_=>⟨w.heap.size,cap,by simp [Gh.grow,mf],by simp,by simp⟩⟩,λ_ e=> ?_⟩;simp [Gh.grow,mf,eL,e1]
theorem Vl{T tx ty e k cr:Nat}{i:TypeInfo}{z:anH}{A:anF Addr}{v:anH}{ys:anD (anD AV)}{us:anD anH}(hi:bC G w h)(hT:P.underlying T=some (.slice e))(kx:P.info? e=some i)(hz:i.zero=some z)(pe:i.size=k)(xy:i.bytes=cr)(jJ:z.cells.size=k)(gi:0<k)
 (hr:zp G w k ys us) (hs:Src P k tx v ys.length us w) (jN:ys.length<=maxLen) (mI:ys.length*cr<=140737488355328):
 ∃r w' G',(Builtin.append_ #[T,tx] ty #[.slice A 0 0,v]).run P w= .ok r w'/\bx G.N G w G' w'/\G.N<=G'.N/\bC G' w' (h++[.vec e k ys])/\aE G' w' r (.vec h.length 0 ys.length ys.length k):=by
 subst pe;subst xy;by_cases hy:ys.length=0
 ·have kX:ys=[]:=List.eq_nil_of_length_eq_zero hy;subst kX;have lI:us=[]:=List.eq_nil_of_length_eq_zero (by rw[hr.len];simp);subst lI;have de:=run_append_nothing (P:=P) w T tx ty e i hT kx A 0 0 (amY _) v hs;obtain⟨hE,hI⟩:=KZ (w':=w) hi (.vec e i.size []) (λ_ _=>rfl) (.slice A 0 0) 0 none ⟨λ_ _=>rfl,amY _,rfl,rfl,rfl⟩ (λg hg=>by cases hg) ⟨by simp [Gh.ej],by simp,(λ_ h=>by cases h), .inl ⟨by simp [Gh.ej],rfl,A,by simp [Gh.ej]⟩⟩;refine⟨_,w,_,de,hE,Nat.le_succ _,hI,?_⟩;rw[hi.len];exact .vec G.N 0 0 0 i.size (by simp [Gh.ej]) ⟨_,_,_,rfl⟩ (by simp) λ_=>⟨by omega,⟨A,0,rfl,amY _,Nat.zero_le _,by omega,λh=>by omega⟩,λ_ _=>by simp [Gh.ej]⟩
 ·have K1:ys.length<=9223372036854775807:=by simp only[maxLen]at jN;omega
  have hold:(Builtin.firstCells i.size 0 (.slice A 0 0)).run P w.drew= .ok ([]:anD anH).toArray w.drew:=by
   cases A with
   |none=>exact run_firstCells_none _ _ _ _ _
   |some a=>exact run_firstCells_some _ _ _ _ _ _ [] (by simp) (λj u hu=>by simp at hu)
  have de:=run_append_grow_src (P:=P) w T tx ty e i z hT kx hz A 0 0 [] hold v ys.length us hs (by omega) (by omega) (growslice_fits (by omega) (by simpa using mI));simp only[am7,List.nil_append]at de;obtain⟨cap,jR⟩:∃cap,cap=grownCap w ys.length 0 e:=⟨_,rfl⟩;have ko:ys.length<=cap:=by rw[jR];exact grownCap_ge _ _ _ _
  have hle:cap<=maxLen:=by rw[jR];exact grownCap_le_maxLen _ _ _ _ jN
  rw[<-jR]at de;obtain⟨cur,jL⟩:∃cur,cur=us.toArray++Builtin.zeroCells z.cells (cap-ys.length):=⟨_,rfl⟩;rw[<-jL]at de;have fZ:cur.size=cap*i.size:=by
    have:=size_zeroCells z.cells (cap-ys.length);rw[jL,Array.size_append,this,List.size_toArray,hr.len,jJ,<-Nat.add_mul]
    congr 1
    omega
  obtain⟨G',g1,g2,g3,g4⟩:=Nk (e:=e) (k:=i.size) (cap:=cap) (cs:=ys) (cur:=cur) hi ko hle fZ hr.wid w.drew ⟨rfl,rfl,rfl,rfl⟩ (λa b d x q hd hx hq=>by
   have iM:b<i.size:=by rw[<-hr.wid d (am0 hd)];exact(amN.1 hx).1
   have aJ:a*i.size+b<us.length:=by rw[hr.len];exact m3 (amN.1 hd).1 iM
   rw[jL,Array.getElem?_append_left (by simpa using aJ),List.getElem?_toArray]at hq;exact hr.rel a b d x q hd hx hq)
  exact⟨_,_,G',de,g1,g2,g3,g4 _ (amY _)⟩
end
theorem NT:∀(cs:anD AV)(l:anD ep),AV.xr cs=some l->cs.length=l.length/\∀(i:Nat)(x:AV)(c:ep),cs[i]?=some x->l[i]?=some c->x.cap=some c
 |[],l,h=>by
  unfold AV.xr at h;cases h;exact⟨rfl,λi x c hx=>by simp at hx⟩
 |x::cs,l,h=>by
  unfold AV.xr at h;split at h
  ·next c l' e1 e2=>
   cases h
   obtain⟨h1,h2⟩:=NT cs l' e2;refine⟨by simp [h1],λi y d hy hd=> ?_⟩
   match i with
   |0=>simp only[List.getElem?_cons_zero,Option.some.injEq]at hy hd;subst hy;subst hd;exact e1
   |i+1=>exact h2 i y d (by simpa using hy) (by simpa using hd)
  ·cases h
theorem aE.cap{G:Gh}{w:anI}{u:anH}{x:AV}(h:aE G w u x):∀c,x.cap=some c->nO G.S w u c:=by
 induction h with
 |d h=>intro c hc;simp only[AV.cap]at hc;cases hc;exact .d h
 |own n xs h hp hle hf=>intro c hc;simp only[AV.cap]at hc;cases hc;exact .d hp
 |full xs hp hf=>intro c hc;simp only[AV.cap]at hc;cases hc;exact .d hp
 |ba xs i off b o u x hx hS hu=>
  intro c hc;simp only[AV.cap,hx]at hc;cases hc
  exact .ba x off b o u hS hu
 |fn f vs cs hl h ih=>
  intro c hc;simp only[AV.cap]at hc;split at hc
  ·next l e=>
   cases hc
   obtain⟨h1,h2⟩:=NT cs l e;refine .fn f vs l (hl.trans h1) λi v d hv hd=> ?_;have aJ:i<cs.length:=by rw[h1];exact(amN.1 hd).1
   exact ih i v _ hv (amR aJ) d (h2 i _ d (amR aJ) hd)
  ·cases hc
 |hid h h1=>intro c hc;simp only[AV.cap]at hc;cases hc;exact h
 |agg=>intro c hc;simp [AV.cap]at hc
 |aQ=>intro c hc;simp [AV.cap]at hc
 |ptr=>intro c hc;simp [AV.cap]at hc
 |row=>intro c hc;simp [AV.cap]at hc
 |mp=>intro c hc;simp [AV.cap]at hc
 |cF=>intro c hc;simp [AV.cap]at hc
 |vec=>intro c hc;simp [AV.cap]at hc
 |db=>intro c hc;simp [AV.cap]at hc
 |dead=>intro c hc;simp [AV.cap]at hc
section
variable {P:anG} {r:anF Nat} {n N0:Nat} {G:Gh} {w:anI} {a:Act} {s:St} {o:Oper} {K:St->Prop} {Q:Exit->Act->anI->Prop}
theorem wD(hs:cx G w a s)(l:Array Operand):(l.map a.eval).size=(l.toList.map (ev s)).length/\∀(i:Nat)(u:anH)(c:AV),(l.map a.eval)[i]?=some u->(l.toList.map (ev s))[i]?=some c->aE G w u c:=by
 refine⟨by simp,λi u c hu hc=> ?_⟩;rw[Array.getElem?_map]at hu;rw[amU,ana]at hc;cases hx:l[i]? with
 |none=>rw[hx]at hu;cases hu
 |some x=>rw[hx]at hu hc;cases hu;cases hc;exact hs.ev x
theorem Xc(hs:cx G w a s)(l:Array (Nat×Operand)):(l.map λ(i,x)=>(i,a.eval x)).toList.length=(l.toList.map λp=>(p.1,ev s p.2)).length/\
 ∀(i:Nat)(p:Nat×AV)(q:Nat×anH),(l.toList.map λp=>(p.1,ev s p.2))[i]?=some p->(l.map λ(i,x)=>(i,a.eval x)).toList[i]?=some q->q.1=p.1/\aE G w q.2 p.2:=by
 refine⟨by simp,λi p q hp hq=> ?_⟩;rw[ana,Array.getElem?_map]at hq;rw[amU,ana]at hp;cases hx:l[i]? with
 |none=>rw[hx]at hp;cases hp
 |some x=>rw[hx]at hp hq;cases hp;cases hq;exact⟨rfl,hs.ev x.2⟩
theorem CP{x y:Operand}{T U:TypeId}(c:Call)(hc:c.callee= .builtin .append)(h1:c.args.toList=[x,y])(h2:c.argTypes.toList=[T,U])(ho:o.op= .call c):
 (execOp a.eval o).run P w=((Builtin.append_ #[T,U] o.type #[a.eval x,a.eval y]).run P w).andThen λv w'=> .ok (.value v) w':=by
 have e1:c.args= #[x,y]:=by rw[<-Array.toList_inj];exact h1
 have e2:c.argTypes= #[T,U]:=by rw[<-Array.toList_inj];exact h2
 unfold execOp;simp only[ho,resolve,hc,e1,e2,invoke,builtin,Sem.run_bind,Sem.run_pure,Result.andThen_ok,List.map_toArray,anc,List.map_nil]
theorem Zq{x:Operand}{T:TypeId}(c:Call)(hc:c.callee= .builtin .len)(h1:c.args.toList=[x])(h2:c.argTypes.toList=[T])(ho:o.op= .call c):
 (execOp a.eval o).run P w=((Builtin.len_ #[T] o.type #[a.eval x]).run P w).andThen λv w'=> .ok (.value v) w':=by
 have e1:c.args= #[x]:=by rw[<-Array.toList_inj];exact h1
 have e2:c.argTypes= #[T]:=by rw[<-Array.toList_inj];exact h2
 unfold execOp;simp only[ho,resolve,hc,e1,e2,invoke,builtin,Sem.run_bind,Sem.run_pure,Result.andThen_ok,List.map_toArray,anc,List.map_nil]
theorem ae7(c:Call)(hc:c.callee= .builtin .max)(ho:o.op= .call c):
 (execOp a.eval o).run P w=((Builtin.max_ c.argTypes o.type (c.args.map a.eval)).run P w).andThen λv w'=> .ok (.value v) w':=by
 unfold execOp;simp only[ho,resolve,hc,invoke,builtin,Sem.run_bind,Sem.run_pure,Result.andThen_ok]
theorem ait(c:Call)(hc:c.callee= .builtin .min)(ho:o.op= .call c):
 (execOp a.eval o).run P w=((Builtin.min_ c.argTypes o.type (c.args.map a.eval)).run P w).andThen λv w'=> .ok (.value v) w':=by
 unfold execOp;simp only[ho,resolve,hc,invoke,builtin,Sem.run_bind,Sem.run_pure,Result.andThen_ok]
theorem Uv{mx:Bool}{k k':IntKind}{z:Int}:∀(l:anD AV)(vs:anD anH)(x:Int),vs.length=l.length->(∀(i:Nat)(u:anH)(c:AV),vs[i]?=some u->l[i]?=some c->aE G w u c)->Gq mx k x l=some (k',z)->
 (vs.foldlM (if mx then Builtin.max2 else Builtin.min2) (.int k x)).run P w= .ok (.int k' z) w
 |[],[],x,_,_,h=>by cases h;simp
 |[],_::_,_,hl,_,_=>by simp at hl
 |_::_,[],_,hl,_,_=>by simp at hl
 |y::l,u::vs,x,hl,hr,h=>by
  unfold Gq at h;split at h
  ·next e=>cases e
  ·next k2 b l' e=>
   cases e
   have e1:=(hr 0 u _ rfl rfl).val;subst e1;have ih:=Uv l vs _ (by simpa using hl) (λi u c hu hc=>hr (i+1) u c (by simpa using hu) (by simpa using hc)) h;rw[List.foldlM_cons,Sem.run_bind];cases mx with
   |true=>simp only[if_true,cond_true]at ih ⊢;simp only[Builtin.max2,Sem.run_pure,Result.andThen_ok];exact ih
   |false=>simp only[Bool.false_eq_true,if_false,cond_false]at ih ⊢;simp only[Builtin.min2,Sem.run_pure,Result.andThen_ok];exact ih
  ·cases h
theorem RE{mx:Bool}{k:IntKind}{z:Int}{l:anD AV}{vs:Array anH}(hl:vs.size=l.length)(hr:∀(i:Nat)(u:anH)(c:AV),vs[i]?=some u->l[i]?=some c->aE G w u c)(h:A1 mx l=some (k,z)):
 ∃u us,vs.toList=u::us/\(us.foldlM (if mx then Builtin.max2 else Builtin.min2) u).run P w= .ok (.int k z) w:=by
 unfold A1 at h;split at h
 ·next k2 x l'=>
  cases hv:vs.toList with
  |nil=>rw[<-anl,hv]at hl;simp at hl
  |cons u us=>
   refine⟨u,us,rfl,?_⟩;have kS:∀(i:Nat)(v:anH)(c:AV),(u::us)[i]?=some v->(AV.d (.v (.int k2 x))::l')[i]?=some c->aE G w v c:=λi v c h1 h2=>hr i v c (by rw[<-ana,hv];exact h1) h2;have e1:=(kS 0 u _ rfl rfl).val;subst e1;refine Uv l' us x ?_ (λi v c h1 h2=>kS (i+1) v c (by simpa using h1) (by simpa using h2)) h;rw[<-anl,hv]at hl;simpa using hl
 ·cases h
theorem PA{f:FuncId}(h:GU P f=true)(args:Array anH)(w:anI):(callFunc f args).run P w= .ok (.enter f args) w:=by
 unfold GU at h;cases hq:P.funcs[f]? with
 |none=>rw[hq]at h;simp at h
 |some fn=>
  rw[hq]at h;simp only[amP,Bool.not_eq_true']at h;obtain⟨h1,h2⟩:=h;have h3:fn.body≠none:=by intro e;rw[e]at h1;cases h1
  have h4:fn.name≠ "runtime.NumGoroutine" :=by simpa using h2
  simp [callFunc,hq,h4,h3]
theorem alL(hs:cx G w a s)(bW:N0<=G.N){x:AV}{h':anD ao}{p:Sd}(hx:p5 P o.op (ev s) s.h=some (x,h',p))(hp:p.ok)(hK:K ((s.wh h').put o.dst x)):o.wpIn (WF r) n P a w (iC N0 G w K) Q:=by
 have cS:=hs.ev;unfold p5 at hx;split at hx
 next T ho=>
  split at hx
  ·next q hT=>
   cases hx
   obtain⟨i1,i2,i3⟩:=afh hs.inv;exact ma (by rw[ho];simp) hs bW (v:= .map (some w.heap.size)) (by unfold execOp;simp [ho,run_makeMap,Result.andThen]) i1 (Nat.le_succ _) i2 i3 hK
  ·cases hx
 next T m i ok ho=>
  split at hx
  ·next k e hT=>
   split at hx
   ·next z hz=>
    split at hx
    ·next b s' hm hi=>
     split at hx
     ·next kv hn=>
      cases hc:gC P k with
      |false=>rw[hc]at hx;cases hx
      |true=>
       rw[hc]at hx;cases hx
       obtain⟨v,r1,r2⟩:=agC (ok:=ok) (s:=s') hs.inv hT hz hc hn;have e1:=cS m;rw[hm]at e1;have e2:=cS i;rw[hi]at e2;have e2:=e2.val;have MG:a.eval m= .map (some (G.aI b)):=by
        generalize a.eval m=u at e1;cases e1 with|mp _ _=>rfl
       exact eJ (by rw[ho];simp) hs bW (by unfold execOp;simp [ho,MG,e2,r1,Result.andThen]) r2 hK
     ·cases hx
    ·cases hx
   ·cases hx
  ·cases hx
 next T m i y ho=>
  split at hx
  ·next k e hT=>
   split at hx
   ·next b s' d hm hi hd=>
    split at hx
    ·next kv hn=>
     cases hc:gC P k with
     |false=>rw[hc]at hx;cases hx
     |true=>
      rw[hc]at hx;cases hx
      obtain⟨w',r1,r2,r3⟩:=agb (s:=s') hs.inv hT hc hn ((cS y).toM hd) hp;have e1:=cS m;rw[hm]at e1;have e2:=cS i;rw[hi]at e2;have e2:=e2.val;have MG:a.eval m= .map (some (G.aI b)):=by
       generalize a.eval m=u at e1;cases e1 with|mp _ _=>rfl
      exact QH (by rw[ho];simp) hs bW (by unfold execOp;simp [ho,MG,e2,r1,Result.andThen]) r2 (amY _) r3 hK
    ·cases hx
   ·cases hx
  ·cases hx
 next=>cases hx
theorem Ub(hs:cx G w a s)(bW:N0<=G.N)(h:qC P o K s):o.wpIn (WF r) n P a w (iC N0 G w K) Q:=by
 have cS:=hs.ev;unfold qC cg at h;split at h
 next x ho=>exact eJ (by rw[ho];simp) hs bW (v:=a.eval x) (by unfold execOp;rw[ho];rfl) (cS x) h
 next x ho=>exact eJ (by rw[ho];simp) hs bW (v:=a.eval x) (by unfold execOp;rw[ho];rfl) (cS x) h
 next c x y ho=>
  split at h
  next t hc=>
   have hb:=cS c;rw[hc]at hb;have e:=hb.bool;cases t with
   |true=>exact eJ (by rw[ho];simp) hs bW (v:=a.eval x) (by unfold execOp;simp [ho,e,asBool]) (cS x) (h.1 rfl)
   |false=>exact eJ (by rw[ho];simp) hs bW (v:=a.eval y) (by unfold execOp;simp [ho,e,asBool]) (cS y) (h.2 rfl)
  next=>exact h.elim
 next e ho=>
  split at h
  next z hz=>
   obtain⟨i1,i2⟩:=Sp hs.inv z.cells e (z.cells.toList.map λu=> .d (.v u)) (by simp) (λi u c hu hc=>by
    rw[amU,ana,hu]at hc;cases hc;exact .d (.v u))
   exact ma (by rw[ho];simp) hs bW (by unfold execOp;simp [ho,Instr.alloc,CA hz,newVar,newRow]) (rD G w hs.inv.z hs.inv.S _) (Nat.le_succ _) i1 i2 h
  next=>exact h.elim
 next e x ho=>
  obtain⟨hb,hK⟩:=bw.1 h;have hr:=(cS x).XY hb;obtain⟨i1,i2⟩:=Sp hs.inv (a.eval x).cells e (ev s x).cells hr.len hr.rel;exact ma (by rw[ho];simp) hs bW (by unfold execOp;simp [ho,Instr.box,newVar,newRow]) (rD G w hs.inv.z hs.inv.S _) (Nat.le_succ _) i1 i2 hK
 next t x ho=>
  obtain⟨u,y,h1,h2,h3⟩:=Uo hs.inv (cS x) h;exact eJ (by rw[ho];simp) hs bW (by unfold execOp;simp [ho,h1]) h2 h3
 next t x y ho=>
  unfold xv at h;split at h
  next m off hm=>
   split at h
   next cs fZ=>
    split at h
    case h_2=>exact h.elim
    rename_i k hk
    obtain⟨eR,h4⟩:=bw.1 h;simp only[amP,beq_iff_eq,dy]at eR;obtain⟨⟨rfl,h2⟩,h3⟩:=eR;have h1:=hk;have hx:=cS x;rw[hm]at hx;obtain⟨w',r1,r2,r3⟩:=aeO (P:=P) hs.inv fZ (cS y) h2 h1 h3;have ex:a.eval x= .pointer (some ⟨G.aI m,off,none⟩):=by
     generalize a.eval x=u at hx;cases hx with
     |ptr=>rfl
    exact QH (by rw[ho];simp) hs bW (by unfold execOp;simp [ho,Instr.storeAt,Instr.sureAddr,ex,r1]) r2 (amY _) r3 h4
   next=>exact h.elim
  next=>exact h.elim
 next x ho=>
  have hx:=cS x;split at h
  next m off hm=>
   rw[hm]at hx;generalize ea:a.eval x=u at hx;cases hx with
   |ptr _ _ vG=>exact eJ (by rw[ho];simp) hs bW (by unfold execOp;simp [ho,ea]) (.ptr m off vG) h
  next xs i off hm=>
   rw[hm]at hx;generalize ea:a.eval x=u at hx;have tM:=hx;cases hx with
   |ba=>exact eJ (by rw[ho];simp) hs bW (by unfold execOp;simp [ho,ea]) tM h
  next f cs hm=>
   rw[hm]at hx;generalize ea:a.eval x=u at hx;have tM:=hx;cases hx with
   |fn=>exact eJ (by rw[ho];simp) hs bW (by unfold execOp;simp [ho,ea]) tM h
  next=>exact h.elim
 next T x f ho=>
  split at h
  next fo k g hT=>
   have hx:=cS x;split at h
   next m off hm=>
    rw[hm]at hx;generalize ea:a.eval x=u at hx;cases hx with
    |ptr _ _ vG=>exact eJ (by rw[ho];simp) hs bW (by unfold execOp;simp [ho,ea,P9 hT]) (.ptr m (off+fo) vG) h
   next xs i off hm=>
    rw[hm]at hx;generalize ea:a.eval x=u at hx;cases hx with
    |ba _ _ _ b oo us c hx hS hu=>exact eJ (by rw[ho];simp) hs bW (by unfold execOp;simp [ho,ea,P9 hT];rfl) (by rw[Nat.add_assoc];exact .ba xs i (off+fo) b oo us c hx hS hu) h
   next=>exact h.elim
  next=>exact h.elim
 next T x f ho=>
  obtain⟨u,y,h1,h2,h3⟩:=aeC (cS x) h;exact eJ (by rw[ho];simp) hs bW (by unfold execOp;simp [ho,h1]) h2 h3
 next T x i ho=>
  obtain⟨u,y,h1,h2,h3⟩:=ae1 (cS x) (cS i) h;exact eJ (by rw[ho];simp) hs bW (by unfold execOp;simp [ho,h1]) h2 h3
 next T x i ho=>
  split at h
  next b z hb hz=>
   obtain⟨hT,h0,h⟩:=bw.1 h;have hT:=rZ hT;have hx:=cS x;rw[hb]at hx;have ex:=hx.val;obtain⟨k,ei⟩:=(cS i).int hz;split at h
   next c hc=>
    refine eJ (by rw[ho];simp) hs bW (v:= .int .u8 c.toNat) ?_ (.d (.v _)) h;unfold execOp;simp [ho,Instr.index,ex,ei,asIntOf,run_underlying hT,h0,hc]
   next=>exact h.elim
  next=>exact h.elim
 next T ps ho=>
  obtain⟨p1,p2⟩:=Xc hs ps;obtain⟨u,y,h1,h2,h3⟩:=ZL p1 p2 h;exact eJ (by rw[ho];simp) hs bW (by unfold execOp;simp only[ho,Sem.run_bind,h1];rfl) h2 h3
 next T len ps ho=>
  obtain⟨p1,p2⟩:=Xc hs ps;obtain⟨u,w',G',y,h1,h2,h3,h4,h5,h6⟩:=aj1 (T:=T) hs.inv p1 p2 h;exact ma (by rw[ho];simp) hs bW (by unfold execOp;simp only[ho,Sem.run_bind,h1];rfl) h2 h3 h4 h5 h6
 next T x lo hi mx ho=>
  obtain⟨u,y,h1,h2,h3⟩:=ZT hs (cS x) h;exact eJ (by rw[ho];simp) hs bW (by unfold execOp;simp [ho,h1]) h2 h3
 next x i ho=>
  have hx:=cS x;split at h
  next cs fZ=>
   rw[fZ]at hx;generalize ea:a.eval x=u at hx;split at h
   next c hc=>
    cases hx with
    |aQ vs _ hl hr=>
     have aJ:i<vs.size:=by rw[hl];exact(amN.1 hc).1
     exact eJ (by rw[ho];simp) hs bW (v:=vs[i]) (by unfold execOp;simp [ho,ea,Instr.extract,aJ]) (hr i _ c (am9 aJ) hc) h
   next=>exact h.elim
  next=>exact h.elim
 next f first cN ho=>
  split at h
  ·next x hx=>
   unfold Nd at hx;split at hx
   ·next e1=>
    cases hx
    have af2:first= #[]:=by
     rw[<-Array.toList_inj];exact List.map_eq_nil_iff.1 e1
    subst af2;obtain⟨p1,p2⟩:=wD hs cN;exact eJ (by rw[ho];simp) hs bW (v:= .func (.func f) #[] (cN.map a.eval)) (by unfold execOp;simp [ho,Instr.makeFunc]) (.fn f _ _ p1 p2) h
   ·split at hx
    ·next cs e1 e2=>
     cases hx
     have ai2:cN= #[]:=by
      rw[<-Array.toList_inj];exact List.map_eq_nil_iff.1 e2
     subst ai2;obtain⟨p1,p2⟩:=wD hs first
     obtain⟨c1,c2⟩:=NT _ _ e1;exact eJ (by rw[ho];simp) hs bW (v:= .func (.func f) (first.map a.eval) #[]) (by unfold execOp;simp [ho,Instr.makeFunc]) (.hid (.nt f _ _ (p1.trans c1) λi u c hu hc=>by
      have aJ:i<(first.toList.map (ev s)).length:=by rw[c1];exact(amN.1 hc).1
      exact(p2 i u _ hu (amR aJ)).cap c (c2 i _ c (amR aJ) hc)) rfl) h
    ·cases hx
  ·exact h.elim
 next op T x y U ho=>
  obtain⟨u,z,h1,h2,h3⟩:=alH (X:=x) (Y:=y) (cS x) (cS y) h;refine eJ (by rw[ho];simp) hs bW ?_ h2 h3;unfold execOp;simp only[ho];rw[Sem.run_bind,h1];rfl
 next op T x ho=>
  obtain⟨u,z,h1,h2,h3⟩:=al9 (P:=P) (cS x) h;exact eJ (by rw[ho];simp) hs bW (by unfold execOp;simp [ho,h1]) h2 h3
 next t u x ho=>
  obtain⟨u,z,h1,h2,h3⟩:=adr (cS x) h;exact eJ (by rw[ho];simp) hs bW (by unfold execOp;simp [ho,h1]) h2 h3
 next c ho=>
  have jv:∀c,o.op≠ .defer c:=by rw[ho];simp
  split at h
  next hc=>
   split at h
   next x T h1 h2=>
    obtain⟨m,r1,r2⟩:=aaP (ty:=o.type) (cS x) h;exact eJ jv hs bW (by rw[Zq c hc h1 h2 ho,r1];rfl) (.d (.v _)) r2
   next=>exact h.elim
  next hc=>
   split at h
   next x y T U h1 h2=>
    obtain⟨hU,h⟩:=bw.1 h;obtain⟨⟨e',k'⟩,hU⟩:=Option.isSome_iff_exists.1 hU;obtain⟨p,w',G',q,h',r1,r2,r3,r4,r5,r6⟩:=aab (ty:=o.type) hs.inv (cS x) (cS y) (jw hU).1 h;exact ma jv hs bW (by rw[CP c hc h1 h2 ho,r1];rfl) r2 r3 r4 r5 r6
   next=>exact h.elim
  next hc=>
   split at h
   next k z hf=>
    obtain⟨p1,p2⟩:=wD hs c.args;obtain⟨u,us,e1,e2⟩:=RE (P:=P) p1 p2 hf;refine eJ jv hs bW (v:= .int k z) ?_ (.d (.v _)) h;rw[ae7 c hc ho];unfold Builtin.max_;rw[e1];simp only[if_true]at e2;rw[e2];rfl
   next=>exact h.elim
  next hc=>
   split at h
   next k z hf=>
    obtain⟨p1,p2⟩:=wD hs c.args;obtain⟨u,us,e1,e2⟩:=RE (P:=P) p1 p2 hf;refine eJ jv hs bW (v:= .int k z) ?_ (.d (.v _)) h;rw[ait c hc ho];unfold Builtin.min_;rw[e1];simp only[Bool.false_eq_true,if_false]at e2;rw[e2];rfl
   next=>exact h.elim
  next f hc=>
   have call:∀(g:FuncId)(cN:anD AV)(vs:Array anH),a.eval f= .func (.func g) #[] vs->vs.size=cN.length->(∀(i:Nat)(u:anH)(c:AV),vs[i]?=some u->cN[i]?=some c->aE G w u c)->
       cp P g (c.args.toList.map (ev s)++cN) s.h (λr h'=>K ((s.wh h').put o.dst r))->o.wpIn (WF r) n P a w (iC N0 G w K) Q:=by
       intro g cN vs ea hl hr h;obtain⟨p1,p2⟩:=wD hs c.args;obtain⟨Fa,jC⟩:=h;have sm:=jC G w (c.args.map a.eval++vs) hs.inv (by rw[Array.size_append,amO,p1,hl]) (λi u x hu hx=>by
        by_cases hi:i<(c.args.map a.eval).size
        ·rw[Array.getElem?_append_left hi]at hu;rw[amX (by rw[<-p1];exact hi)]at hx;exact p2 i u x hu hx
        ·rw[Array.getElem?_append_right (by omega)]at hu;rw[am3 (by rw[<-p1];omega)]at hx;rw[p1]at hu;exact hr _ u x hu hx)
       refine⟨λ_ _=>trivial,?_⟩;have de:(o.semAt (WF r).round a.eval).run P w= .ok (.enter g (c.args.map a.eval++vs)) w:=by
        rw[Oper.semAt_eq _ _ _ jv];unfold execOp;simp only[ho,resolve,hc,ea];simp [Deferred.ofValue,invoke,PA Fa]
       rw[de];refine⟨λh=>(by simp [WF,Fence.wide]at h),?_⟩;have h2:=callsIn_wide (n:=n-1).2 sm;refine CallsIn.mono (F:=WF r) h2 ?_;rintro e w' ⟨v,G',x,h',rfl,x1,x2,x3,x4,x5⟩;exact⟨G',_,x1.less bW,am5 bW x2,(hs.move x1 x2 x3).put x4 o.dst,x5⟩
   have agy:∀(g:FuncId)(cN:anD AV)(vs:Array anH),a.eval f= .func (.func g) vs #[]->vs.size=cN.length->(∀(i:Nat)(u:anH)(c:AV),vs[i]?=some u->cN[i]?=some c->aE G w u c)->
       cp P g (cN++c.args.toList.map (ev s)) s.h (λr h'=>K ((s.wh h').put o.dst r))->o.wpIn (WF r) n P a w (iC N0 G w K) Q:=by
       intro g cN vs ea hl hr h;obtain⟨p1,p2⟩:=wD hs c.args;obtain⟨Fa,jC⟩:=h;have sm:=jC G w (vs++c.args.map a.eval) hs.inv (by rw[Array.size_append,amO,p1,hl]) (λi u x hu hx=>by
        by_cases hi:i<vs.size
        ·rw[Array.getElem?_append_left hi]at hu;rw[amX (by rw[<-hl];exact hi)]at hx;exact hr i u x hu hx
        ·rw[Array.getElem?_append_right (by omega)]at hu;rw[am3 (by rw[<-hl];omega)]at hx;rw[hl]at hu;exact p2 _ u x hu hx)
       refine⟨λ_ _=>trivial,?_⟩;have de:(o.semAt (WF r).round a.eval).run P w= .ok (.enter g (vs++c.args.map a.eval)) w:=by
        rw[Oper.semAt_eq _ _ _ jv];unfold execOp;simp only[ho,resolve,hc,ea];simp [Deferred.ofValue,invoke,PA Fa]
       rw[de];refine⟨λh=>(by simp [WF,Fence.wide]at h),?_⟩;have h2:=callsIn_wide (n:=n-1).2 sm;refine CallsIn.mono (F:=WF r) h2 ?_;rintro e w' ⟨v,G',x,h',rfl,x1,x2,x3,x4,x5⟩;exact⟨G',_,x1.less bW,am5 bW x2,(hs.move x1 x2 x3).put x4 o.dst,x5⟩
   split at h
   next g cN hg=>
    have hf:=cS f;rw[hg]at hf;generalize ea:a.eval f=u at hf;cases hf with
    |fn _ vs _ hl hr=>exact call g cN vs ea hl hr h
   next q hg=>
    obtain⟨g,as,eq,h⟩:=h;have hf:=cS f;rw[hg]at hf;generalize ea:a.eval f=u at hf;cases hf with
    |hid hq h1=>
     cases hq with
     |d _=>simp [ep.app]at eq
     |ba _ _ _ _ _ _ _=>simp [ep.app]at eq
     |nt g0 vs cs hl hr=>
      simp only[ep.app,Option.some.injEq,Prod.mk.injEq]at eq;obtain⟨rfl,rfl⟩:=eq;exact agy _ (cs.map ep.av) vs ea (by rw[amS];exact hl) (λi u c hu hc=>by
       rw[amU]at hc;cases hx:cs[i]? with
       |none=>rw[hx]at hc;cases hc
       |some d=>rw[hx]at hc;cases hc;exact(hr i u d hu hx).av) h
     |fn g0 vs cs hl hr=>
      simp only[ep.app,Option.some.injEq,Prod.mk.injEq]at eq;obtain⟨rfl,rfl⟩:=eq;exact call _ (cs.map ep.av) vs ea (by rw[amS];exact hl) (λi u c hu hc=>by
       rw[amU]at hc;cases hx:cs[i]? with
       |none=>rw[hx]at hc;cases hc
       |some d=>rw[hx]at hc;cases hc;exact(hr i u d hu hx).av) h
   next=>exact h.elim
  next=>exact h.elim
 next op _=>
  split at h
  next x h' p hx=>exact alL hs bW hx h.1 h.2
  next=>exact h.elim
theorem Lq(hs:cx G w a s){x:anF Operand}{d:Nat}{z:Int}(h:tB (ev s) d x=some z)(h0:0<=z):A0 a x d z.toNat:=by
 cases x with
 |none=>
  simp only[tB,Option.some.injEq]at h;subst h;show _=d;exact anf d
 |some y=>
  simp only[tB]at h;obtain⟨k,e⟩:=(hs.ev y).int h;exact⟨k,z,e,h0,rfl⟩
theorem mi{α:Type}{b:Bool}{x y:α}(h:(bif b then some x else none)=some y):b=true/\x=y:=by
 cases b with
 |true=>exact⟨rfl,am6 h⟩
 |false=>cases h
theorem ai9{α:Type}{b:Bool}{x:anF α}{y:α}(h:(bif b then x else none)=some y):b=true/\x=some y:=by
 cases b with
 |true=>exact⟨rfl,h⟩
 |false=>cases h
theorem Xn(hs:cx G w a s)(bW:N0<=G.N)(h:J7 P o K s):o.wpIn (WF r) n P a w (iC N0 G w K) Q:=by
 obtain⟨va,x,h',p,hx,hp,hK⟩:=h;have cS:=hs.ev;unfold hY at hx;split at hx
 next T y i ho=>
  split at hx
  ·next n' o' len L k z e k' i' e1 e2 e3=>
   split at hx
   ·next e4 k2 cs hn=>
    obtain⟨hb,he⟩:=mi hx;cases he
    rw[amP,beq_iff_eq,beq_iff_eq]at hb;obtain⟨rfl,rfl⟩:=hb;obtain⟨hL,h0,aJ,rfl⟩:=hp;obtain⟨eX,fq⟩:=jw e3;obtain⟨kz,ez⟩:=(cS i).int e2;have hv:=cS y;rw[e1]at hv;have lh:=hv.y4 hs.inv hn hL;obtain⟨Il,⟨A,c,q1,q2,q3,q4,q5⟩,_⟩:=lh;obtain⟨g,cap,s1,rfl,s3⟩:=q5 (by omega);have NH:z<(len:Int):=aJ;refine eJ (by rw[ho];simp) hs bW (v:= .pointer (some ⟨g,o'*k2+z.toNat*k2,none⟩)) ?_ (.db n' (o'+z.toNat) 0 L k2 (hs.inv.lt hn) ⟨_,_,rfl⟩ (by rw[(hs.inv.cT n' _ hn).1,hL];exact amY _) λ_=>⟨by omega,g,cap,s1,?_⟩) hK
    ·unfold execOp;simp [ho,q1,ez,Instr.indexAt,asIntOf,run_underlying eX,h0,NH,lJ fq,lB]
    ·rw[Nat.add_mul];rfl
   ·cases hx
  ·cases hx
 next T y f ho=>
  split at hx
  ·next n' i j L k fo q g e1 hT=>
   cases hx
   have hv:=cS y;rw[e1]at hv;generalize ea:a.eval y=u at hv;cases hv with
   |db _ _ _ _ _ n6 Pr hL hf=>
    obtain⟨pb,pq,rfl⟩:=Pr;refine eJ (by rw[ho];simp) hs bW (v:= .pointer (some ⟨pb,pq+fo,none⟩)) (by unfold execOp;simp [ho,ea,P9 hT]) (.db n' i (j+fo) L k n6 ⟨_,_,rfl⟩ hL λe=> ?_) hK;obtain⟨a1,g2,cap,a2,a3⟩:=hf e;refine⟨a1,g2,cap,a2,?_⟩;injection a3 with a3;injection a3 with a3;injection a3 with a4 a5;subst a4;subst a5;rw[Nat.add_assoc]
  ·cases hx
 next y ho=>
  split at hx
  ·next n' i j L k e1=>
   cases hx
   have hv:=cS y;rw[e1]at hv;have RS:=hv;generalize ea:a.eval y=u at hv RS;cases hv with
   |db _ _ _ _ _ n6 Pr hL hf=>
    obtain⟨pb,pq,rfl⟩:=Pr;exact eJ (by rw[ho];simp) hs bW (by unfold execOp;simp [ho,ea]) RS hK
  ·cases hx
 next t y ho=>
  split at hx
  ·next n' i j L k c e1=>
   split at hx
   ·next e k' cs z hn hz=>
    obtain⟨hb,he⟩:=mi hx;cases he
    rw[beq_iff_eq]at hb;subst hb;have hv:=cS y;rw[e1]at hv;obtain⟨u,r1,r2⟩:=ahi hs.inv hn hp.1 hp.2 hz hv;exact eJ (by rw[ho];simp) hs bW (by unfold execOp;simp [ho,r1]) r2 hK
   ·cases hx
  ·cases hx
 next t y z ho=>
  split at hx
  ·next n' i j L k c bV e1=>
   split at hx
   ·next e k' cs q hn hq=>
    obtain⟨hb,he⟩:=mi hx;cases he
    simp only[amP,beq_iff_eq,dy]at hb;obtain⟨⟨⟨⟨rfl,rfl⟩,KQ⟩,hj⟩,gi⟩:=hb;obtain⟨hL,hc,rfl⟩:=hp;have hv:=cS y;rw[e1]at hv;obtain⟨w',G',r1,r2,r3,r4⟩:=akD hs.inv hn hL hc hv (cS z) KQ hq hj gi;exact QH (by rw[ho];simp) hs bW (by unfold execOp;simp [ho,r1]) r2 r3 r4 hK
   ·cases hx
  ·cases hx
 next T y lo hi ho=>
  split at hx
  ·next n' o' len L k e k' oo ll e1 hT=>
   split at hx
   ·next l u hl hu=>
    split at hx
    ·next e4 k2 cs hn=>
     obtain⟨hb,he⟩:=mi hx;cases he
     rw[amP,beq_iff_eq,beq_iff_eq]at hb;obtain⟨rfl,rfl⟩:=hb;obtain⟨hL,h0,hlu,huL,rfl,rfl⟩:=hp;obtain⟨eX,fq⟩:=jw hT;have hv:=cS y;rw[e1]at hv;have lh:=hv.y4 hs.inv hn hL;obtain⟨Il,⟨A,c,q1,q2,q3,q4,q5⟩,_⟩:=lh;have hb:=BM (P:=P) (yZ:=true) (Lq hs hl h0) (Lq hs hu (by omega)) (by omega) (show u.toNat<=c by omega) w;refine eJ (by rw[ho];simp) hs bW (v:= .slice (if c=l.toNat then A else A.map (·.add (l.toNat*k2))) (u.toNat-l.toNat) (c-l.toNat)) ?_ (.vec n' (o'+l.toNat) (u.toNat-l.toNat) L k2 (hs.inv.lt hn) ⟨_,_,_,rfl⟩ (by rw[(hs.inv.cT n' _ hn).1,hL];exact amY _) λ_=>⟨by omega,⟨_,_,rfl,by omega,by omega,by omega,λI6=> ?_⟩,λh1 h2=> ?_⟩) hK
     ·unfold execOp;simp [ho,q1,Instr.sliceAt,Instr.slice,run_underlying eX,hb,lJ fq]
     ·obtain⟨g,cap,s1,rfl,s3⟩:=q5 (by omega);refine⟨g,cap,s1,?_,by omega⟩;rw[if_neg (by omega)];simp [lB,Nat.add_mul]
     ·have ho0:o'=0:=by omega
      have It:l.toNat=0:=by omega
      subst ho0;rw[It];rw[It]at h2;simp only[Nat.sub_zero]at h2 ⊢;by_cases hL0:L=0
      ·subst hL0;have:len=0:=by omega
       subst this
       rename_i eR
       rw[<-eR rfl rfl,q1,h2];split
       ·rfl
       ·cases A<;>simp [Addr.add]
      ·obtain⟨g,cap,s1,rfl,s3⟩:=q5 (by omega);rw[s1,h2];have:c=cap:=by omega
       subst this;split<;>simp [lB]
    ·cases hx
   ·cases hx
  ·cases hx
 next T l c ho=>
  split at hx
  ·next e k z1 z2 cs len m hT e1 e2=>
   split at hx
   ·next z cr hz pH=>
    obtain⟨hb,he⟩:=mi hx;cases he
    simp only[amP,beq_iff_eq,dy]at hb;obtain⟨⟨gi,jJ⟩,_⟩:=hb;obtain⟨h0,kQ,hl,hc,rfl,hm,mw⟩:=hp;obtain⟨eX,fq⟩:=jw hT;obtain⟨inf,i1,i2,i3⟩:=KR fq pH;have DX:inf.zero=some z:=by
     obtain⟨i',j1,j2⟩:=GA hz;rw[i1]at j1;cases j1;exact j2
    obtain⟨k1,ez1⟩:=(cS l).int e1;obtain⟨k2,ez2⟩:=(cS c).int e2;obtain⟨u,w',G',r1,r2,r3,r4,r5⟩:=ajM (kl:=k1) (kc:=k2) hs.inv eX i1 DX i2 i3 jJ gi h0 kQ hl hc hm mw;exact ma (by rw[ho];simp) hs bW (by unfold execOp;simp [ho,ez1,ez2,r1]) r2 r3 r4 r5 hK
   ·cases hx
  ·cases hx
 next c ho=>
  have jv:∀c,o.op≠ .defer c:=by rw[ho];simp
  split at hx
  next hc=>
   split at hx
   ·next y T h1 h2=>
    split at hx
    ·next n' oo len L k e1=>
     split at hx
     ·next e4 k2 cs hn=>
      obtain⟨hb,he⟩:=mi hx;cases he
      rw[amP,beq_iff_eq]at hb;obtain⟨hT,rfl⟩:=hb;obtain⟨⟨e,q⟩,hT⟩:=Option.isSome_iff_exists.1 hT;have hv:=cS y;rw[e1]at hv;have lh:=hv.y4 hs.inv hn hp;obtain⟨Il,⟨A,cc,q1,q2,q3,q4,q5⟩,_⟩:=lh;exact eJ jv hs bW (v:= .int .i64 len) (by rw[Zq c hc h1 h2 ho,q1];simp [Builtin.len_,run_underlying (jw hT).1,goInt]) (.d (.v _)) hK
     ·cases hx
    ·cases hx
   ·cases hx
  next hc=>
   split at hx
   ·next y z T U h1 h2=>
    split at hx
    ·next e k pU bV ys L' gJ hT hU=>
     split at hx
     ·next z0 cr hz pH=>
      obtain⟨hb,hx⟩:=ai9 hx;rw[amP,beq_iff_eq,dy]at hb;obtain⟨gi,jJ⟩:=hb;obtain⟨eX,fq⟩:=jw hT;obtain⟨inf,i1,i2,i3⟩:=KR fq pH;have DX:inf.zero=some z0:=by
       obtain⟨i',j1,j2⟩:=GA hz;rw[i1]at j1;cases j1;exact j2
      have jg:z0.cells.size=k:=by rw[<-anl];exact jJ
      obtain⟨eU,kU⟩:=pU;split at hx
      ·next n' oo len L k1 e1=>
       split at hx
       ·next e4 k2 cs hn=>
        obtain⟨hb,he⟩:=mi hx;cases he
        simp only[amP,beq_iff_eq]at hb;obtain⟨⟨rfl,rfl⟩,rfl⟩:=hb;obtain⟨hL,xb,rfl,qE⟩:=hp;obtain⟨us,hr,A9⟩:=KJ (tx:=U) hs.inv (cS z) xb gi (jw hU).1;have hv:=cS y;rw[e1]at hv;obtain⟨u,w',G',r1,r2,r3,r4,r5⟩:=agz (ty:=o.type) hs.inv eX i1 DX i2 i3 jg gi hn hL hv hr A9 qE;exact ma jv hs bW (by rw[CP c hc h1 h2 ho,r1];rfl) r2 r3 r4 r5 hK
       ·cases hx
      ·next e1=>
       cases hx
       obtain⟨xb,rfl,rfl,rfl,jN,mI⟩:=hp;obtain⟨us,hr,A9⟩:=KJ (tx:=U) hs.inv (cS z) xb gi (jw hU).1;have hv:=cS y;rw[e1]at hv;have ev:=hv.val;obtain⟨u,w',G',r1,r2,r3,r4,r5⟩:=Vl (ty:=o.type) (A:=none) hs.inv eX i1 DX i2 i3 jg gi hr A9 jN mI;exact ma jv hs bW (by rw[CP c hc h1 h2 ho,ev,r1];rfl) r2 r3 r4 r5 hK
      ·next xs e1=>
       cases hx
       obtain⟨rfl,xb,rfl,rfl,rfl,jN,mI⟩:=hp;obtain⟨us,hr,A9⟩:=KJ (tx:=U) hs.inv (cS z) xb gi (jw hU).1;have hv:=cS y;rw[e1]at hv;obtain⟨A,eA⟩:∃A,a.eval y= .slice A 0 0:=by
        generalize a.eval y=u at hv;cases hv with|full _ _ hf=>exact hf
       obtain⟨u,w',G',r1,r2,r3,r4,r5⟩:=Vl (ty:=o.type) (A:=A) hs.inv eX i1 DX i2 i3 jg gi hr A9 jN mI;exact ma jv hs bW (by rw[CP c hc h1 h2 ho,eA,r1];rfl) r2 r3 r4 r5 hK
      ·cases hx
     ·cases hx
    ·cases hx
   ·cases hx
  next=>cases hx
 next=>cases hx
theorem al7(hs:cx G w a s)(bW:N0<=G.N)(h:Fs P o K s):o.wpIn (WF r) n P a w (iC N0 G w K) Q:=by
 have cS:=hs.ev;unfold Fs at h;split at h
 ·next op T x y U ho=>
  split at h
  ·next xs pT v1 v2 hx hy hT h1 h2=>
   obtain⟨e,k⟩:=pT;have eX:=(jw hT).1;have hv:=cS y;rw[hy]at hv;have ey:=hv.val;obtain⟨A,b,oo,c,k',u,ex,hA,_,_,_,_,_⟩:=((cS x).list hx).pK;have hg:(eqGuard op T x y (a.eval x) (a.eval y)).run P w= .ok () w:=by rw[ex,ey];unfold eqGuard;cases op<;>simp
   have de:(binOp op T (a.eval x) (a.eval y)).run P w= .ok (if A.isNone then v1 else v2) w:=by
    rw[ex,ey];have hq:=run_equal_slice_nil (P:=P) (w:=w) T e A xs.length c eX;cases op<;>simp [xw]at h1 h2<;>subst h1<;>subst h2<;>simp [binOp,hq]<;>cases A<;>rfl
   have hex:(execOp a.eval o).run P w= .ok (.value (if A.isNone then v1 else v2)) w:=by
    unfold execOp;simp only[ho];rw[Sem.run_bind,Sem.run_bind,hg];simp only[Result.andThen_ok];rw[de];rfl
   cases A with
   |none=>
    have k9:xs=[]:=Classical.byContradiction λck=>by have:=hA ck;cases this
    exact eJ (by rw[ho];simp) hs bW hex (.d (.v _)) (h.1 k9)
   |some ad=>exact eJ (by rw[ho];simp) hs bW hex (.d (.v _)) h.2
  ·exact h.elim
 ·exact h.elim
theorem Q6(hs:cx G w a s)(bW:N0<=G.N)(h:aaA P o K s):o.wpIn (WF r) n P a w (iC N0 G w K) Q:=by
 rcases h with h|h|h
 ·exact Xn hs bW h
 ·exact al7 hs bW h
 ·exact Ub hs bW h
end
end Go.Proofs.YtfdhojiehjfghaaGreatDoor
