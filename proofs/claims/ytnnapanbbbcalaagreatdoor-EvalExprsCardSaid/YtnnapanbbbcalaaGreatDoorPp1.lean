/-
  Part 1 of the proof: AbsGlob, AbsCore, AbsOps, AbsHeap, AbsStore, AbsApp, AbsOp, AbsOp2, AbsOp3, AbsMap, AbsVec, AbsVec2, AbsOp4.
-/
import Derived.WalkKit
import Derived.Laws.Strings
import Derived.Lib.Hide
import Derived.OrdersIn
import Derived.RangeFuncIn
import Derived.RangeFuncCalls
import Derived.RangeFuncLeaves
import Derived.RangeFuncFrom
import Derived.Deep.MidRow
import Derived.Laws.AppendOwn
import Derived.Maps.OwnOps
import Derived.KernelRfl
import Derived.Deep.AppendSrc
import Derived.Deep.Upon
import Derived.Laws.BytesString
import Derived.Laws.StructEq
import Derived.Laws.MakeOwn
import Derived.Laws.Cover3
namespace Go.Proofs.YtnnapanbbbcalaaGreatDoor
open Go.RowKit
abbrev al4:=@Option.bind_some
abbrev al5:=@List.getElem?_eq_some_iff
abbrev al6:=@List.length_append
abbrev al7:=@Bool.and_eq_true
abbrev al8:=@List.length_cons
abbrev al9:=@List.getElem?_eq_getElem
abbrev ama:=@List.length_map
abbrev amb:=@List.mem_cons_self
abbrev amc:=@List.getElem?_map
abbrev amd:=@Nat.le_of_ble_eq_true
abbrev ame:=@List.mem_cons_of_mem
abbrev amf:=@List.getElem?_append_left
abbrev amg:=@Nat.le_refl
abbrev amh:=@List.length_nil
abbrev ami:=@List.mem_of_getElem?
abbrev amj:=@Nat.eq_of_beq_eq_true
abbrev amk:=@Array.getElem?_eq_some_iff
abbrev aml:=@List.getElem?_append_right
abbrev amm:=@List.append_assoc
abbrev amn:=@Nat.le_trans
abbrev amo:=@Option.some.inj
abbrev amp:=@Nat.zero_add
abbrev amq:=@List.append_nil
abbrev amr:=@Array.getElem?_eq_getElem
abbrev ams:=@Array.getElem?_toList
abbrev amt:=@Nat.lt_of_lt_of_le
abbrev amu:=@List.map_cons
abbrev amv:=@List.all_eq_true
abbrev amw:=@Int.toNat_natCast
abbrev amx:=@Nat.not_lt_zero
abbrev amy:=@List.getElem?_set_self
abbrev amz:=@List.mem_cons
abbrev amA:=@List.map_congr_left
abbrev amB:=@List.getElem?_eq_none
abbrev amC:=@Array.length_toList
abbrev amD:=@List.getElem?_set_ne
abbrev amE:=@List.drop_zero
abbrev amF:=@List.length_replicate
abbrev amG:=@List.getElem?_cons_succ
abbrev amH:=@List.mem_append
abbrev amI:=@List.take_append_drop
abbrev amJ:=@Nat.lt_irrefl
abbrev amK:=@Nat.le_add_right
abbrev amL:=@List.not_mem_nil
abbrev amM:=@decide_eq_true
abbrev amN:=@decide_eq_false
abbrev amO:=@beq_self_eq_true
abbrev amP:=@List.all_cons
abbrev amQ:=@List.any_cons
abbrev amR:=@Nat.lt_succ_self
abbrev amS:=@Bool.or_eq_false_iff
abbrev amT:Type->Type:=List
abbrev amU:=ByteArray
abbrev amV:Type->Type:=Option
abbrev amW:=Program
abbrev amX:=Value
abbrev amY:=World
def bL(a:amU):amT UInt8:=a.data.toList
theorem PA(a:amU):a.toList=bL a:=ByteArray.toList_eq a
theorem Vg{a b:amU}(h:bL a=bL b):a=b:=by cases a;cases b;simp only[bL,Array.toList_inj]at h;rw[h]
def ve(l:amT Nat):amT amX:=l.map λn=>Value.int .u8 (Int.ofNat n)
def DE:amT Nat:=(List.range 256).map λn=>bif (Nat.ble 9 n&&Nat.ble n 13)||n==32 then 1 else 0
def xW:amT (Nat×amT amX):=
 (0,ve DE)::
  []
def A4:amT (Nat×amT amX)->Nat->amV (amT amX)
 |[],_=>none
 |(k,l)::r,g=>bif k==g then some l else A4 r g
theorem UX:∀{t:amT (Nat×amT amX)}{g:Nat}{l:amT amX},A4 t g=some l->(g,l)∈t
 |[],g,l,h=>by cases h
 |(k,l')::r,g,l,h=>by
  unfold A4 at h;cases e:k==g with
  |true=>rw[e]at h;cases h;rw[beq_iff_eq]at e;subst e;simp
  |false=>rw[e]at h;exact ame _ (UX h)
inductive D where
 |v (u:Value)
 |sl (xs:List (List D))
 |ag (ds:List D)
inductive fp where
 |d (x:D)
 |bp (c:List D) (off:Nat)
 |fn (f:FuncId) (cs:List fp)
 |nA (f:FuncId) (cs:List fp)
inductive AV where
 |d (x:D)
 |agg (cs:List AV)
 |aY (cs:List AV)
 |ptr (n off:Nat)
 |bp (xs:List (List D)) (i off:Nat)
 |own (n:Nat) (xs:List (List D))
 |full (xs:List (List D))
 |row (n off len cap k:Nat)
 |fn (f:FuncId) (dg:List AV)
 |mp (n:Nat)
 |cp (n:Nat)
 |vec (n o len L k:Nat)
 |dD (n i j L k:Nat)
 |hid (c:fp)
 |dead
inductive LS where
 |ready
 |busy
 |done (c:Code)
def LS.st:LS->LoopState
 | .ready=> .ready
 | .busy=> .busy
 | .done _=> .done
def LS.pd:LS->amV Code
 | .done c=>some c
 |_=>none
inductive aq where
 |cells (cs:List AV)
 |front (e:TypeId) (k len:Nat)
 |vec (e:TypeId) (k:Nat) (cs:List (List AV))
 |map (kv:List (ByteArray×D))
 |iC (kv:List (ByteArray×D))
 |lp (ls:LS) (p:Nat) (as bd:Code) (cs:List AV)
 |it (sn:Nat×List Nat) (cs:List AV)
 |eR (T:TypeId) (cs:List AV)
 |iy (e:TypeId) (b:ByteArray)
 |gone
structure Gh where
 N:Nat
 Z:Nat->Prop
 S:Nat->Nat->Prop
 aR:Nat->Nat
 sg:Nat->Value
 ow:Nat->Option Nat
 fl:Nat->Nat
 M:Nat
inductive dy(S:Nat->Nat->Prop)(w:World):Value->D->Prop
 |v (u:Value):dy S w u (.v u)
 |sl (A:Option Addr) (b o c k:Nat) (xs:List (List D)) (u:Nat->Nat->Value)
    (hA:xs≠ []->A=some ⟨b,o,none⟩) (hc:xs.length<=c) (hm:c<=maxLen)
    (hk:∀x∈xs,x.length=k)
    (hS:∀i j,i<xs.length->j<k->S b (o+i*k+j)/\w.cell? ⟨b,o+i*k+j,none⟩=some (u i j)/\(u i j).oneCell'=true)
    (hu:∀(i j:Nat)(x:List D)(d:D),xs[i]?=some x->x[j]?=some d->dy S w (u i j) d):dy S w (.slice A xs.length c) (.sl xs)
 |ag (vs:Array Value) (ds:List D) (hl:vs.size=ds.length) (h:∀(i:Nat)(u:Value)(d:D),vs[i]?=some u->ds[i]?=some d->dy S w u d):dy S w (.agg vs) (.ag ds)
inductive nu(S:Nat->Nat->Prop)(w:World):Value->fp->Prop
 |d {u:Value} {x:D} (h:dy S w u x):nu S w u (.d x)
 |bp (c:List D) (off b o:Nat) (u:Nat->Value) (hS:∀j,j<c.length->S b (o+j)/\w.cell? ⟨b,o+j,none⟩=some (u j)) (hu:∀(j:Nat)(d:D),c[j]?=some d->dy S w (u j) d):nu S w (.pointer (some ⟨b,o+off,none⟩)) (.bp c off)
 |fn (f:FuncId) (vs:Array Value) (cs:List fp) (hl:vs.size=cs.length) (h:∀(i:Nat)(u:Value)(c:fp),vs[i]?=some u->cs[i]?=some c->nu S w u c):nu S w (.func (.func f) #[] vs) (.fn f cs)
 |nA (f:FuncId) (vs:Array Value) (cs:List fp) (hl:vs.size=cs.length) (h:∀(i:Nat)(u:Value)(c:fp),vs[i]?=some u->cs[i]?=some c->nu S w u c):nu S w (.func (.func f) vs #[]) (.nA f cs)
structure Ri(s u:Value)(o len L k:Nat):Prop where
 ol:o+len<=L
 sl:∃A c,u= .slice A len c/\len<=c/\c<=maxLen/\L<=c+o/\(o<L->∃g cap,s= .slice (some ⟨g,0,none⟩) L cap/\A=some ⟨g,o*k,none⟩/\o+c=cap)
 all:o=0->len=L->u=s
structure QV(s u:Value)(i j L k:Nat):Prop where
 il:i<L
 pt:∃g cap,s= .slice (some ⟨g,0,none⟩) L cap/\u= .pointer (some ⟨g,i*k+j,none⟩)
inductive aH(G:Gh)(w:World):Value->AV->Prop
 |d {u:Value} {x:D} (h:dy G.S w u x):aH G w u (.d x)
 |agg (vs:Array Value) (cs:List AV) (hl:vs.size=cs.length) (h:∀(i:Nat)(u:Value)(c:AV),vs[i]?=some u->cs[i]?=some c->aH G w u c):aH G w (.agg vs) (.agg cs)
 |aY (vs:Array Value) (cs:List AV) (hl:vs.size=cs.length) (h:∀(i:Nat)(u:Value)(c:AV),vs[i]?=some u->cs[i]?=some c->aH G w u c):aH G w (.tuple vs) (.aY cs)
 |ptr (n off:Nat) (h:n<G.N):aH G w (.pointer (some ⟨G.aR n,off,none⟩)) (.ptr n off)
 |bp (xs:List (List D)) (i off b o:Nat) (u:Nat->Value) (x:List D) (hx:xs[i]?=some x)
  (hS:∀j,j<x.length->G.S b (o+j)/\w.cell? ⟨b,o+j,none⟩=some (u j)) (hu:∀(j:Nat)(d:D),x[j]?=some d->dy G.S w (u j) d):aH G w (.pointer (some ⟨b,o+off,none⟩)) (.bp xs i off)
 |own {u:Value} (n:Nat) (xs:List (List D)) (h:n<G.N) (hp:dy G.S w u (.sl xs)) (hle:xs.length<=G.fl n) (hf:xs.length=G.fl n->u=G.sg n):aH G w u (.own n xs)
 |full {u:Value} (xs:List (List D)) (hp:dy G.S w u (.sl xs)) (hf:∃A,u= .slice A xs.length xs.length):aH G w u (.full xs)
 |row (n off len cap k:Nat) (h:n<G.N) (hl:len<=cap) (hm:cap<=maxLen):aH G w (.slice (some ⟨G.aR n,off,none⟩) len cap) (.row n off len cap k)
 |fn (f:FuncId) (vs:Array Value) (cs:List AV) (hl:vs.size=cs.length) (h:∀(i:Nat)(u:Value)(c:AV),vs[i]?=some u->cs[i]?=some c->aH G w u c):aH G w (.func (.func f) #[] vs) (.fn f cs)
 |mp (n:Nat) (h:n<G.N):aH G w (.map (some (G.aR n))) (.mp n)
 |cp (n:Nat) (h:n<G.N):aH G w (.func (.yield (G.aR n)) #[] #[]) (.cp n)
 |vec {u:Value} (n o len L k:Nat) (h:n<G.N) (hs:∃A l c,u= .slice A l c) (hL:L<=G.fl n) (hf:L=G.fl n->Ri (G.sg n) u o len L k):aH G w u (.vec n o len L k)
 |dD {u:Value} (n i j L k:Nat) (h:n<G.N) (hs:∃b q,u= .pointer (some ⟨b,q,none⟩)) (hL:L<=G.fl n) (hf:L=G.fl n->QV (G.sg n) u i j L k):aH G w u (.dD n i j L k)
 |hid {u:Value} {c:fp} (h:nu G.S w u c) (h1:u.oneCell'=true):aH G w u (.hid c)
 |dead (u:Value):aH G w u .dead
def ld:amT (amU×D)->amU->amV D
 |[],_=>none
 |(k,d)::l,s=>bif bL k==bL s then some d else ld l s
structure um(S:Nat->Nat->Prop)(w:World)(es:Array MapEntry)(clock:Nat)(kv:List (ByteArray×D)):Prop where
 size:es.size<=maxLen
 stamped:MapKept.Stamped es clock
 Bd:∀e∈es.toList,∃s d,e.key= .string s/\ld kv s=some d/\dy S w e.val d
 all:∀s d,ld kv s=some d->∃e∈es.toList,e.key= .string s
 len:es.size<=kv.length
 born:∀(i:Nat)(e:MapEntry),es[i]?=some e->e.born=i
 Cj:clock=es.size
structure vQ(S:Nat->Nat->Prop)(w:World)(es:Array MapEntry)(clock:Nat)(kv:List (ByteArray×D)):Prop where
 ok:um S w es clock kv
 ord:∀(i:Nat)(e:MapEntry),es[i]?=some e->∃p,kv[i]?=some p/\e.key= .string p.1/\dy S w e.val p.2
 all:kv.length=es.size
def aq.dV(G:Gh)(n:Nat):aq->amV Nat
 | .cells _=>some (G.aR n)
 | .front _ _ _=>G.ow n
 | .vec _ _ _=>G.ow n
 | .map _=>some (G.aR n)
 | .iC _=>some (G.aR n)
 | .lp _ _ _ _ _=>some (G.aR n)
 | .it _ _=>some (G.aR n)
 | .eR _ _=>some (G.aR n)
 | .iy _ _=>G.ow n
 | .gone=>none
def bR(h:amT aq)(G:Gh)(n:Nat):amV Nat:=(h[n]?).bind (aq.dV G n)
theorem dJ{h:amT aq}{G:Gh}{n:Nat}{B:aq}(e:h[n]?=some B):bR h G n=B.dV G n:=by unfold bR;rw[e];rfl
theorem ux{h:amT aq}{G:Gh}{n:Nat}(e:h[n]?=none):bR h G n=none:=by unfold bR;rw[e];rfl
theorem m3{h:amT aq}{G:Gh}{n b:Nat}(e:bR h G n=some b):∃B,h[n]?=some B/\B.dV G n=some b:=by
 unfold bR at e;cases hx:h[n]? with
 |none=>rw[hx]at e;cases e
 |some B=>rw[hx]at e;exact⟨B,rfl,e⟩
def aik(v:amX):Prop:=v= .slice none 0 0\/∃g n cap,v= .slice (some ⟨g,0,none⟩) n cap/\cap≠0
def ep(G:Gh)(w:amY)(n:Nat):aq->Prop
 | .cells cs=>¬G.Z (G.aR n)/\(∀o,¬G.S (G.aR n) o)/\∃(vs:Array amX)(T:TypeId),w.heap[G.aR n]?=some (.cells vs T (0,0))/\vs.size=cs.length/\∀(i:Nat)(u:amX)(c:AV),vs[i]?=some u->cs[i]?=some c->aH G w u c
 | .front e k len=>G.fl n=len/\len<=maxLen/\((G.ow n=none/\∃A,G.sg n= .slice A len len)\/
  ∃(g cap:Nat)(cur:Array amX),G.ow n=some g/\G.sg n= .slice (some ⟨g,0,none⟩) len cap/\¬G.Z g/\w.heap[g]?=some (.cells cur e (0,0))/\len<=cap/\cap<=maxLen/\cur.size=cap*k/\∀o,len*k<=o->¬G.S g o)
 | .vec e k cs=>G.fl n=cs.length/\cs.length<=maxLen/\(∀c∈cs,c.length=k)/\((G.ow n=none/\cs=[]/\∃A,G.sg n= .slice A 0 0)\/
  ∃(g cap:Nat)(cur:Array amX),G.ow n=some g/\G.sg n= .slice (some ⟨g,0,none⟩) cs.length cap/\¬G.Z g/\w.heap[g]?=some (.cells cur e (0,0))/\cs.length<=cap/\cap<=maxLen/\cur.size=cap*k/\(∀o,¬G.S g o)/\
   ∀(i j:Nat)(c:amT AV)(x:AV)(u:amX),cs[i]?=some c->c[j]?=some x->cur[i*k+j]?=some u->aH G w u x)
 | .map kv=>¬G.Z (G.aR n)/\(∀o,¬G.S (G.aR n) o)/\∃(es:Array MapEntry)(clock:Nat),w.heap[G.aR n]?=some (.map es clock)/\um G.S w es clock kv
 | .iC kv=>¬G.Z (G.aR n)/\(∀o,¬G.S (G.aR n) o)/\∃(es:Array MapEntry)(clock:Nat),w.heap[G.aR n]?=some (.map es clock)/\vQ G.S w es clock kv
 | .lp ls p as bd cs=>¬G.Z (G.aR n)/\(∀o,¬G.S (G.aR n) o)/\∃(fn:FuncId)(tm:Array amX)(D:Nat),w.heap[G.aR n]?=some (.loop {state:=ls.st,pending:=ls.pd,fn:=fn,tmps:=tm,params:= #[p],assign:=as,body:=bd,defers:=D})/\tm.size=cs.length/\∀(i:Nat)(u:amX)(c:AV),tm[i]?=some u->cs[i]?=some c->aH G w u c
 | .it sn cs=>¬G.Z (G.aR n)/\(∀o,¬G.S (G.aR n) o)/\∃(fn:Nat)(vs:Array amX)(_:Unit),w.heap[G.aR n]?=some (.mapIter (some fn) sn.1 sn.2.toArray sn.1)/\(vs.size=cs.length/\vs= #[.map (some fn)])/\∀(i:Nat)(u:amX)(c:AV),vs[i]?=some u->cs[i]?=some c->aH G w u c
 | .eR T cs=>¬G.Z (G.aR n)/\(∀o,¬G.S (G.aR n) o)/\∃(_:Unit)(vs:Array amX)(p:amX),w.heap[G.aR n]?=some (.cells (#[p]++vs) T (0,0))/\(vs.size=cs.length/\(p= .pointer none\/p= .pointer (some ⟨G.aR n,0,none⟩))/\∀v∈vs.toList,aik v)/\∀(i:Nat)(u:amX)(c:AV),vs[i]?=some u->cs[i]?=some c->aH G w u c
 | .iy e b=>G.fl n=b.size/\b.size<=maxLen/\((G.ow n=none/\b.size=0/\∃A,G.sg n= .slice A 0 0)\/
  ∃(g cap:Nat)(cur:Array amX),G.ow n=some g/\G.sg n= .slice (some ⟨g,0,none⟩) b.size cap/\¬G.Z g/\w.heap[g]?=some (.cells cur e (0,0))/\b.size<=cap/\cap<=maxLen/\cur.size=cap/\(∀o,¬G.S g o)/\∀(i:Nat)(u:UInt8),(bL b)[i]?=some u->cur[i]?=some (.int .u8 u.toNat))
 | .gone=>True
def Gd(G:Gh)(w:amY):Prop:=(∀(g:Nat)(l:amT amX),(g,l)∈xW->∀(j:Nat)(v:amX),l[j]?=some v->G.S g j/\w.cell? ⟨g,j,none⟩=some v)/\G.M<=w.heap.size
structure bU(G:Gh)(w:World)(h:List aq):Prop where
 len:h.length=G.N
 z:∀b,G.Z b->b<w.heap.size
 S:∀b o,G.S b o->b<w.heap.size
 dk:∀(n:Nat)(B:aq),h[n]?=some B->ep G w n B
 inj:∀(m n b:Nat),bR h G m=some b->bR h G n=some b->m=n
 gl:Gd G w
structure bN(N:Nat)(G:Gh)(w:World)(G':Gh)(w':World):Prop where
 size:w.heap.size<=w'.heap.size
 S:∀b o,G.S b o->G'.S b o
 cell:∀b o,G.S b o->w'.cell? ⟨b,o,none⟩=w.cell? ⟨b,o,none⟩
 aR:∀n,n<N->G'.aR n=G.aR n
 fr:∀n,n<N->(G'.fl n=G.fl n/\G'.sg n=G.sg n)\/G.fl n<G'.fl n
 Z:((∀b,G.Z b->G'.Z b)/\∀b,G'.Z b->G.Z b\/w.heap.size<=b)/\G'.M=G.M
 old:∀b,G.Z b->w'.heap[b]?=w.heap[b]?
 os:w'.os=w.os
 tape:w'.tape=w.tape
 output:w'.output=w.output
 new:∀b o,G'.S b o->G.S b o\/¬G.Z b
theorem hY{Z Z':Nat->Prop}{m M M':Nat}(h:Z'=Z)(hM:M'=M:=by rfl):((∀b,Z b->Z' b)/\∀b,Z' b->Z b\/m<=b)/\M'=M:=⟨⟨λ_ k=>h▸k,λ_ k=> .inl (h▸k)⟩,hM⟩
theorem bN.refl(N:Nat)(G:Gh)(w:amY):bN N G w G w:=
 ⟨amg _,λ_ _ h=>h,λ_ _ _=>rfl,λ_ _=>rfl,λ_ _=> .inl ⟨rfl,rfl⟩,hY rfl,λ_ _=>rfl,rfl,rfl,rfl,λ_ _ h=> .inl h⟩
theorem bN.trans{N:Nat}{G G1 G2:Gh}{w w1 w2:amY}(h:bN N G w G1 w1)(k:bN N G1 w1 G2 w2):bN N G w G2 w2:=
 ⟨amn h.size k.size,λb o hs=>k.S b o (h.S b o hs),λb o hs=>(k.cell b o (h.S b o hs)).trans (h.cell b o hs),λn hn=>(k.aR n hn).trans (h.aR n hn),
  λn hn=>by
   rcases h.fr n hn with⟨h1,h2⟩|h1<;>rcases k.fr n hn with⟨k1,k2⟩|k1
   ·exact .inl ⟨k1.trans h1,k2.trans h2⟩
   ·exact .inr (h1▸k1)
   ·exact .inr (k1▸h1)
   ·exact .inr (Nat.lt_trans h1 k1),
  ⟨⟨λb hb=>k.Z.1.1 b (h.Z.1.1 b hb),λb hb=>(k.Z.1.2 b hb).elim (h.Z.1.2 b) λhs=> .inr (amn h.size hs)⟩,k.Z.2.trans h.Z.2⟩,λb hb=>(k.old b (h.Z.1.1 b hb)).trans (h.old b hb),k.os.trans h.os,k.tape.trans h.tape,k.output.trans h.output,λb o hs=>(k.new b o hs).elim (h.new b o) (λhn=> .inr λhz=>hn (h.Z.1.1 b hz))⟩
theorem bN.less{N M:Nat}{G G':Gh}{w w':amY}(h:bN N G w G' w')(hM:M<=N):bN M G w G' w':=
 ⟨h.size,h.S,h.cell,λn hn=>h.aR n (amt hn hM),λn hn=>h.fr n (amt hn hM),h.Z,h.old,h.os,h.tape,h.output,h.new⟩
theorem bN.lr{N:Nat}{G G':Gh}{w w':amY}(h:bN N G w G' w'){b:Nat}(hb:b<w.heap.size)(hz:¬G.Z b):¬G'.Z b:=λk=>(h.Z.1.2 b k).elim hz λhs=>amJ _ (amt hb hs)
def rb(G:Gh)(w:amY)(ds:amT Deferred):Prop:=∃l:amT Nat,l.Nodup/\ds=l.map (λD=>{target:= .collected D,args:= #[]})/\∀D∈l,G.M<=D/\G.Z D/\w.heap[D]?=some (.deferred (some []))
theorem rb.nil(G:Gh)(w:amY):rb G w []:=⟨[],List.nodup_nil,rfl,λ_ h=>absurd h amL⟩
theorem rb.keep{N:Nat}{G G':Gh}{w w':amY}{ds:amT Deferred}(h:rb G w ds)(hE:bN N G w G' w'):rb G' w' ds:=
 let ⟨l,h1,h2,h3⟩:=h
 ⟨l,h1,h2,λD hD=>⟨hE.Z.2▸(h3 D hD).1,hE.Z.1.1 D (h3 D hD).2.1,(hE.old D (h3 D hD).2.1).trans (h3 D hD).2.2⟩⟩
theorem Gd.keep{N:Nat}{G G':Gh}{w w':amY}(h:Gd G w)(hE:bN N G w G' w'):Gd G' w':=⟨λg l hm j v hv=>
 ⟨hE.S _ _ (h.1 g l hm j v hv).1,(hE.cell _ _ (h.1 g l hm j v hv).1).trans (h.1 g l hm j v hv).2⟩,by rw[hE.Z.2];exact amn h.2 hE.size⟩
theorem dy.keep{S S':Nat->Nat->Prop}{w w':amY}(hS:∀b o,S b o->S' b o)(hc:∀b o,S b o->w'.cell? ⟨b,o,none⟩=w.cell? ⟨b,o,none⟩){u:amX}{x:D}(h:dy S w u x):dy S' w' u x:=by
 induction h with
 |v u=>exact .v u
 |sl A b o c k xs u hA fV hm hk qQ _ ih=>
  exact .sl A b o c k xs u hA fV hm hk (λi j hi hj=>⟨hS _ _ (qQ i j hi hj).1,(hc _ _ (qQ i j hi hj).1).trans (qQ i j hi hj).2.1,(qQ i j hi hj).2.2⟩) ih
 |ag vs ds hl _ ih=>exact .ag vs ds hl ih
theorem nu.keep{S S':Nat->Nat->Prop}{w w':amY}(hS:∀b o,S b o->S' b o)(hc:∀b o,S b o->w'.cell? ⟨b,o,none⟩=w.cell? ⟨b,o,none⟩){u:amX}{x:fp}(h:nu S w u x):nu S' w' u x:=by
 induction h with
 |d h=>exact .d (h.keep hS hc)
 |bp c off b o u h1 h2=>exact .bp c off b o u (λj hj=>⟨hS _ _ (h1 j hj).1,(hc _ _ (h1 j hj).1).trans (h1 j hj).2⟩) (λj d hd=>(h2 j d hd).keep hS hc)
 |fn f vs cs hl _ ih=>exact .fn f vs cs hl ih
 |nA f vs cs hl _ ih=>exact .nA f vs cs hl ih
theorem aH.keep{G G':Gh}{w w':amY}(hE:bN G.N G w G' w')(hN:G.N<=G'.N){u:amX}{x:AV}(h:aH G w u x):aH G' w' u x:=by
 induction h with
 |d h=>exact .d (h.keep hE.S hE.cell)
 |agg vs cs hl _ ih=>exact .agg vs cs hl ih
 |aY vs cs hl _ ih=>exact .aY vs cs hl ih
 |ptr n off h=>rw[<-hE.aR n h];exact .ptr n off (amt h hN)
 |bp xs i off b o u x hx hS hu=>exact .bp xs i off b o u x hx (λj hj=>⟨hE.S _ _ (hS j hj).1,(hE.cell _ _ (hS j hj).1).trans (hS j hj).2⟩) (λj d hd=>(hu j d hd).keep hE.S hE.cell)
 |own n xs h hp hle hf=>
  refine .own n xs (amt h hN) (hp.keep hE.S hE.cell) ?_ ?_
  ·rcases hE.fr n h with⟨h1,_⟩|h1
   ·omega
   ·omega
  ·intro e;rcases hE.fr n h with⟨h1,h2⟩|h1
   ·rw[h2];exact hf (e.trans h1)
   ·omega
 |full xs hp hf=>exact .full xs (hp.keep hE.S hE.cell) hf
 |row n off len cap k h hl hm=>rw[<-hE.aR n h];exact .row n off len cap k (amt h hN) hl hm
 |fn f vs cs hl _ ih=>exact .fn f vs cs hl ih
 |mp n h=>rw[<-hE.aR n h];exact .mp n (amt h hN)
 |cp n h=>rw[<-hE.aR n h];exact .cp n (amt h hN)
 |vec n o len L k h hs hL hf=>
  refine .vec n o len L k (amt h hN) hs ?_ ?_
  ·rcases hE.fr n h with⟨h1,_⟩|h1<;>omega
  ·intro e;rcases hE.fr n h with⟨h1,h2⟩|h1
   ·rw[h2];exact hf (e.trans h1)
   ·omega
 |dD n i j L k h hs hL hf=>
  refine .dD n i j L k (amt h hN) hs ?_ ?_
  ·rcases hE.fr n h with⟨h1,_⟩|h1<;>omega
  ·intro e;rcases hE.fr n h with⟨h1,h2⟩|h1
   ·rw[h2];exact hf (e.trans h1)
   ·omega
 |hid h h1=>exact .hid (h.keep hE.S hE.cell) h1
 |dead u=>exact .dead u
structure St where
 n:Nat
 t:List (Nat×AV)
 h:List aq
def bq:amT (Nat×AV)->Nat->AV
 |[],_=> .dead
 |(k,x)::l,i=>bif i==k then x else bq l i
theorem kZ(k:Nat)(x:AV)(l:amT (Nat×AV))(i:Nat):bq ((k,x)::l) i=if i=k then x else bq l i:=by
 simp only[bq,cond_eq_ite,beq_iff_eq]
def fO(b:Bool)(p:Prop):Prop:=cond b p False
theorem bV{b:Bool}{p:Prop}:fO b p↔b=true/\p:=by cases b<;>simp [fO]
def cq(a b:Nat):Bool:=a-b==0
theorem dq{a b:Nat}:cq a b=true↔a<=b:=by simp [cq];omega
def YK:IntKind->Nat
 | .i8=>0| .i16=>1| .i32=>2| .i64=>3| .u8=>4| .u16=>5| .u32=>6| .u64=>7
def wG(a b:IntKind):Bool:=YK a==YK b
theorem N9{a b:IntKind}:wG a b=true↔a=b:=by cases a<;>cases b<;>decide
def St.put(s:St)(dst:amV Nat)(x:AV):St:=
 match dst with
 |none=>s
 |some d=>bif s.n-d==0 then s else{s with t:=(d,x)::s.t}
theorem qd{s:St}{d:Nat}(h:d<s.n)(x:AV):s.put (some d) x={s with t:=(d,x)::s.t}:=by
 have:(s.n-d==0)=false:=by simp;omega
 simp only[St.put,this,cond_false]
theorem CE{s:St}{d:Nat}(h:¬d<s.n)(x:AV):s.put (some d) x=s:=by
 have:(s.n-d==0)=true:=by simp;omega
 simp only[St.put,this,cond_true]
def St.wh(s:St)(h:amT aq):St:={s with h:=h}
def OZ:amX->AV
 | .agg vs=> .agg (vs.toList.map λu=> .d (.v u))
 | .tuple vs=> .aY (vs.toList.map λu=> .d (.v u))
 |u=> .d (.v u)
def ev(s:St):Operand->AV
 | .tmp t=>bq s.t t
 | .const v=>OZ v
 | .func f=> .fn f []
 | .global g=>match A4 xW g with
   |some l=> .bp [l.map .v] 0 0
   |none=> .dead
def AV.kD:AV->Bool
 | .d (.v u)=>u.oneCell'
 | .d (.sl _)| .ptr .. | .bp .. | .own .. | .full _| .row .. | .fn .. | .mp _| .cp _| .hid _| .vec .. | .dD .. =>true
 | .agg _| .aY _| .dead| .d (.ag _)=>false
def AV.cells:AV->amT AV
 | .agg cs=>cs
 |x=>[x]
def AV.jz:AV->Bool
 | .agg cs=>cs.all AV.kD
 |x=>x.kD
def D.tI:D->D
 | .v (.slice none 0 0)=> .sl []
 |x=>x
def AV.wx:AV->amV D
 | .d x=>some x.tI
 | .own _ xs=>some (.sl xs)
 | .full xs=>some (.sl xs)
 |_=>none
def AV.fE:AV->amV (amT (amT D))
 | .d (.sl xs)=>some xs
 | .own _ xs=>some xs
 | .full xs=>some xs
 | .d (.v (.slice none 0 0))=>some []
 |_=>none
def AV.int?:AV->amV Int
 | .d (.v (.int _ n))=>some n
 |_=>none
def fp.av:fp->AV
 | .d x=> .d x
 | .bp c off=> .bp [c] 0 off
 | .fn f cs=> .hid (.fn f cs)
 | .nA f cs=> .hid (.nA f cs)
def fp.app(as:amT AV):fp->amV (FuncId×amT AV)
 | .fn g cs=>some (g,as++cs.map fp.av)
 | .nA g cs=>some (g,cs.map fp.av++as)
 |_=>none
mutual
def AV.cap:AV->amV fp
 | .d x=>some (.d x)
 | .own _ xs=>some (.d (.sl xs))
 | .full xs=>some (.d (.sl xs))
 | .bp xs i off=>match xs[i]? with
   |some c=>some (.bp c off)
   |none=>none
 | .fn f cs=>match AV.wP cs with
   |some l=>some (.fn f l)
   |none=>none
 | .hid c=>some c
 |_=>none
def AV.wP:amT AV->amV (amT fp)
 |[]=>some []
 |x::l=>match x.cap,AV.wP l with
  |some c,some l=>some (c::l)
  |_,_=>none
end
def PG(f:FuncId)(first dg:amT AV):amV AV:=
 match first with
 |[]=>some (.fn f dg)
 |l=>match AV.wP l,dg with
  |some cs,[]=>some (.hid (.nA f cs))
  |_,_=>none
def gu(P:amW)(t:TypeId):amV Nat:=(P.info? t).map (·.size)
def lZ(P:amW)(t:TypeId):amV Bool:=(P.underlying t).map fun| .struct _=>true| .array .. =>true|_=>false
def rU(P:amW)(t:TypeId)(i:Nat):amV (Nat×Nat×Bool):=
 match P.underlying t with
 |some (.struct fs)=>match fs[i]? with
  |some f=>match gu P f.type,lZ P f.type with
   |some (k+1),some g=>some (f.offset,k+1,g)
   |_,_=>none
  |none=>none
 |_=>none
def eX(P:amW)(t:TypeId):amV (TypeId×Nat):=
 match P.underlying t with
 |some (.slice e)=>(gu P e).map λk=>(e,k)
 |_=>none
def uA(P:amW)(t:TypeId):amV (Nat×TypeId×Nat):=
 match P.underlying t with
 |some (.array n e)=>(gu P e).map λk=>(n,e,k)
 |_=>none
def ia(P:amW)(t:TypeId):Bool:=match P.underlying t with|some .string=>true|_=>false
def Ag(P:amW)(t:TypeId):Bool:=match P.underlying t with|some .bool=>true|_=>false
def qZ(P:amW)(t:TypeId):amV IntKind:=match P.underlying t with|some (.int k)=>some k|_=>none
def EC(P:amW)(t:TypeId):Bool:=match P.underlying t with|some (.int .u8)=>true|_=>false
def iz(P:amW)(t:TypeId):amV amX:=(P.info? t).bind (·.zero)
def qk(P:amW)(t:TypeId):amV Nat:=(P.info? t).map (·.bytes)
def MJ(op:BinOp)(k:IntKind)(a b:Int):amV amX:=
 match op with
 | .add=>some (.int k (k.wrap (a+b)))
 | .sub=>some (.int k (k.wrap (a-b)))
 | .mul=>some (.int k (k.wrap (a*b)))
 | .eql=>some (.bool (a==b))
 | .neq=>some (.bool (a !=b))
 | .lss=>some (.bool (a<b))
 | .leq=>some (.bool (a<=b))
 | .gtr=>some (.bool (a>b))
 | .geq=>some (.bool (a>=b))
 | .and=>some (.int k (k.wrap (BitVec.ofInt k.bits a&&&BitVec.ofInt k.bits b).toNat))
 | .or=>some (.int k (k.wrap (BitVec.ofInt k.bits a|||BitVec.ofInt k.bits b).toNat))
 | .xor=>some (.int k (k.wrap (BitVec.ofInt k.bits a^^^BitVec.ofInt k.bits b).toNat))
 | .andNot=>some (.int k (k.wrap (BitVec.ofInt k.bits a&&& ~~~BitVec.ofInt k.bits b).toNat))
 |_=>none
def Pf(op:BinOp)(a b:amU):amV amX:=
 match op with
 | .eql=>some (.bool (bL a==bL b))
 | .neq=>some (.bool (!(bL a==bL b)))
 | .lss=>some (.bool (Op.bytesLess (bL a) (bL b)))
 | .leq=>some (.bool (Op.bytesLess (bL a) (bL b)||bL a==bL b))
 | .gtr=>some (.bool (!(Op.bytesLess (bL a) (bL b)||bL a==bL b)))
 | .geq=>some (.bool (!Op.bytesLess (bL a) (bL b)))
 |_=>none
def Mc(op:BinOp)(a b:Bool):amV amX:=
 match op with
 | .eql=>some (.bool (a==b))
 | .neq=>some (.bool (!(a==b)))
 |_=>none
def KG(op:BinOp)(k:IntKind)(a b:Int):amV amX:=
 match op with
 | .quo=>some (.int k (k.wrap (a.tdiv b)))
 | .rem=>some (.int k (a.tmod b))
 |_=>none
def Qb(op:BinOp)(k:IntKind)(a b:Int):amV amX:=
 match op with
 | .shl=>some (.int k (k.wrap (a*2^(min b.toNat k.bits))))
 | .shr=>some (.int k (a.fdiv (2^(min b.toNat k.bits))))
 |_=>none
def Jx(op:UnOp)(x:amX):amV amX:=
 match op,x with
 | .not, .bool b=>some (.bool (!b))
 | .neg, .int k n=>some (.int k (k.wrap (0-n)))
 | .xor, .int k n=>some (.int k (k.wrap (BitVec.ofInt k.bits (if k.signed then-1 else k.max)^^^BitVec.ofInt k.bits n).toNat))
 |_,_=>none
def iM(cs:amT AV)(off:Nat)(ys:amT AV):amT AV:=cs.take off++ys++cs.drop (off+ys.length)
def nN(k:Nat):Nat->amT D->amT (amT D)
 |0,_=>[]
 |n+1,l=>l.take k::nN k n (l.drop k)
def pY(places:amT (Nat×Nat)):amT AV->amT (Nat×AV)->amV (amT AV)
 |cs,[]=>some cs
 |cs,(i,x)::r=>
  match places[i]? with
  |some (off,k)=>bif x.cells.length==k&&cq (off+k) cs.length then pY places (iM cs off x.cells) r else none
  |none=>none
def mM:amT AV->amV (amT D)
 |[]=>some []
 |x::r=>match x.wx,mM r with
  |some d,some l=>some (d::l)
  |_,_=>none
def Dm(P:amW)(fs:amT Field):amV (amT (Nat×Nat)):=fs.mapM λf=>(gu P f.type).map λk=>(f.offset,k)
def Fz(P:amW)(f:FuncId):Bool:=
 match P.funcs[f]? with
 |some fn=>fn.body.isSome&& !(fn.name== "runtime.NumGoroutine")
 |none=>false
def cZ(P:amW)(f:FuncId)(args:amT AV)(h:amT aq)(K:AV->amT aq->Prop):Prop:=
 Fz P f=true/\∀(G:Gh)(w:amY)(vs:Array amX),bU G w h->vs.size=args.length->(∀(i:Nat)(u:amX)(c:AV),vs[i]?=some u->args[i]?=some c->aH G w u c)->
  Calls P f vs w λe w'=>∃v G' r h',e= .returned v/\bN G.N G w G' w'/\G.N<=G'.N/\bU G' w' h'/\aH G' w' v r/\K r h'
theorem cZ.mono{P:amW}{f:FuncId}{args:amT AV}{h:amT aq}{K K':AV->amT aq->Prop}(hc:cZ P f args h K)(hk:∀r h',K r h'->K' r h'):cZ P f args h K':=
 ⟨hc.1,λG w vs hi hl hr=>(hc.2 G w vs hi hl hr).mono λ_ _ ⟨v,G',r,h',e,x1,x2,x3,x4,x5⟩=>⟨v,G',r,h',e,x1,x2,x3,x4,hk _ _ x5⟩⟩
def sR(h:amT aq)(p:AV)(K:amT AV->Nat->Prop):Prop:=
 match p with
 | .ptr n off=>match h[n]? with
   |some (.cells cs)=>K cs off
   |_=>False
 | .bp xs i off=>match xs[i]? with
   |some cs=>K (cs.map .d) off
   |none=>False
 |_=>False
def n8(P:amW)(t:TypeId)(h:amT aq)(p:AV)(K:AV->Prop):Prop:=
 sR h p λcs off=>match lZ P t,gu P t with
  |some true,some k=>fO (cq (off+k) cs.length) (K (.agg ((cs.drop off).take k)))
  |some false,some _=>match cs[off]? with
   |some c=>K c
   |none=>False
  |_,_=>False
def xq(P:amW)(t:TypeId)(h:amT aq)(p x:AV)(K:amT aq->Prop):Prop:=
 match p with
 | .ptr n off=>match h[n]? with
   |some (.cells cs)=>match gu P t with
    |some k=>fO (k==x.cells.length&&x.jz&&cq (off+x.cells.length) cs.length) (K (h.set n (.cells (iM cs off x.cells))))
    |none=>False
   |_=>False
 |_=>False
def rZ(P:amW)(T:TypeId)(x i:AV)(K:AV->Prop):Prop:=
 match eX P T with
 |some (_,k)=>
  match x with
  | .row n off len _ k'=>match i.int? with
    |some z=>fO (k'==k) (0<=z/\z<len/\K (.ptr n (off+z.toNat*k)))
    |none=>False
  |_=>match x.fE,i.int? with
   |some xs,some z=>0<=z/\(match xs[z.toNat]? with|some c=>c.length=k/\K (.bp [c] 0 0)|none=>False)
   |_,_=>False
 |none=>match uA P T,x,i.int? with
  |some (n,_,k), .ptr b off,some z=>0<=z/\z<n/\K (.ptr b (off+z.toNat*k))
  |some (n,_,k), .bp xs i off,some z=>fO (k==1) (0<=z/\z<n/\(match xs[i]? with|some c=>(match c[off+z.toNat]? with|some d=>K (.bp [[d]] 0 0)|none=>False)|none=>False))
  |_,_,_=>False
def rJ(P:amW)(T:TypeId)(x:AV)(K:Nat->Prop):Prop:=
 match x with
 | .d (.v (.string s))=>fO (ia P T) (K s.size)
 | .row _ _ len _ _=>fO (eX P T).isSome (K len)
 |x=>match x.fE with
  |some xs=>fO (eX P T).isSome (K xs.length)
  |none=>False
def jS(ρ:Operand->AV)(x:amV Operand)(als:Nat)(K:Nat->Prop):Prop:=
 match x with
 |none=>K als
 |some y=>match (ρ y).int? with
  |some z=>0<=z/\K z.toNat
  |none=>False
def ug(P:amW)(T:TypeId)(ρ:Operand->AV)(x:AV)(lo hi mx:amV Operand)(K:AV->Prop):Prop:=
 match mx with
 |none=>
  match x with
  | .d (.v (.string b))=>fO (ia P T) (jS ρ hi b.size λh=>h<=b.size/\jS ρ lo 0 λl=>l<=h/\K (.d (.v (.string (b.extract l h)))))
  | .ptr n off=>match uA P T with
    |some (m,_,k)=>fO (cq m 4096) (jS ρ hi m λh=>fO (cq h m) (jS ρ lo 0 λl=>fO (cq l h&& !cq m l) (K (.row n (off+l*k) (h-l) (m-l) k))))
    |none=>False
  |x=>match x.fE,eX P T with
   |some xs,some (_,k)=>(∀c∈xs,c.length=k)/\jS ρ hi xs.length λh=>h<=xs.length/\jS ρ lo 0 λl=>l<=h/\K (.d (.sl ((xs.take h).drop l)))
   |_,_=>False
 |some m=>match lo,hi with
  |none,some y=>match x.fE,eX P T with
   |some xs,some (_,k)=>(∀c∈xs,c.length=k)/\jS ρ (some m) 0 λc=>c<=xs.length/\jS ρ (some y) 0 λh=>h=c/\K (.full (xs.take h))
   |_,_=>False
  |_,_=>False
def tB(h:amT aq)(k:Nat)(x:AV)(K:amT (amT D)->Prop):Prop:=
 match x with
 | .row n off len _ k'=>match h[n]? with
   |some (.cells cs)=>match mM ((cs.drop off).take (len*k))with
    |some ds=>fO (k'==k&&cq (off+len*k) cs.length&&((cs.drop off).take (len*k)).all AV.kD) (K (nN k len ds))
    |none=>False
   |_=>False
 |x=>match x.fE with
  |some ys=>(∀c∈ys,c.length=k)/\K ys
  |none=>False
def uo(P:amW)(T:TypeId)(h:amT aq)(x y:AV)(K:AV->amT aq->Prop):Prop:=
 match eX P T with
 |some (e,k)=>match iz P e,qk P e with
  |some z,some dd=>fO (cq 1 k&&z.cells.toList.length==k)<|tB h k y λys=>
   match x with
   | .own n xs=>match h[n]? with
     |some (.front e' k' len)=>fO (e'==e&&k'==k)<|len=xs.length/\(∀c∈xs,c.length=k)/\xs.length+ys.length<=maxLen/\(xs.length+ys.length)*dd<=140737488355328/\K (.own n (xs++ys)) (h.set n (.front e k (xs.length+ys.length)))
     |_=>False
   | .d (.v (.slice none 0 0))=>ys.length<=maxLen/\ys.length*dd<=140737488355328/\K (.own h.length ys) (h++[.front e k ys.length])
   | .full xs=>(∀c∈xs,c.length=k)/\xs.length+ys.length<=maxLen/\(xs.length+ys.length)*dd<=140737488355328/\K (.own h.length (xs++ys)) (h++[.front e k (xs.length+ys.length)])
   |_=>False
  |_,_=>False
 |none=>False
def Kr(P:amW)(T:TypeId):amV (amT (Nat×Nat)):=
 match P.underlying T with
 |some (.struct fs)=>Dm P fs.toList
 |_=>none
def wc(P:amW)(T:TypeId)(ps:amT (Nat×AV))(K:AV->Prop):Prop:=
 match Kr P T,iz P T with
 |some places,some z=>match pY places (z.cells.toList.map λu=> .d (.v u)) ps with
  |some cs=>fO ((ps.all λp=>p.2.jz)&&z.cells.toList.all Value.oneCell') (K (.agg cs))
  |none=>False
 |_,_=>False
def tE(k:Nat):Nat->Nat->amT (Nat×Nat)
 |_,0=>[]
 |o,n+1=>(o,k)::tE k (o+k) n
def sx:Nat->amT AV->amT AV
 |0,_=>[]
 |n+1,l=>l++sx n l
def vU(P:amW)(T:TypeId)(len:Nat)(ps:amT (Nat×AV))(K:AV->Prop):Prop:=
 match eX P T with
 |some (e,k)=>match iz P e with
  |some z=>match pY (tE k 0 len) (sx len (z.cells.toList.map λu=> .d (.v u))) ps with
   |some cs=>match mM cs with
    |some ds=>fO (cq 1 k&&cq (len*k) 16777216&&z.cells.toList.length==k&&z.cells.toList.all Value.oneCell'&&(ps.all λp=>p.2.jz)) (K (.full (nN k len ds)))
    |none=>False
   |none=>False
  |none=>False
 |none=>False
def PZ(P:amW)(t:TypeId)(x y:AV):amV Bool:=
 match x,y with
 | .d (.v (.int k a)), .d (.v (.int k' b))=>bif wG k k'&&(qZ P t).isSome then some (a==b)else none
 | .d (.v (.string a)), .d (.v (.string b))=>bif ia P t then some (bL a==bL b)else none
 | .d (.v (.bool a)), .d (.v (.bool b))=>bif Ag P t then some (a==b)else none
 |_,_=>none
def xQ(P:amW)(sub:TypeId->amT AV->amT AV->amV Bool):amT Field->amT AV->amT AV->amV Bool
 |[],_,_=>some true
 |f::fs,xs,ys=>bif f.name== "_" then none else
  match lZ P f.type with
  |some false=>match xs[f.offset]?,ys[f.offset]? with
   |some x,some y=>match PZ P f.type x y,xQ P sub fs xs ys with
    |some a,some b=>some (a&&b)
    |_,_=>none
   |_,_=>none
  |some true=>match gu P f.type with
   |some k=>bif cq (f.offset+k) xs.length&&cq (f.offset+k) ys.length then match sub f.type ((xs.drop f.offset).take k) ((ys.drop f.offset).take k),xQ P sub fs xs ys with
    |some a,some b=>some (a&&b)
    |_,_=>none
    else none
   |none=>none
  |none=>none
def JL(P:amW):Nat->TypeId->amT AV->amT AV->amV Bool
 |0=>λ_ _ _=>none
 |d+1=>λT xs ys=>match P.underlying T with
  |some (.struct fs)=>bif P.stoodInHeld T then none else xQ P (JL P d) fs.toList xs ys
  |_=>none
def JO(P:amW)(T:TypeId)(xs ys:amT AV):amV Bool:=
 match P.underlying T with
 |some (.struct fs)=>bif P.stoodInHeld T||P.eqGuardType P.depth T then none else xQ P (JL P 4) fs.toList xs ys
 |_=>none
def vp(op:BinOp)(b:Bool):amV amX:=
 match op with
 | .eql=>some (.bool b)
 | .neq=>some (.bool (!b))
 |_=>none
def wX(P:amW)(T:TypeId)(op:BinOp)(x y:AV)(K:AV->Prop):Prop:=
 match x,y with
 | .d (.v (.int k a)), .d (.v (.int k' b))=>
   match KG op k a b with
   |some v=>fO (wG k k') (b≠0/\K (.d (.v v)))
   |none=>match Qb op k a b with
    |some v=>0<=b/\K (.d (.v v))
    |none=>match MJ op k a b with
     |some v=>fO (wG k k') (K (.d (.v v)))
     |none=>False
 | .d (.v (.string a)), .d (.v (.string b))=>match Pf op a b with
   |some v=>K (.d (.v v))
   |none=>match op with
    | .add=>a.size+b.size<=maxLen/\K (.d (.v (.string (a++b))))
    |_=>False
 | .d (.v (.bool a)), .d (.v (.bool b))=>match Mc op a b with
   |some v=>fO (Ag P T) (K (.d (.v v)))
   |none=>False
 | .agg xs, .agg ys=>match JO P T xs ys with
   |some b=>match vp op b with
    |some v=>K (.d (.v v))
    |none=>False
   |none=>False
 |_,_=>False
def xe(op:UnOp)(x:AV)(K:AV->Prop):Prop:=
 match x with
 | .d (.v u)=>match Jx op u with
   |some v=>K (.d (.v v))
   |none=>False
 |_=>False
def wB(P:amW)(src dst:TypeId)(x:AV)(K:AV->Prop):Prop:=
 match x with
 | .d (.v (.int _ n))=>match qZ P src,qZ P dst with
   |some _,some k=>K (.d (.v (.int k (k.wrap n))))
   |_,_=>False
 | .d (.v (.string b))=>fO (ia P src&&ia P dst) (K (.d (.v (.string b))))
 |x=>match x.fE,eX P src with
  |some xs,some (e,_)=>fO (EC P e&&ia P dst) (∃ns:amT Int,xs=ns.map (λn=>[.v (.int .u8 n)])/\K (.d (.v (.string ⟨(ns.map λn=>UInt8.ofNat n.toNat).toArray⟩))))
  |_,_=>False
def vr(P:amW)(T:TypeId)(x:AV)(f:Nat)(K:AV->Prop):Prop:=
 match rU P T f,x with
 |some (off,k,true), .agg cs=>fO (cq (off+k) cs.length) (K (.agg ((cs.drop off).take k)))
 |some (off,_,false), .agg cs=>match cs[off]? with
  |some c=>K c
  |none=>False
 |_,_=>False
def uE(P:amW)(T:TypeId):amV (TypeId×TypeId):=
 match P.underlying T with
 |some (.map k e)=>some (k,e)
 |_=>none
inductive Sd
 |no
 |lt (n:Nat)
def Sd.ok:Sd->Prop
 | .no=>True
 | .lt n=>n<maxLen
def GI:D->AV
 | .ag ds=> .agg (ds.map .d)
 |d=> .d d
def AH:amX->AV
 | .agg vs=> .agg (vs.toList.map λv=> .d (D.tI (.v v)))
 |v=> .d (.v v)
def qB(Tg:Bool)(z:amX):amV D->AV
 |some d=>bif Tg then .aY [GI d, .d (.v (.bool true))]else GI d
 |none=>bif Tg then .aY [AH z, .d (.v (.bool false))]else AH z
def AV.MY:AV->amV D
 | .agg cs=>(mM cs).map .ag
 |x=>x.wx
def pJ(P:amW)(op:Op)(ρ:Operand->AV)(h:amT aq):amV (AV×amT aq×Sd):=
 match op with
 | .makeMap T none=>match uE P T with
   |some _=>some (.mp h.length,h++[.map []], .no)
   |none=>none
 | .lookup T m i ok=>match uE P T with
   |some (k,e)=>match iz P e with
    |some z=>match ρ m,ρ i with
     | .mp n, .d (.v (.string s))=>match h[n]? with
       |some (.map kv)=>bif ia P k then some (qB ok z (ld kv s),h, .no)else none
       |_=>none
     |_,_=>none
    |none=>none
   |none=>none
 | .mapUpdate T m i x=>match uE P T with
   |some (k,_)=>match ρ m,ρ i,(ρ x).MY with
    | .mp n, .d (.v (.string s)),some d=>match h[n]? with
      |some (.map kv)=>bif ia P k then some (.d (.v undef),h.set n (.map ((s,d)::kv)), .lt kv.length)else none
      |_=>none
    |_,_,_=>none
   |none=>none
 |_=>none
inductive VA
 |no
 |el (c:List AV)
 |st (c:List AV) (cs:List (List AV))
 |mk (cs:List (List AV)) (len m:Nat)
 |ap (cs ys:List (List AV)) (L len:Nat)
 |ix (i:Nat)
 |ol (o len:Nat)
def Ku(P:amW)(t:TypeId)(c:amT AV)(j:Nat):amV AV:=
 match lZ P t,gu P t with
 |some true,some k=>bif cq (j+k) c.length then some (.agg ((c.drop j).take k))else none
 |some false,some _=>c[j]?
 |_,_=>none
def cg(xs:amT (amT D)):amT (amT AV):=xs.map λc=>c.map AV.d
def zu(h:amT aq)(k:Nat)(y:AV)(ys:amT (amT AV)):Prop:=
 (∃xs,y.fE=some xs/\(∀c∈xs,c.length=k)/\ys=cg xs)\/(∃n o len L e cs,y= .vec n o len L k/\h[n]?=some (.vec e k cs)/\cs.length=L/\ys=(cs.drop o).take len/\∀c∈ys,c.all AV.kD=true)
def tw(ρ:Operand->AV)(d:Int):amV Operand->amV Int
 |none=>some d
 |some y=>(ρ y).int?
def im(P:amW)(op:Op)(ρ:Operand->AV)(h:amT aq)(a:VA):amV (AV×amT aq×Prop):=
 match op with
 | .indexAddr T x i=>match ρ x,(ρ i).int?,eX P T,a with
   | .vec n o len L k,some z,some (_,k'), .ix i'=>match h[n]? with
     |some (.vec _ k2 cs)=>bif k'==k&&k2==k then some (.dD n i' 0 L k,h,cs.length=L/\0<=z/\z<len/\i'=o+z.toNat)else none
     |_=>none
   |_,_,_,_=>none
 | .fieldAddr S x f=>match ρ x,rU P S f with
   | .dD n i j L k,some (fo,_,_)=>some (.dD n i (j+fo) L k,h,True)
   |_,_=>none
 | .nilCheck x=>match ρ x with
   | .dD n i j L k=>some (.dD n i j L k,h,True)
   |_=>none
 | .load t p=>match ρ p,a with
   | .dD n i j L k, .el c=>match h[n]?,Ku P t c j with
     |some (.vec _ k' cs),some x=>bif k'==k then some (x,h,cs.length=L/\cs[i]?=some c)else none
     |_,_=>none
   |_,_=>none
 | .store t p x=>match ρ p,a with
   | .dD n i j L k, .st c cD=>match h[n]?,gu P t with
     |some (.vec e k' cs),some q=>bif k'==k&&q==(ρ x).cells.length&&(ρ x).jz&&cq (j+(ρ x).cells.length) k&&cq 1 k then some (.d (.v undef),h.set n (.vec e k cD),cs.length=L/\cs[i]?=some c/\cD=cs.set i (iM c j (ρ x).cells))else none
     |_,_=>none
   |_,_=>none
 | .slice T x lo hi none=>match ρ x,eX P T,a with
   | .vec n o len L k,some (_,k'), .ol o' gX=>match tw ρ 0 lo,tw ρ len hi with
     |some l,some u=>match h[n]? with
      |some (.vec _ k2 cs)=>bif k'==k&&k2==k then some (.vec n o' gX L k,h,cs.length=L/\0<=l/\l<=u/\u<=(L:Int)-o/\o'=o+l.toNat/\gX=u.toNat-l.toNat)else none
      |_=>none
     |_,_=>none
   |_,_,_=>none
 | .makeSlice T l c=>match eX P T,(ρ l).int?,(ρ c).int?,a with
   |some (e,k),some l,some c, .mk cs len m=>match iz P e,qk P e with
    |some z,some dd=>bif cq 1 k&&z.cells.toList.length==k&&z.cells.toList.all Value.oneCell' then some (.vec h.length 0 len m k,h++[.vec e k cs],0<=l/\l<=c/\l.toNat=len/\c.toNat=m/\cs=List.replicate m (z.cells.toList.map λu=> .d (.v u))/\m<=maxLen/\dd*m<=281474976710656)else none
    |_,_=>none
   |_,_,_,_=>none
 | .call c=>match c.callee with
   | .builtin .len=>match c.args.toList,c.argTypes.toList with
     |[x],[T]=>match ρ x with
      | .vec n _ len L k=>match h[n]? with
        |some (.vec _ k2 cs)=>bif (eX P T).isSome&&k2==k then some (.d (.v (.int .i64 len)),h,cs.length=L)else none
        |_=>none
      |_=>none
     |_,_=>none
   | .builtin .append=>match c.args.toList,c.argTypes.toList with
     |[x,y],[T,U]=>match eX P T,eX P U,a with
      |some (e,k),some _, .ap cD ys L' gX=>match iz P e,qk P e with
       |some z,some dd=>bif cq 1 k&&z.cells.toList.length==k then
        match ρ x with
        | .vec n o len L k1=>match h[n]? with
          |some (.vec e1 k2 cs)=>bif k1==k&&k2==k&&e1==e then some (.vec n o gX L' k,h.set n (.vec e k cD),cs.length=L/\zu h k (ρ y) ys/\gX=len+ys.length/\
           ((o+len+ys.length<=L/\L'=L/\cD=cs.take (o+len)++ys++cs.drop (o+len+ys.length))\/(o=0/\len=L/\L'=L+ys.length/\cD=cs++ys/\L'<=maxLen/\L'*dd<=140737488355328)))else none
          |_=>none
        | .d (.v (.slice none 0 0))=>some (.vec h.length 0 gX L' k,h++[.vec e k cD],zu h k (ρ y) ys/\cD=ys/\gX=ys.length/\L'=ys.length/\L'<=maxLen/\L'*dd<=140737488355328)
        | .full xs=>some (.vec h.length 0 gX L' k,h++[.vec e k cD],xs=[]/\zu h k (ρ y) ys/\cD=ys/\gX=ys.length/\L'=ys.length/\L'<=maxLen/\L'*dd<=140737488355328)
        |_=>none
       else none
       |_,_=>none
      |_,_,_=>none
     |_,_=>none
   |_=>none
 |_=>none
def J6(mx:Bool)(k:IntKind):Int->amT AV->amV (IntKind×Int)
 |a,[]=>some (k,a)
 |a, .d (.v (.int _ b))::l=>J6 mx k (bif mx then(if b>a then b else a)else(if b<a then b else a)) l
 |_,_=>none
def Bm(mx:Bool):amT AV->amV (IntKind×Int)
 | .d (.v (.int k a))::l=>J6 mx k a l
 |_=>none
def cW(P:amW)(o:Oper)(ρ:Operand->AV)(h:amT aq)(C:AV->amT aq->Prop):Prop:=
 match o.op with
 | .move x| .assign x=>C (ρ x) h
 | .pick c a b=>match ρ c with
   | .d (.v (.bool t))=>(t=true->C (ρ a) h)/\(t=false->C (ρ b) h)
   |_=>False
 | .alloc e=>match iz P e with
   |some z=>C (.ptr h.length 0) (h++[aq.cells (z.cells.toList.map λu=> .d (.v u))])
   |none=>False
 | .box _ x=>fO (ρ x).jz<|C (.ptr h.length 0) (h++[aq.cells (ρ x).cells])
 | .load t a=>n8 P t h (ρ a) λx=>C x h
 | .store t a x=>xq P t h (ρ a) (ρ x) λh'=>C (.d (.v undef)) h'
 | .nilCheck x=>match ρ x with
   | .ptr n off=>C (.ptr n off) h
   | .bp xs i off=>C (.bp xs i off) h
   | .fn f cs=>C (.fn f cs) h
   |_=>False
 | .fieldAddr S x f=>match rU P S f with
   |some (fo,_,_)=>match ρ x with
    | .ptr n off=>C (.ptr n (off+fo)) h
    | .bp xs i off=>C (.bp xs i (off+fo)) h
    |_=>False
   |none=>False
 | .field T x f=>vr P T (ρ x) f λy=>C y h
 | .indexAddr T x i=>rZ P T (ρ x) (ρ i) λy=>C y h
 | .index T x i=>match ρ x,(ρ i).int? with
   | .d (.v (.string b)),some z=>fO (ia P T) (0<=z/\(match b[z.toNat]? with|some c=>C (.d (.v (.int .u8 c.toNat))) h|none=>False))
   |_,_=>False
 | .build T ps=>wc P T (ps.toList.map λp=>(p.1,ρ p.2)) λy=>C y h
 | .buildSlice T len ps=>vU P T len (ps.toList.map λp=>(p.1,ρ p.2)) λy=>C y h
 | .slice T x lo hi mx=>ug P T ρ (ρ x) lo hi mx λy=>C y h
 | .extract x i=>match ρ x with
   | .aY cs=>match cs[i]? with
     |some c=>C c h
     |none=>False
   |_=>False
 | .makeFunc (.func f) first dg=>match PG f (first.toList.map ρ) (dg.toList.map ρ)with
   |some x=>C x h
   |none=>False
 | .binOp op T x y _=>wX P T op (ρ x) (ρ y) λv=>C v h
 | .unOp op _ x=>xe op (ρ x) λv=>C v h
 | .convert a b x=>wB P a b (ρ x) λv=>C v h
 | .call c=>match c.callee with
   | .builtin .len=>match c.args.toList,c.argTypes.toList with
     |[x],[T]=>rJ P T (ρ x) λn=>C (.d (.v (.int .i64 n))) h
     |_,_=>False
   | .builtin .append=>match c.args.toList,c.argTypes.toList with
     |[x,y],[T,U]=>fO (eX P U).isSome<|uo P T h (ρ x) (ρ y) λv h'=>C v h'
     |_,_=>False
   | .builtin .max=>match Bm true (c.args.toList.map ρ)with
     |some (k,a)=>C (.d (.v (.int k a))) h
     |none=>False
   | .builtin .min=>match Bm false (c.args.toList.map ρ)with
     |some (k,a)=>C (.d (.v (.int k a))) h
     |none=>False
   | .value f=>match ρ f with
     | .fn g dg=>cZ P g (c.args.toList.map ρ++dg) h λr h'=>C r h'
     | .hid q=>∃g as,q.app (c.args.toList.map ρ)=some (g,as)/\cZ P g as h λr h'=>C r h'
     |_=>False
   |_=>False
 |op=>match pJ P op ρ h with
  |some (x,h',p)=>p.ok/\C x h'
  |none=>False
def CU(P:amW)(o:Oper)(K:St->Prop)(s:St):Prop:=
 match o.op with
 | .binOp op T x y _=>match (ev s x).fE,ev s y,eX P T,vp op true,vp op false with
   |some xs, .d (.v (.slice none 0 0)),some _,some v1,some v2=>(xs=[]->K (s.put o.dst (.d (.v v1))))/\K (s.put o.dst (.d (.v v2)))
   |_,_,_,_,_=>False
 |_=>False
def HU(P:amW)(o:Oper)(K:St->Prop)(s:St):Prop:=∃a x h' p,im P o.op (ev s) s.h a=some (x,h',p)/\p/\K ((s.wh h').put o.dst x)
def qK(P:amW)(o:Oper)(K:St->Prop)(s:St):Prop:=cW P o (ev s) s.h λx h=>K ((s.wh h).put o.dst x)
def aaB(P:amW)(o:Oper)(K:St->Prop)(s:St):Prop:=HU P o K s\/CU P o K s\/qK P o K s
theorem lQ(b o n:Nat):(⟨b,o,none⟩:Addr).add n=⟨b,o+n,none⟩:=by unfold Addr.add;split<;>simp_all
structure c8(G:Gh)(w:World)(a:Act)(s:St):Prop where
 size:a.tmps.size=s.n
 tmp:∀i,aH G w (a.tmps.getD i undef) (bq s.t i)
 inv:bU G w s.h
 df:rb G w a.defers
theorem nu.av{G:Gh}{w:amY}{u:amX}{c:fp}(h:nu G.S w u c):aH G w u c.av:=by
 cases h with
 |d h=>exact .d h
 |bp c off b o u h1 h2=>exact .bp [c] 0 off b o u c rfl h1 h2
 |fn f vs cs hl h=>exact .hid (.fn f vs cs hl h) rfl
 |nA f vs cs hl h=>exact .hid (.nA f vs cs hl h) rfl
theorem aH.kD{G:Gh}{w:amY}{u:amX}{x:AV}(h:aH G w u x)(hb:x.kD=true):u.oneCell'=true:=by
 cases h with
 |d hp=>cases hp with
  |v u=>exact hb
  |sl=>rfl
  |ag=>simp [AV.kD]at hb
 |agg=>simp [AV.kD]at hb
 |aY=>simp [AV.kD]at hb
 |own n xs _ hp=>cases hp;rfl
 |vec n o len L k _ hs=>obtain⟨A,l,c,rfl⟩:=hs;rfl
 |dD n i j L k _ hs=>obtain⟨b,q,rfl⟩:=hs;rfl
 |full xs hp=>cases hp;rfl
 |hid h h1=>exact h1
 |dead=>simp [AV.kD]at hb
 |_=>rfl
theorem aH.cells{G:Gh}{w:amY}{u:amX}{x:AV}(h:aH G w u x)(hb:x.jz=true):
 u.cells.size=x.cells.length/\∀(i:Nat)(v:amX)(c:AV),u.cells[i]?=some v->x.cells[i]?=some c->aH G w v c/\v.oneCell'=true:=by
 have one:x.kD=true->x.cells=[x]->u.cells.size=x.cells.length/\∀(i:Nat)(v:amX)(c:AV),u.cells[i]?=some v->x.cells[i]?=some c->aH G w v c/\v.oneCell'=true:=by
  intro hc hx;have ho:=h.kD hc;have hu:u.cells= #[u]:=by cases u<;>simp_all [Value.cells,Value.oneCell']
  rw[hu,hx];refine⟨rfl,λi v c h1 h2=> ?_⟩
  match i with
  |0=>simp at h1 h2;subst h1;subst h2;exact⟨h,ho⟩
  |i+1=>simp at h2
 cases x with
 |agg cs=>
  cases h with
  |agg vs cs hl hr=>
   refine⟨hl,λi v c h1 h2=> ?_⟩;have hv:=hr i v c h1 h2;refine⟨hv,hv.kD ?_⟩;simp only[AV.jz,amv]at hb;exact hb c (ami h2)
 |aY cs=>simp [AV.jz,AV.kD]at hb
 |dead=>simp [AV.jz,AV.kD]at hb
 |_=>exact one hb rfl
theorem bU.lt{G:Gh}{w:amY}{h:amT aq}(hi:bU G w h){n:Nat}{B:aq}(hb:h[n]?=some B):n<G.N:=by
 rw[<-hi.len];exact(al5.1 hb).1
theorem bU.ownlt{G:Gh}{w:amY}{h:amT aq}(hi:bU G w h){n b:Nat}(hb:bR h G n=some b):b<w.heap.size:=by
 obtain⟨B,hB,hb⟩:=m3 hb;have hr:=hi.dk n B hB;cases B with
 |gone=>cases hb
 |cells cs=>
  obtain⟨_,_,vs,T,hh,_⟩:=hr;cases hb
  exact(amk.1 hh).1
 |lp ls p as bd cs=>
  obtain⟨_,_,fn,vs,T,hh,_⟩:=hr;cases hb
  exact(amk.1 hh).1
 |it sn cs=>
  obtain⟨_,_,fn,vs,T,hh,_⟩:=hr;cases hb
  exact(amk.1 hh).1
 |eR T0 cs=>
  obtain⟨_,_,fn,vs,T,hh,_⟩:=hr;cases hb
  exact(amk.1 hh).1
 |map kv=>
  obtain⟨_,_,es,c,hh,_⟩:=hr;cases hb
  exact(amk.1 hh).1
 |iC kv=>
  obtain⟨_,_,es,c,hh,_⟩:=hr;cases hb
  exact(amk.1 hh).1
 |front e k len=>
  have hb:G.ow n=some b:=hb;obtain⟨_,_,h1|⟨g,cap,cur,h1,_,_,hh,_⟩⟩:=hr
  ·rw[h1.1]at hb;cases hb
  ·rw[h1]at hb;cases hb;exact(amk.1 hh).1
 |iy e b2=>
  have hb:G.ow n=some b:=hb;obtain⟨_,_,h1|⟨g,cap,cur,h1,_,_,hh,_⟩⟩:=hr
  ·rw[h1.1]at hb;cases hb
  ·rw[h1]at hb;cases hb;exact(amk.1 hh).1
 |vec e k cs=>
  have hb:G.ow n=some b:=hb;obtain⟨_,_,_,h1|⟨g,cap,cur,h1,_,_,hh,_⟩⟩:=hr
  ·rw[h1.1]at hb;cases hb
  ·rw[h1]at hb;cases hb;exact(amk.1 hh).1
theorem ep.lr{G:Gh}{w:amY}{n b:Nat}{B:aq}(hr:ep G w n B)(hb:B.dV G n=some b):¬G.Z b:=by
 cases B with
 |gone=>cases hb
 |cells cs=>cases hb;exact hr.1
 |lp ls p as bd cs=>cases hb;exact hr.1
 |it sn cs=>cases hb;exact hr.1
 |eR T0 cs=>cases hb;exact hr.1
 |map kv=>cases hb;exact hr.1
 |iC kv=>cases hb;exact hr.1
 |front e k len=>
  have hb:G.ow n=some b:=hb;obtain⟨_,_,h1|⟨g,cap,cur,h1,_,hz,_⟩⟩:=hr
  ·rw[h1.1]at hb;cases hb
  ·rw[h1]at hb;cases hb;exact hz
 |iy e b2=>
  have hb:G.ow n=some b:=hb;obtain⟨_,_,h1|⟨g,cap,cur,h1,_,hz,_⟩⟩:=hr
  ·rw[h1.1]at hb;cases hb
  ·rw[h1]at hb;cases hb;exact hz
 |vec e k cs=>
  have hb:G.ow n=some b:=hb;obtain⟨_,_,_,h1|⟨g,cap,cur,h1,_,hz,_⟩⟩:=hr
  ·rw[h1.1]at hb;cases hb
  ·rw[h1]at hb;cases hb;exact hz
theorem um.keep{S S':Nat->Nat->Prop}{w w':amY}{es:Array MapEntry}{c:Nat}{kv:amT (amU×D)}(h:um S w es c kv)(hS:∀b o,S b o->S' b o)(hc:∀b o,S b o->w'.cell? ⟨b,o,none⟩=w.cell? ⟨b,o,none⟩):um S' w' es c kv:=
 ⟨h.size,h.stamped,λe he=>let ⟨s,d,h1,h2,h3⟩:=h.Bd e he;⟨s,d,h1,h2,h3.keep hS hc⟩,h.all,h.len,h.born,h.Cj⟩
theorem vQ.keep{S S':Nat->Nat->Prop}{w w':amY}{es:Array MapEntry}{c:Nat}{kv:amT (amU×D)}(h:vQ S w es c kv)(hS:∀b o,S b o->S' b o)(hc:∀b o,S b o->w'.cell? ⟨b,o,none⟩=w.cell? ⟨b,o,none⟩):vQ S' w' es c kv:=
 ⟨h.ok.keep hS hc,λi e he=>let ⟨p,h1,h2,h3⟩:=h.ord i e he;⟨p,h1,h2,h3.keep hS hc⟩,h.all⟩
theorem ep.keep{G G':Gh}{w w':amY}{n:Nat}(hn:n<G.N)(hE:bN G.N G w G' w')(hN:G.N<=G'.N){B:aq}
 (hg:G'.fl n=G.fl n/\G'.sg n=G.sg n/\G'.ow n=G.ow n)
 (ho:∀b,B.dV G n=some b->w'.heap[b]?=w.heap[b]?/\∀o,¬G.S b o->¬G'.S b o)
 (h:ep G w n B):ep G' w' n B:=by
 obtain⟨f1,f2,f3⟩:=hg;cases B with
 |gone=>trivial
 |cells cs=>
  obtain⟨h1,h2,vs,T,h3,h4,h5⟩:=h;obtain⟨c2,c1⟩:=ho _ rfl;refine⟨by rw[hE.aR n hn];exact hE.lr (amk.1 h3).1 h1,by rw[hE.aR n hn];exact λo=>c1 o (h2 o),vs,T,by rw[hE.aR n hn,c2];exact h3,h4,λi u c hu hc=>(h5 i u c hu hc).keep hE hN⟩
 |lp ls p as bd cs=>
  obtain⟨h1,h2,fn,vs,T,h3,h4,h5⟩:=h;obtain⟨c2,c1⟩:=ho _ rfl;refine⟨by rw[hE.aR n hn];exact hE.lr (amk.1 h3).1 h1,by rw[hE.aR n hn];exact λo=>c1 o (h2 o),fn,vs,T,by rw[hE.aR n hn,c2];exact h3,h4,λi u c hu hc=>(h5 i u c hu hc).keep hE hN⟩
 |it sn cs=>
  obtain⟨h1,h2,fn,vs,T,h3,h4,h5⟩:=h;obtain⟨c2,c1⟩:=ho _ rfl;refine⟨by rw[hE.aR n hn];exact hE.lr (amk.1 h3).1 h1,by rw[hE.aR n hn];exact λo=>c1 o (h2 o),fn,vs,T,by rw[hE.aR n hn,c2];exact h3,h4,λi u c hu hc=>(h5 i u c hu hc).keep hE hN⟩
 |eR T0 cs=>
  obtain⟨h1,h2,fn,vs,T,h3,h4,h5⟩:=h;obtain⟨c2,c1⟩:=ho _ rfl;refine⟨by rw[hE.aR n hn];exact hE.lr (amk.1 h3).1 h1,by rw[hE.aR n hn];exact λo=>c1 o (h2 o),fn,vs,T,by rw[hE.aR n hn,c2];exact h3,by rw[hE.aR n hn];exact h4,λi u c hu hc=>(h5 i u c hu hc).keep hE hN⟩
 |map kv=>
  obtain⟨h1,h2,es,c,h3,h4⟩:=h;obtain⟨c2,c1⟩:=ho _ rfl;exact⟨by rw[hE.aR n hn];exact hE.lr (amk.1 h3).1 h1,by rw[hE.aR n hn];exact λo=>c1 o (h2 o),es,c,by rw[hE.aR n hn,c2];exact h3,h4.keep hE.S hE.cell⟩
 |iC kv=>
  obtain⟨h1,h2,es,c,h3,h4⟩:=h;obtain⟨c2,c1⟩:=ho _ rfl;exact⟨by rw[hE.aR n hn];exact hE.lr (amk.1 h3).1 h1,by rw[hE.aR n hn];exact λo=>c1 o (h2 o),es,c,by rw[hE.aR n hn,c2];exact h3,h4.keep hE.S hE.cell⟩
 |iy e b=>
  obtain⟨h1,hm,h2⟩:=h;refine⟨f1.trans h1,hm,?_⟩;rcases h2 with⟨h2,h0,A,h3⟩|⟨g,cap,cur,h2,h3,h4,h5,h6,h7,h8,h9,aW⟩
  ·exact .inl ⟨f3.trans h2,h0,A,f2.trans h3⟩
  ·obtain⟨f5,f6⟩:=ho g h2;exact .inr ⟨g,cap,cur,f3.trans h2,f2.trans h3,hE.lr (amk.1 h5).1 h4,f5.trans h5,h6,h7,h8,λo=>f6 o (h9 o),aW⟩
 |front e k len=>
  obtain⟨h1,hm,h2⟩:=h;refine⟨f1.trans h1,hm,?_⟩;rcases h2 with⟨h2,A,h3⟩|⟨g,cap,cur,h2,h3,h4,h5,h6,h7,h8,h9⟩
  ·exact .inl ⟨f3.trans h2,A,f2.trans h3⟩
  ·obtain⟨f5,f6⟩:=ho g h2;exact .inr ⟨g,cap,cur,f3.trans h2,f2.trans h3,hE.lr (amk.1 h5).1 h4,f5.trans h5,h6,h7,h8,λo ho=>f6 o (h9 o ho)⟩
 |vec e k cs=>
  obtain⟨h1,hm,hk,h2⟩:=h;refine⟨f1.trans h1,hm,hk,?_⟩;rcases h2 with⟨h2,e2,A,h3⟩|⟨g,cap,cur,h2,h3,h4,h5,h6,h7,h8,h9,aW⟩
  ·exact .inl ⟨f3.trans h2,e2,A,f2.trans h3⟩
  ·obtain⟨f5,f6⟩:=ho g h2;exact .inr ⟨g,cap,cur,f3.trans h2,f2.trans h3,hE.lr (amk.1 h5).1 h4,f5.trans h5,h6,h7,h8,λo=>f6 o (h9 o),λi j c x u hc hx hu=>(aW i j c x u hc hx hu).keep hE hN⟩
theorem c8.put{G:Gh}{w:amY}{a:Act}{s:St}(h:c8 G w a s){v:amX}{x:AV}(hv:aH G w v x)(dst:amV Nat):c8 G w (a.put dst v) (s.put dst x):=by
 cases dst with
 |none=>exact h
 |some d=>
  by_cases hd:d<s.n
  ·have e1:s.put (some d) x={s with t:=(d,x)::s.t}:=qd hd x;rw[e1];refine⟨by simp [Act.put,h.size],λi=> ?_,h.inv,h.df⟩;by_cases hi:i=d
   ·subst hi;have:(a.tmps.setIfInBounds i v).getD i undef=v:=by simp [Array.getD,h.size,hd]
    simp only[Act.put,this,kZ,if_true];exact hv
   ·have:(a.tmps.setIfInBounds d v).getD i undef=a.tmps.getD i undef:=by simp [Array.getElem?_setIfInBounds_ne (Ne.symm hi)]
    simp only[Act.put,this,kZ,if_neg hi];exact h.tmp i
  ·have e1:s.put (some d) x=s:=CE hd x;have e2:a.put (some d) v=a:=by
    have:a.tmps.setIfInBounds d v=a.tmps:=Array.setIfInBounds_eq_of_size_le (by rw[h.size];omega);simp [Act.put,this]
   rw[e1,e2];exact h
theorem c8.move{G G':Gh}{w w':amY}{a:Act}{s:St}(h:c8 G w a s)(hE:bN G.N G w G' w')(hN:G.N<=G'.N){h':amT aq}(hi:bU G' w' h'):c8 G' w' a {s with h:=h'}:=
 ⟨h.size,λi=>(h.tmp i).keep hE hN,hi,h.df.keep hE⟩
theorem c8.ev{G:Gh}{w:amY}{a:Act}{s:St}(h:c8 G w a s)(x:Operand):aH G w (a.eval x) (ev s x):=by
 cases x with
 |tmp t=>exact h.tmp t
 |const v=>
  show aH G w v (OZ v);unfold OZ;split
  ·rename_i vs
   exact .agg vs _ (by simp) λi u c hu hc=>by
    simp only[amc,ams,hu,Option.map_some,Option.some.injEq]at hc;subst hc;exact .d (.v u)
  ·rename_i vs
   exact .aY vs _ (by simp) λi u c hu hc=>by
    simp only[amc,ams,hu,Option.map_some,Option.some.injEq]at hc;subst hc;exact .d (.v u)
  ·exact .d (.v v)
 |global g=>
  show aH G w (.pointer (some ⟨g,0,none⟩)) (match A4 xW g with|some l=> .bp [l.map .v] 0 0|none=> .dead);split
  ·next l hl=>
   have hg:=h.inv.gl.1 g l (UX hl);have:=aH.bp (G:=G) (w:=w) [l.map .v] 0 0 g 0 (λj=>l.getD j undef) (l.map .v) rfl (λj hj=> ?_) (λj d hd=> ?_)
   ·exact this
   ·rw[ama]at hj;have e:l[j]?=some l[j]:=al9 hj;rw[amp];refine⟨(hg j _ e).1,?_⟩;rw[(hg j _ e).2];simp [hj]
   ·rw[amc]at hd;cases e:l[j]? with
    |none=>rw[e]at hd;cases hd
    |some v=>
     rw[e]at hd;cases hd
     have:l.getD j undef=v:=by simp [List.getD,e]
     rw[this];exact .v v
  ·exact .dead _
 |func f=>exact .fn f #[] [] rfl λi u c hu=>by simp at hu
def Gh.de(G:Gh)(b:Nat):Gh:={G with N:=G.N+1,aR:=λn=>if n=G.N then b else G.aR n}
theorem sk(G:Gh)(w:amY)(hz:∀b,G.Z b->b<w.heap.size)(hS:∀b o,G.S b o->b<w.heap.size)(o:Obj):bN G.N G w (G.de w.heap.size) (w.alloc o):=
 ⟨by simp,λ_ _ h=>h,λb _ h=>World.cell?_alloc_lt _ _ _ (hS _ _ h),λn hn=>by simp [Gh.de,Nat.ne_of_lt hn],λ_ _=> .inl ⟨rfl,rfl⟩,hY rfl,
  λb hb=>Below.heap_alloc w o b (hz b hb),rfl,rfl,rfl,λ_ _ h=> .inl h⟩
theorem Yr{G:Gh}{w:amY}{h:amT aq}(hi:bU G w h)(vs:Array amX)(T:TypeId)(cs:amT AV)(hl:vs.size=cs.length)
 (hr:∀(i:Nat)(u:amX)(c:AV),vs[i]?=some u->cs[i]?=some c->aH G w u c):
 bU (G.de w.heap.size) (w.alloc (.cells vs T)) (h++[.cells cs])/\aH (G.de w.heap.size) (w.alloc (.cells vs T)) (.pointer (some ⟨w.heap.size,0,none⟩)) (.ptr h.length 0):=by
 have hE:=sk G w hi.z hi.S (.cells vs T);have hN:G.N<=(G.de w.heap.size).N:=Nat.le_succ _;have gr:(G.de w.heap.size).aR h.length=w.heap.size:=by simp [Gh.de,hi.len]
 have lx:∀n(B:aq),n<G.N->B.dV (G.de w.heap.size) n=B.dV G n:=λn B hn=>by
  cases B<;>simp [aq.dV,Gh.de,Nat.ne_of_lt hn]
 have fQ:∀n,n<G.N->bR (h++[.cells cs]) (G.de w.heap.size) n=bR h G n:=λn hn=>by
  have aN:n<h.length:=by rw[hi.len];exact hn
  unfold bR;rw[amf aN,al9 aN];exact lx n _ hn
 have sV:bR (h++[.cells cs]) (G.de w.heap.size) h.length=some w.heap.size:=by
  rw[dJ (B:= .cells cs) (by simp)];exact congrArg some gr
 refine⟨⟨by simp [Gh.de,hi.len],λb hb=>amt (hi.z b hb) hE.size,λb o hs=>amt (hi.S b o hs) hE.size,λn B hB=> ?_,λm n b hm hn=> ?_,hi.gl.keep hE⟩,?_⟩
 ·by_cases hn:n<h.length
  ·rw[amf hn]at hB;have eW:n<G.N:=hi.len▸hn;exact ep.keep eW hE hN ⟨rfl,rfl,rfl⟩ (λb hb=>⟨Below.heap_alloc w _ _ (hi.ownlt (n:=n) ((dJ hB).trans hb)),λo h=>h⟩) (hi.dk n B hB)
  ·have ku:n=h.length:=by
    have:=(al5.1 hB).1;simp at this;omega
   subst ku;simp at hB;subst hB;exact⟨by rw[gr];exact λhz=>amJ _ (hi.z _ hz),λo hs=>by rw[gr]at hs;exact amJ _ (hi.S _ _ hs),vs,T,by rw[gr];exact World.alloc_heap_new w _,hl,λi u c hu hc=>(hr i u c hu hc).keep hE hN⟩
 ·have key:∀n b,bR (h++[.cells cs]) (G.de w.heap.size) n=some b->(n<G.N/\bR h G n=some b)\/(n=h.length/\b=w.heap.size):=λn b hn=>by
   by_cases aN:n<G.N
   ·exact .inl ⟨aN,by rw[<-fQ n aN];exact hn⟩
   ·by_cases e:n=h.length
    ·subst e;rw[sV]at hn;cases hn;exact .inr ⟨rfl,rfl⟩
    ·rw[ux (amB (by simp;have:=hi.len;omega))]at hn;cases hn
  rcases key m b hm with⟨_,iu⟩|⟨rfl,rfl⟩<;>rcases key n _ hn with⟨_,eW⟩|⟨rfl,hb⟩
  ·exact hi.inj m n b iu eW
  ·have:=hi.ownlt iu;omega
  ·have:=hi.ownlt eW;omega
  ·rfl
 ·have:=aH.ptr (G:=G.de w.heap.size) (w:=w.alloc (.cells vs T)) h.length 0 (by simp [Gh.de,hi.len])
  rwa [gr]at this
theorem Kh(w:amY)(g:Nat)(cs:Array amX):(w.setRow g cs).heap.size=w.heap.size:=by simp [World.setRow]
theorem aiV(w:amY)(g:Nat)(cs:Array amX)(b o:Nat)(h:b≠g):(w.setRow g cs).cell? ⟨b,o,none⟩=w.cell? ⟨b,o,none⟩:=World.cell?_of_block (setRow_other w g b cs h)
theorem ajR{G:Gh}{w:amY}{g:Nat}(cs:Array amX)(hg:¬G.Z g)(hS:∀b o,G.S b o->(w.setRow g cs).cell? ⟨b,o,none⟩=w.cell? ⟨b,o,none⟩):bN G.N G w G (w.setRow g cs):=
 ⟨by rw[Kh];exact amg _,λ_ _ h=>h,hS,λ_ _=>rfl,λ_ _=> .inl ⟨rfl,rfl⟩,hY rfl,λb hb=>setRow_other w g b cs (λe=>hg (e▸hb)),rfl,rfl,rfl,λ_ _ h=> .inl h⟩
theorem DI(cs ys:amT AV)(off:Nat)(h:off+ys.length<=cs.length):(iM cs off ys).length=cs.length:=by
 simp [iM];omega
theorem afJ{R:amX->AV->Prop}(vs us:Array amX)(cs ys:amT AV)(off:Nat)(hl:vs.size=cs.length)(hu:us.size=ys.length)(hb:off+ys.length<=cs.length)
 (hr:∀(i:Nat)(u:amX)(c:AV),vs[i]?=some u->cs[i]?=some c->R u c) (oY:∀(i:Nat)(u:amX)(c:AV),us[i]?=some u->ys[i]?=some c->R u c):
 ∀(i:Nat)(u:amX)(c:AV),(vs.toList.take off++us.toList++vs.toList.drop (off+us.toList.length)).toArray[i]?=some u->(iM cs off ys)[i]?=some c->R u c:=by
 intro i u c h1 h2;have nU:us.toList.length=ys.length:=by rw[amC,hu]
 rw[nU]at h1;rw[List.getElem?_toArray]at h1;unfold iM at h2;simp only[amm]at h1 h2;have vC:vs.toList.length=cs.length:=by rw[amC,hl]
 by_cases h:i<off
 ·rw[amf (by simp;omega),List.getElem?_take_of_lt h]at h1;rw[amf (by simp;omega),List.getElem?_take_of_lt h]at h2;exact hr i u c (by rw[<-ams];exact h1) h2
 ·rw[aml (by simp;omega)]at h1 h2;simp only[List.length_take,vC]at h1 h2;rw[Nat.min_eq_left (by omega)]at h1 h2;by_cases h':i-off<ys.length
  ·rw[amf (by rw[nU];exact h')]at h1;rw[amf h']at h2;exact oY (i-off) u c (by rw[<-ams];exact h1) h2
  ·rw[aml (by rw[nU];omega),List.getElem?_drop]at h1;rw[aml (by omega),List.getElem?_drop]at h2;rw[nU]at h1;rw[show off+ys.length+(i-off-ys.length)=i by omega]at h1 h2;exact hr i u c (by rw[<-ams];exact h1) h2
theorem adh{P:amW}{G:Gh}{w:amY}{h:amT aq}(hi:bU G w h){n off:Nat}{cs:amT AV}(hn:h[n]?=some (.cells cs)){t:TypeId}{v:amX}{x:AV}
 (hv:aH G w v x) (hb:x.jz=true) (ht:gu P t=some x.cells.length) (ho:off+x.cells.length<=cs.length):
 ∃w',(storeVar t ⟨G.aR n,off,none⟩ v).run P w= .ok () w'/\bN G.N G w G w'/\bU G w' (h.set n (.cells (iM cs off x.cells))):=by
 obtain⟨hz,hS,vs,T,hh,hl,hr⟩:=hi.dk n _ hn;obtain⟨yA,Hn⟩:=hv.cells hb;obtain⟨i,jP,kF⟩:∃i,P.info? t=some i/\i.size=x.cells.length:=by
  unfold gu at ht;cases hq:P.info? t with
  |none=>rw[hq]at ht;cases ht
  |some i=>rw[hq]at ht;exact⟨i,rfl,by simpa using ht⟩
 have lT:=run_storeCells_at P (G.aR n) off T v.cells.toList 0 vs w hh (by rw[amC,yA,hl];simpa using ho) (λu hu=>by
  obtain⟨j,hj⟩:=List.mem_iff_getElem?.1 hu;have iQ:v.cells[j]?=some u:=by rw[<-ams];exact hj
  have Ac:j<x.cells.length:=by rw[<-yA];exact(amk.1 iQ).1
  exact(Hn j u _ iQ (al9 Ac)).2)
 simp only[Nat.add_zero]at lT;obtain⟨w',fa⟩:∃w',w'=w.setRow (G.aR n) (vs.toList.take off++v.cells.toList++vs.toList.drop (off+v.cells.toList.length)).toArray:=⟨_,rfl⟩;rw[<-fa]at lT;have hE:bN G.N G w G w':=by
  rw[fa];exact ajR _ hz λb o hs=>aiV w _ _ b o (λe=>hS o (e▸hs))
 have eG:∀m,m≠n->(h.set n (.cells (iM cs off x.cells)))[m]?=h[m]?:=λm hm=>by rw[amD (Ne.symm hm)]
 have lW:(h.set n (.cells (iM cs off x.cells)))[n]?=some (.cells (iM cs off x.cells)):=by
  rw[amy (al5.1 hn).1]
 have eF:∀m,bR (h.set n (.cells (iM cs off x.cells))) G m=bR h G m:=λm=>by
  by_cases e:m=n
  ·subst e;rw[dJ lW,dJ hn];rfl
  ·unfold bR;rw[eG m e]
 have lF:bR h G n=some (G.aR n):=dJ hn;refine⟨w',?_,hE,⟨by rw[List.length_set];exact hi.len,λb hb=>amt (hi.z b hb) hE.size,λb o hs=>amt (hi.S b o hs) hE.size,λm B hB=> ?_,λm m' b h1 h2=>hi.inj m m' b (by rw[<-eF];exact h1) (by rw[<-eF];exact h2),hi.gl.keep hE⟩⟩
 ·unfold storeVar;simp only[sizeOf,typeInfo,Sem.run_bind,yA];simp [jP,kF,lT]
 ·by_cases e:m=n
  ·subst e;rw[lW]at hB;cases hB
   refine⟨hz,hS,_,T,by rw[fa];exact setRow_heap w _ vs _ T _ hh,?_,λi u c hu hc=> ?_⟩
   ·rw[DI _ _ _ ho];have:v.cells.toList.length=x.cells.length:=by rw[amC];exact yA
    simp only[List.size_toArray,al6,List.length_take,List.length_drop,amC,hl,yA];omega
   ·exact(afJ (R:=aH G w) vs v.cells cs x.cells off hl yA ho hr (λi u c h1 h2=>(Hn i u c h1 h2).1) i u c hu hc).keep hE (amg _)
  ·rw[eG m e]at hB;have cQ:∀b,bR h G m=some b->b≠G.aR n:=λb hb eb=>e (hi.inj m n b hb (by rw[eb];exact lF));refine ep.keep (hi.lt hB) hE (amg _) ⟨rfl,rfl,rfl⟩ (λb hb=>⟨?_,λo h=>h⟩) (hi.dk m B hB);rw[fa];exact setRow_other w _ _ _ (cQ _ ((dJ hB).trans hb))
theorem dy.oP{S:Nat->Nat->Prop}{w:amY}{v:amX}{xs:amT (amT D)}(h:dy S w v (.sl xs)):
 ∃(A:amV Addr)(b o c k:Nat)(u:Nat->Nat->amX),v= .slice A xs.length c/\(xs≠ []->A=some ⟨b,o,none⟩)/\xs.length<=c/\c<=maxLen/\(∀x∈xs,x.length=k)/\
  (∀i j,i<xs.length->j<k->S b (o+i*k+j)/\w.cell? ⟨b,o+i*k+j,none⟩=some (u i j)/\(u i j).oneCell'=true)/\
  (∀(i j:Nat)(x:amT D)(d:D),xs[i]?=some x->x[j]?=some d->dy S w (u i j) d):=by
 cases h with
 |sl A b o c k xs u hA hc hm hk hS hu=>exact⟨A,b,o,c,k,u,rfl,hA,hc,hm,hk,hS,hu⟩
structure Rd(S:Nat->Nat->Prop)(w:World)(k:Nat)(xs:List (List D))(us:List Value):Prop where
 len:us.length=xs.length*k
 wid:∀x∈xs,x.length=k
 one:∀u∈us,u.oneCell'=true
 rel:∀(i j:Nat)(x:List D)(d:D),xs[i]?=some x->x[j]?=some d->∃u,us[i*k+j]?=some u/\dy S w u d
theorem Rd.keep{S S':Nat->Nat->Prop}{w w':amY}{k:Nat}{xs:amT (amT D)}{us:amT amX}(h:Rd S w k xs us)(hS:∀b o,S b o->S' b o)(hc:∀b o,S b o->w'.cell? ⟨b,o,none⟩=w.cell? ⟨b,o,none⟩):Rd S' w' k xs us:=
 ⟨h.len,h.wid,h.one,λi j x d hx hd=>let ⟨u,h1,h2⟩:=h.rel i j x d hx hd;⟨u,h1,h2.keep hS hc⟩⟩
theorem Rd.append{S:Nat->Nat->Prop}{w:amY}{k:Nat}{xs ys:amT (amT D)}{us vs:amT amX}(h:Rd S w k xs us)(h':Rd S w k ys vs):Rd S w k (xs++ys) (us++vs):=by
 refine⟨by rw[al6,al6,h.len,h'.len,Nat.add_mul],λx hx=> ?_,λu hu=> ?_,λi j x d hx hd=> ?_⟩
 ·rcases amH.1 hx with hx|hx
  ·exact h.wid x hx
  ·exact h'.wid x hx
 ·rcases amH.1 hu with hu|hu
  ·exact h.one u hu
  ·exact h'.one u hu
 ·by_cases hi:i<xs.length
  ·rw[amf hi]at hx;obtain⟨u,h1,h2⟩:=h.rel i j x d hx hd;exact⟨u,by rw[amf (al5.1 h1).1];exact h1,h2⟩
  ·rw[aml (by omega)]at hx;obtain⟨u,h1,h2⟩:=h'.rel (i-xs.length) j x d hx hd;refine⟨u,?_,h2⟩;have e:i*k+j=xs.length*k+((i-xs.length)*k+j):=by rw[Nat.sub_mul];have:=Nat.mul_le_mul_right k (Nat.le_of_not_lt hi);omega
   rw[e,aml (by rw[h.len];omega),h.len,Nat.add_sub_cancel_left];exact h1
theorem Rd.Bz{S:Nat->Nat->Prop}{w:amY}{k:Nat}{xs:amT (amT D)}{us:amT amX}(h:Rd S w k xs us)(b c:Nat)(hc:xs.length<=c)(hm:c<=maxLen)
 (hS:∀o,o<xs.length*k->S b o) (ik:∀(o:Nat)(u:amX),us[o]?=some u->w.cell? ⟨b,o,none⟩=some u):dy S w (.slice (some ⟨b,0,none⟩) xs.length c) (.sl xs):=by
 refine .sl _ b 0 c k xs (λi j=>us.getD (i*k+j) undef) (λ_=>rfl) hc hm h.wid (λi j hi hj=> ?_) (λi j x d hx hd=> ?_)
 ·have aN:i*k+j<xs.length*k:=by
   have:(i+1)*k<=xs.length*k:=Nat.mul_le_mul_right k hi;rw[Nat.add_mul]at this;omega
  have hg:us[i*k+j]?=some (us[i*k+j]'(by rw[h.len];exact aN)):=al9 (by rw[h.len];exact aN);rw[amp];refine⟨hS _ aN,?_,?_⟩
  ·rw[ik _ _ hg];simp [hg]
  ·simp only[List.getD_eq_getElem?_getD,hg,Option.getD_some];exact h.one _ (List.getElem_mem _)
 ·obtain⟨u,h1,h2⟩:=h.rel i j x d hx hd;simp only[List.getD_eq_getElem?_getD,h1,Option.getD_some];exact h2
theorem dy.rd{S:Nat->Nat->Prop}{w:amY}{v:amX}{xs:amT (amT D)}{k:Nat}(h:dy S w v (.sl xs))(gW:0<k)(hk:∀x∈xs,x.length=k):
 ∃us,Rd S w k xs us/\∃A c,v= .slice A xs.length c/\xs.length<=c/\c<=maxLen/\(xs≠ []->∃b o,A=some ⟨b,o,none⟩/\∀(j:Nat)(u:amX),us[j]?=some u->S b (o+j)/\w.cell? ⟨b,o+j,none⟩=some u):=by
 obtain⟨A,b,o,c,k',u,rfl,hA,hc,hm,ic,hS,hu⟩:=h.oP;by_cases hx:xs=[]
 ·subst hx;exact⟨[],⟨by simp,(λ_ h=>by cases h),(λ_ h=>by cases h),λi j x d hx=>by simp at hx⟩,A,c,rfl,hc,hm,λh=>absurd rfl h⟩
 ·have ek:k'=k:=by
   obtain⟨x,ox⟩:=List.exists_mem_of_ne_nil xs hx;rw[<-ic x ox,hk x ox]
  subst ek;refine⟨(List.range (xs.length*k')).map λt=>u (t / k') (t%k'),⟨by simp,hk,λv hv=> ?_,λi j x d hx hd=> ?_⟩,A,c,rfl,hc,hm,λcQ=>⟨b,o,hA cQ,λj v hv=> ?_⟩⟩
  ·obtain⟨t,ht,rfl⟩:=List.mem_map.1 hv;have qT:=List.mem_range.1 ht;exact(hS (t / k') (t%k') (Nat.div_lt_of_lt_mul (by rw[Nat.mul_comm];exact qT)) (Nat.mod_lt _ gW)).2.2
  ·have hj:j<k':=by rw[<-hk x (ami hx)];exact(al5.1 hd).1
   have hi:i<xs.length:=(al5.1 hx).1;refine⟨u i j,?_,hu i j x d hx hd⟩;have aN:i*k'+j<xs.length*k':=by
    have:(i+1)*k'<=xs.length*k':=Nat.mul_le_mul_right k' hi;rw[Nat.add_mul]at this;omega
   rw[amc,List.getElem?_range aN];simp only[Option.map_some,Option.some.injEq];rw[show(i*k'+j)/ k'=i by rw[Nat.add_comm,Nat.add_mul_div_right _ _ gW,Nat.div_eq_of_lt hj,amp],show(i*k'+j)%k'=j by rw[Nat.add_comm,Nat.add_mul_mod_self_right,Nat.mod_eq_of_lt hj]]
  ·rw[amc]at hv;by_cases hj:j<xs.length*k'
   ·rw[List.getElem?_range hj]at hv;simp only[Option.map_some,Option.some.injEq]at hv;subst hv;have:=hS (j / k') (j%k') (Nat.div_lt_of_lt_mul (by rw[Nat.mul_comm];exact hj)) (Nat.mod_lt _ gW);have e:o+j / k'*k'+j%k'=o+j:=by have:=Nat.div_add_mod j k';rw[Nat.mul_comm]at this;omega
    rw[e]at this;exact⟨this.1,this.2.1⟩
   ·rw[amB (by simp;omega)]at hv;cases hv
theorem dy.src{P:amW}{S:Nat->Nat->Prop}{w:amY}{v:amX}{xs:amT (amT D)}{k:Nat}(h:dy S w v (.sl xs))(gW:0<k)(hk:∀x∈xs,x.length=k){tx e':TypeId}(ht:P.underlying tx=some (.slice e')):
 ∃us,Rd S w k xs us/\Src P k tx v xs.length us w:=by
 obtain⟨us,hr,A,c,rfl,_,_,hA⟩:=h.rd gW hk;refine⟨us,hr,?_⟩;by_cases hx:xs=[]
 ·subst hx;have mv:us=[]:=List.eq_nil_of_length_eq_zero (by rw[hr.len];simp);subst mv;cases A with
  |none=>exact Src.ofNil w ht c
  |some a=>exact Src.ofSlice w ht a 0 c [] (by simp) (λj u hu=>by simp at hu) (λu hu=>by cases hu)
 ·obtain⟨b,o,rfl,hc⟩:=hA hx;exact Src.ofSlice w ht _ _ c us hr.len (λj u hu=>by rw[lQ];exact(hc j u hu).2) hr.one
def Gh.ib(G:Gh)(v:amX)(len:Nat):Gh:=
 {G with N:=G.N+1,sg:=λn=>if n=G.N then v else G.sg n,fl:=λn=>if n=G.N then len else G.fl n,ow:=λn=>if n=G.N then none else G.ow n}
theorem KJ{G:Gh}{w:amY}{h:amT aq}(hi:bU G w h){v:amX}{xs:amT (amT D)}(hv:dy G.S w v (.sl xs))(hf:∃A,v= .slice A xs.length xs.length)(e:TypeId)(k:Nat):
 bN G.N G w (G.ib v xs.length) w/\G.N<=(G.ib v xs.length).N/\bU (G.ib v xs.length) w (h++[.front e k xs.length])/\aH (G.ib v xs.length) w v (.own h.length xs):=by
 have cQ:∀n,n<G.N->n≠G.N:=λn hn=>Nat.ne_of_lt hn;have hE:bN G.N G w (G.ib v xs.length) w:=⟨amg _,λ_ _ h=>h,λ_ _ _=>rfl,λ_ _=>rfl,λn hn=> .inl ⟨by simp [Gh.ib,cQ n hn],by simp [Gh.ib,cQ n hn]⟩,hY rfl,λ_ _=>rfl,rfl,rfl,rfl,λ_ _ h=> .inl h⟩;have hN:G.N<=(G.ib v xs.length).N:=Nat.le_succ _;have SY:xs.length<=maxLen:=by
  obtain⟨A,b,o,c,k',u,_,_,h1,h2,_⟩:=hv.oP;exact amn h1 h2
 have lx:∀n(B:aq),n<G.N->B.dV (G.ib v xs.length) n=B.dV G n:=λn B hn=>by
  cases B<;>simp [aq.dV,Gh.ib,Nat.ne_of_lt hn]
 have hold:∀n b,bR (h++[.front e k xs.length]) (G.ib v xs.length) n=some b->bR h G n=some b:=λn b hb=>by
  by_cases hn:n<h.length
  ·unfold bR at hb ⊢;rw[amf hn,al9 hn]at hb;rw[al9 hn];rw[<-hb];exact(lx n _ (hi.len▸hn)).symm
  ·by_cases en:n=h.length
   ·subst en;rw[dJ (B:= .front e k xs.length) (by simp)]at hb;simp [aq.dV,Gh.ib,hi.len]at hb
   ·rw[ux (amB (by simp;omega))]at hb;cases hb
 refine⟨hE,hN,⟨by simp [Gh.ib,hi.len],hi.z,hi.S,λn B hB=> ?_,λm n b hm hn=>hi.inj m n b (hold m b hm) (hold n b hn),hi.gl.keep hE⟩,?_⟩
 ·by_cases hn:n<h.length
  ·rw[amf hn]at hB;have eW:n<G.N:=hi.len▸hn;exact ep.keep eW hE hN ⟨by simp [Gh.ib,cQ n eW],by simp [Gh.ib,cQ n eW],by simp [Gh.ib,cQ n eW]⟩ (λb hb=>⟨rfl,λo h=>h⟩) (hi.dk n B hB)
  ·have ku:n=h.length:=by
    have:=(al5.1 hB).1;simp at this;omega
   subst ku;simp at hB;subst hB;obtain⟨A,hA⟩:=hf;exact⟨by simp [Gh.ib,hi.len],SY, .inl ⟨by simp [Gh.ib,hi.len],A,by simp [Gh.ib,hi.len,hA]⟩⟩
 ·exact .own h.length xs (by simp [Gh.ib,hi.len]) hv (by simp [Gh.ib,hi.len]) (λ_=>by simp [Gh.ib,hi.len])
theorem P3{P:amW}{e k b:Nat}(hk:gu P e=some k)(hb:qk P e=some b):∃i,P.info? e=some i/\i.size=k/\i.bytes=b:=by
 unfold gu at hk;unfold qk at hb;cases hq:P.info? e with
 |none=>rw[hq]at hk;cases hk
 |some i=>rw[hq]at hk hb;exact⟨i,rfl,by simpa using hk,by simpa using hb⟩
def Gh.grow(G:Gh)(n:Nat)(S:Nat->Nat->Prop)(v:amX)(len:Nat)(ow:amV Nat):Gh:=
 {G with S:=S,sg:=λm=>if m=n then v else G.sg m,fl:=λm=>if m=n then len else G.fl m,ow:=λm=>if m=n then ow else G.ow m}
theorem Xv{G:Gh}{w w':amY}{h:amT aq}(hi:bU G w h){n e k len gX:Nat}(hn:h[n]?=some (.front e k len))(S:Nat->Nat->Prop)(v:amX)(g:Nat)
 (hE:bN G.N G w (G.grow n S v gX (some g)) w') (hg:g=w.heap.size\/G.ow n=some g) (hgw:g<w'.heap.size)
 (hS:∀b o,S b o->G.S b o\/b=g) (iN:∀b,b<w.heap.size->b≠g->w'.heap[b]?=w.heap[b]?)
 (hB:ep (G.grow n S v gX (some g)) w' n (.front e k gX)):bU (G.grow n S v gX (some g)) w' (h.set n (.front e k gX)):=by
 have eG:∀m,m≠n->(h.set n (.front e k gX))[m]?=h[m]?:=λm hm=>by rw[amD (Ne.symm hm)]
 have lW:(h.set n (.front e k gX))[n]?=some (.front e k gX):=by rw[amy (al5.1 hn).1]
 have lx:∀m(B:aq),m≠n->B.dV (G.grow n S v gX (some g)) m=B.dV G m:=λm B hm=>by
  cases B<;>simp [aq.dV,Gh.grow,hm]
 have eF:∀m,m≠n->bR (h.set n (.front e k gX)) (G.grow n S v gX (some g)) m=bR h G m:=λm hm=>by
  unfold bR;rw[eG m hm];cases h[m]? with
  |none=>rfl
  |some B=>exact lx m B hm
 have xk:∀m,m≠n->bR h G m≠some g:=λm hm hb=>by
  rcases hg with hg|hg
  ·have:=hi.ownlt hb;omega
  ·exact hm (hi.inj m n g hb ((dJ hn).trans hg))
 refine⟨by rw[List.length_set];exact hi.len,λb hb=>amt (hi.z b hb) hE.size,λb o hs=> ?_,λm B hm=> ?_,λm m' b h1 h2=> ?_,hi.gl.keep hE⟩
 ·rcases hS b o hs with hs|hs
  ·exact amt (hi.S b o hs) hE.size
  ·rw[hs];exact hgw
 ·by_cases em:m=n
  ·subst em;rw[lW]at hm;cases hm;exact hB
  ·rw[eG m em]at hm;refine ep.keep (hi.lt hm) hE (amg _) ⟨by simp [Gh.grow,em],by simp [Gh.grow,em],by simp [Gh.grow,em]⟩ (λb hb=> ?_) (hi.dk m B hm);have hr:bR h G m=some b:=(dJ hm).trans hb;have cQ:b≠g:=λe'=>xk m em (by rw[hr,e']);refine⟨iN _ (hi.ownlt hr) cQ,λo jw hs=> ?_⟩;rcases hS _ o hs with hs|hs
   ·exact jw hs
   ·exact cQ hs
 ·by_cases e1:m=n<;>by_cases e2:m'=n
  ·rw[e1,e2]
  ·subst e1;rw[eF m' e2]at h2;have:bR (h.set m (.front e k gX)) (G.grow m S v gX (some g)) m=some g:=by rw[dJ lW];simp [aq.dV,Gh.grow]
   rw[this]at h1;cases h1;exact absurd h2 (xk m' e2)
  ·subst e2;rw[eF m e1]at h1;have:bR (h.set m' (.front e k gX)) (G.grow m' S v gX (some g)) m'=some g:=by rw[dJ lW];simp [aq.dV,Gh.grow]
   rw[this]at h2;cases h2;exact absurd h1 (xk m e1)
  ·rw[eF m e1]at h1;rw[eF m' e2]at h2;exact hi.inj m m' b h1 h2
set_option maxHeartbeats 1000000 in
theorem U1{P:amW}{G:Gh}{w:amY}{h:amT aq}(hi:bU G w h){T tx ty e k dd:Nat}{i:TypeInfo}{z:amX}(hT:P.underlying T=some (.slice e))(kY:P.info? e=some i)(hz:i.zero=some z)(pv:i.size=k)(xf:i.bytes=dd)(j0:z.cells.size=k)
 (gW:0<k) {n:Nat} {xs ys:amT (amT D)} (hn:h[n]?=some (.front e k xs.length)) {u v:amX} (hu:aH G w u (.own n xs)) (nI:∀x∈xs,x.length=k)
 {us:amT amX} (hr:Rd G.S w k ys us) (hs:Src P k tx v ys.length us w) (xl:xs.length+ys.length<=maxLen) (pW:(xs.length+ys.length)*dd<=140737488355328):
 ∃r w' G',(Builtin.append_ #[T,tx] ty #[u,v]).run P w= .ok r w'/\bN G.N G w G' w'/\G.N<=G'.N/\bU G' w' (h.set n (.front e k (xs.length+ys.length)))/\aH G' w' r (.own n (xs++ys)):=by
 subst pv;subst xf;have nP:=hi.lt hn;obtain⟨lY,SY,hbr⟩:=hi.dk n _ hn;obtain⟨hp,YO⟩:dy G.S w u (.sl xs)/\u=G.sg n:=by
  cases hu with
  |own _ _ _ hp hle hf=>exact⟨hp,hf lY.symm⟩
 obtain⟨olds,zR,A,c,AK,lk,vz,hA⟩:=hp.rd gW nI;have Qe:h.set n (.front e i.size (xs.length+0))=h:=by
  rw[Nat.add_zero];refine List.ext_getElem? λm=> ?_;by_cases em:m=n
  ·subst em;rw[amy (al5.1 hn).1,hn]
  ·rw[amD (Ne.symm em)]
 by_cases hy:ys.length=0
 ·have jy:ys=[]:=List.eq_nil_of_length_eq_zero hy;subst jy;have mv:us=[]:=List.eq_nil_of_length_eq_zero (by rw[hr.len];simp);subst mv;have:=run_append_nothing (P:=P) w T tx ty e i hT kY A xs.length c lk v hs;refine⟨u,w,G,by rw[AK];exact this,bN.refl _ _ _,amg _,?_,by rw[amq];exact hu⟩;simp only[amh];rw[Qe];exact hi
 ·have W0:0<ys.length:=Nat.pos_of_ne_zero hy;have O6:xs.length+ys.length<=9223372036854775807:=by simp only[maxLen]at xl;omega
  have NQ:Rd G.S w i.size (xs++ys) (olds++us):=zR.append hr;have grow:c<xs.length+ys.length->∃r w' G',(Builtin.append_ #[T,tx] ty #[u,v]).run P w= .ok r w'/\bN G.N G w G' w'/\G.N<=G'.N/\bU G' w' (h.set n (.front e i.size (xs.length+ys.length)))/\aH G' w' r (.own n (xs++ys)):=by
   intro hg;have hold:(Builtin.firstCells i.size xs.length (.slice A xs.length c)).run P w.drew= .ok olds.toArray w.drew:=by
    by_cases hx:xs=[]
    ·subst hx;have:olds=[]:=List.eq_nil_of_length_eq_zero (by rw[zR.len];simp);subst this;cases A with
     |none=>exact run_firstCells_none _ _ _ _ _
     |some a=>exact run_firstCells_some _ _ _ _ _ _ [] (by simp) (λj u hu=>by simp at hu)
    ·obtain⟨b,o,rfl,hc⟩:=hA hx;exact run_firstCells_some _ _ _ _ _ _ olds zR.len (λj u hu=>by rw[lQ];exact(hc j u hu).2)
   have dK:=run_append_grow_src (P:=P) w T tx ty e i z hT kY hz A xs.length c olds hold v ys.length us hs hg (by omega) (growslice_fits hg pW);obtain⟨cap,jZ⟩:∃cap,cap=grownCap w (xs.length+ys.length) c e:=⟨_,rfl⟩;have kI:xs.length+ys.length<=cap:=by rw[jZ];exact grownCap_ge _ _ _ _
   have hle:cap<=maxLen:=by rw[jZ];exact grownCap_le_maxLen _ _ _ _ xl
   rw[<-jZ]at dK;obtain⟨cur,j8⟩:∃cur,cur=(olds++us).toArray++Builtin.zeroCells z.cells (cap-(xs.length+ys.length)):=⟨_,rfl⟩;rw[<-j8]at dK;obtain⟨w',fa⟩:∃w',w'=w.drew.alloc (.cells cur e):=⟨_,rfl⟩;rw[<-fa]at dK;have gO:cur.size=cap*i.size:=by
     have:=size_zeroCells z.cells (cap-(xs.length+ys.length));rw[j8,Array.size_append,this,List.size_toArray,NQ.len,j0,al6,<-Nat.add_mul]
     congr 1
     omega
   have fQ:w'.heap[w.heap.size]?=some (.cells cur e (0,0)):=by rw[fa];exact World.alloc_heap_new w.drew _
   have PE:∀b,b<w.heap.size->w'.heap[b]?=w.heap[b]?:=λb hb=>by rw[fa];exact Below.heap_alloc w.drew _ b hb
   have hsz:w'.heap.size=w.heap.size+1:=by rw[fa];simp
   obtain⟨S,hS⟩:∃S:Nat->Nat->Prop,S=λb o=>G.S b o\/(b=w.heap.size/\o<(xs.length+ys.length)*i.size):=⟨_,rfl⟩;have ik:∀b o,G.S b o->w'.cell? ⟨b,o,none⟩=w.cell? ⟨b,o,none⟩:=λb o hs=>World.cell?_of_block (PE b (hi.S b o hs));have hE:bN G.N G w (G.grow n S (.slice (some ⟨w.heap.size,0,none⟩) (xs.length+ys.length) cap) (xs.length+ys.length) (some w.heap.size)) w':=
    ⟨by rw[hsz];exact Nat.le_succ _,λb o h=>by show S b o;rw[hS];exact .inl h,ik,λ_ _=>rfl,
     λm _=>by
      by_cases em:m=n
      ·right;subst em;simp only[Gh.grow,if_true,lY];omega
      ·left;exact⟨by simp [Gh.grow,em],by simp [Gh.grow,em]⟩,
     hY rfl,λb hb=>PE b (hi.z b hb),by rw[fa];rfl,by rw[fa];rfl,by rw[fa];rfl,λb o hs=>by
      have cM:S b o:=hs;rw[hS]at cM;rcases cM with h|⟨rfl,_⟩
      ·exact .inl h
      ·exact .inr λhz=>amJ _ (hi.z _ hz)⟩
   have hP:dy S w' (.slice (some ⟨w.heap.size,0,none⟩) (xs++ys).length cap) (.sl (xs++ys)):=by
    refine(NQ.keep (S':=S) (w':=w') (λb o h=>by rw[hS];exact .inl h) ik).Bz w.heap.size cap (by rw[al6];exact kI) hle (λo ho=>by rw[hS];exact .inr ⟨rfl,by rw[al6]at ho;exact ho⟩) (λo x ho=> ?_);rw[cell_of_row w' w.heap.size o cur e (0,0) fQ,j8,Array.getElem?_append_left (by simp only[List.size_toArray];exact(al5.1 ho).1),List.getElem?_toArray];exact ho
   rw[al6]at hP;refine⟨_,w',_,by rw[AK];exact dK,hE,amg _,Xv hi hn S _ w.heap.size hE (.inl rfl) (by rw[hsz];exact amR _) (λb o hs=> ?_) (λb hb _=>PE b hb) ?_,?_⟩
   ·rw[hS]at hs;exact hs.imp id And.left
   ·refine⟨by simp [Gh.grow],xl, .inr ⟨w.heap.size,cap,cur,by simp [Gh.grow],by simp [Gh.grow],λhz=>amJ _ (hi.z _ hz),fQ,kI,hle,gO,λo ho hs=> ?_⟩⟩;have cM:S w.heap.size o:=hs;rw[hS]at cM;rcases cM with cM|⟨_,cM⟩
    ·have:=hi.S _ _ cM;omega
    ·omega
   ·exact .own n (xs++ys) nP hP (by simp [Gh.grow]) (λ_=>by simp [Gh.grow])
  rcases hbr with⟨jQ,A',kr⟩|⟨g,cap,cur,jQ,kr,FW,qg,MF,Nj,T4,YR⟩
  ·refine grow ?_;rw[YO,kr]at AK;cases AK
   omega
  ·have UB:=AK;rw[YO,kr]at UB;injection UB with eA0 _ e1;have e2:=e1.symm;subst e2;subst eA0;by_cases qL:xs.length+ys.length<=c
   ·
    have mC:xs.length*i.size+us.length<=cur.size:=by rw[hr.len,T4,<-Nat.add_mul];exact Nat.mul_le_mul_right _ qL
    have Ed:∀o,w.cell? ⟨g,o,none⟩=cur[o]?:=λo=>cell_of_row w g o cur e (0,0) qg;have yu:∀j,j<us.length->(w.cell? ⟨g,0+xs.length*i.size+j,none⟩).isSome=true:=λj hj=>by
     rw[Ed,amp,amr (by omega)];rfl
    have dK:=run_append_room_src (P:=P) w T tx ty e i hT kY g 0 xs.length c v ys.length us hs qL yu
     (λj hj=>by unfold World.frozen?;rw[qg];simp)
    rw[amp]at dK yu;obtain⟨w',fa⟩:∃w',w'=w.setCells g (xs.length*i.size) us:=⟨_,rfl⟩;rw[<-fa]at dK;have aht:g<w.heap.size:=(amk.1 qg).1;have lT:=run_storeCells_at P g (xs.length*i.size) e us 0 cur w qg (by simpa using mC) hs.one;have xF:=run_storeCells_cells (P:=P) g (xs.length*i.size) us 0 w (by simpa using yu) (λj hj=>by unfold World.frozen?;rw[qg];simp) hs.one;simp only[Nat.add_zero]at lT xF;rw[lT]at xF;have wm:w'=w.setRow g (cur.toList.take (xs.length*i.size)++us++cur.toList.drop (xs.length*i.size+us.length)).toArray:=by
      rw[fa];injection xF with _ e2;exact e2.symm
    obtain⟨pz,Mn⟩:∃pz:Array amX,pz=(cur.toList.take (xs.length*i.size)++us++cur.toList.drop (xs.length*i.size+us.length)).toArray:=⟨_,rfl⟩;rw[<-Mn]at wm;have n9:w'.heap[g]?=some (.cells pz e (0,0)):=by rw[wm];exact setRow_heap w g cur pz e _ qg
    have iN:∀b,b≠g->w'.heap[b]?=w.heap[b]?:=λb hb=>by rw[wm];exact setRow_other w g b pz hb
    have hsz:w'.heap.size=w.heap.size:=by rw[wm];exact Kh w g pz
    have fV:∀o,pz[o]?=if o<xs.length*i.size then cur[o]? else if o<xs.length*i.size+us.length then us[o-xs.length*i.size]? else cur[o]?:=λo=>by
     rw[Mn,List.getElem?_toArray,amm];have hl:cur.toList.length=cur.size:=amC;by_cases h1:o<xs.length*i.size
     ·rw[if_pos h1,amf (by simp;omega),List.getElem?_take_of_lt h1,ams]
     ·rw[if_neg h1,aml (by simp;omega)];simp only[List.length_take,hl];rw[Nat.min_eq_left (by omega)];by_cases h2:o<xs.length*i.size+us.length
      ·rw[if_pos h2,amf (by omega)]
      ·rw[if_neg h2,aml (by omega),List.getElem?_drop,show xs.length*i.size+us.length+(o-xs.length*i.size-us.length)=o by omega,ams]
    have ae1:pz.size=cur.size:=by
     rw[Mn];simp only[List.size_toArray,al6,List.length_take,List.length_drop,amC];omega
    have ik:∀b o,G.S b o->w'.cell? ⟨b,o,none⟩=w.cell? ⟨b,o,none⟩:=λb o hs=>by
     by_cases eb:b=g
     ·subst eb;have ho:o<xs.length*i.size:=Nat.lt_of_not_le λhle=>YR o hle hs;rw[Ed,cell_of_row w' b o pz e (0,0) n9,fV,if_pos ho]
     ·exact World.cell?_of_block (iN b eb)
    obtain⟨S,hS⟩:∃S:Nat->Nat->Prop,S=λb o=>G.S b o\/(b=g/\o<(xs.length+ys.length)*i.size):=⟨_,rfl⟩;have hE:bN G.N G w (G.grow n S (.slice (some ⟨g,0,none⟩) (xs.length+ys.length) c) (xs.length+ys.length) (some g)) w':=
     ⟨by rw[hsz];exact amg _,λb o h=>by show S b o;rw[hS];exact .inl h,ik,λ_ _=>rfl,
      λm _=>by
       by_cases em:m=n
       ·right;subst em;simp only[Gh.grow,if_true,lY];omega
       ·left;exact⟨by simp [Gh.grow,em],by simp [Gh.grow,em]⟩,
      hY rfl,λb hb=>iN b (λe=>FW (e▸hb)),by rw[wm];rfl,by rw[wm];rfl,by rw[wm];rfl,λb o hs=>by
       have cM:S b o:=hs;rw[hS]at cM;rcases cM with h|⟨rfl,_⟩
       ·exact .inl h
       ·exact .inr FW⟩
    have hP:dy S w' (.slice (some ⟨g,0,none⟩) (xs++ys).length c) (.sl (xs++ys)):=by
     refine(NQ.keep (S':=S) (w':=w') (λb o h=>by rw[hS];exact .inl h) ik).Bz g c (by rw[al6];exact qL) Nj (λo ho=>by rw[hS];exact .inr ⟨rfl,by rw[al6]at ho;exact ho⟩) (λo x ho=> ?_);rw[cell_of_row w' g o pz e (0,0) n9,fV];have kg:olds.length=xs.length*i.size:=zR.len;by_cases h1:o<xs.length*i.size
     ·rw[if_pos h1];rw[amf (by omega)]at ho;have hx:xs≠ []:=λe=>by subst e;simp at h1
      obtain⟨b,o',eA,hc⟩:=hA hx;cases eA
      have:=(hc o x ho).2;rw[amp,Ed]at this;exact this
     ·rw[if_neg h1];rw[aml (by omega),kg]at ho;have:=(al5.1 ho).1;rw[if_pos (by omega)];exact ho
    rw[al6]at hP;refine⟨_,w',_,by rw[AK];exact dK,hE,amg _,Xv hi hn S _ g hE (.inr jQ) (by rw[hsz];exact aht) (λb o hs=> ?_) (λb _ hb=>iN b hb) ?_,?_⟩
    ·rw[hS]at hs;exact hs.imp id And.left
    ·refine⟨by simp [Gh.grow],xl, .inr ⟨g,c,pz,by simp [Gh.grow],by simp [Gh.grow],FW,n9,qL,Nj,by rw[ae1,T4],λo ho hs=> ?_⟩⟩;have cM:S g o:=hs;rw[hS]at cM;rcases cM with cM|⟨_,cM⟩
     ·exact YR o (amn (Nat.mul_le_mul_right _ (amK _ _)) ho) cM
     ·omega
    ·exact .own n (xs++ys) nP hP (by simp [Gh.grow]) (λ_=>by simp [Gh.grow])
   ·exact grow (by omega)
def WF(r:amV Nat):Fence:={Fence.wide with round:=r}
def iF(N0:Nat)(G:Gh)(w:amY)(K:St->Prop)(a':Act)(w':amY):Prop:=∃G' s',bN N0 G w G' w'/\N0<=G'.N/\c8 G' w' a' s'/\K s'
section
variable {P:amW} {r:amV Nat} {n N0:Nat} {G:Gh} {w:amY} {a:Act} {s:St} {o:Oper} {K:St->Prop} {Q:Exit->Act->amY->Prop}
theorem l8(iP:∀c,o.op≠ .defer c)(hs:c8 G w a s)(cv:N0<=G.N){v:amX}{x:AV}{w':amY}{G':Gh}{h':amT aq}(hr:(execOp a.eval o).run P w= .ok (.value v) w')
 (hE:bN G.N G w G' w') (hN:G.N<=G'.N) (hi:bU G' w' h') (hv:aH G' w' v x) (hK:K ((s.wh h').put o.dst x)):o.wpIn (WF r) n P a w (iF N0 G w K) Q:=by
 refine⟨λ_ _=>trivial,?_⟩;rw[Oper.semAt_eq _ _ _ iP,hr];exact⟨G',_,hE.less cv,amn cv hN,((hs.move hE hN hi).put hv o.dst),hK⟩
theorem fx(iP:∀c,o.op≠ .defer c)(hs:c8 G w a s)(cv:N0<=G.N){v:amX}{x:AV}(hr:(execOp a.eval o).run P w= .ok (.value v) w)(hv:aH G w v x)(hK:K (s.put o.dst x)):
 o.wpIn (WF r) n P a w (iF N0 G w K) Q:=
 l8 iP hs cv hr (bN.refl _ _ _) (amg _) hs.inv hv hK
theorem My(iP:∀c,o.op≠ .defer c)(hs:c8 G w a s)(cv:N0<=G.N){w':amY}{G':Gh}{h':amT aq}(hr:(execOp a.eval o).run P w= .ok .skip w')
 (hE:bN G.N G w G' w') (hN:G.N<=G'.N) (hi:bU G' w' h') (hK:K ((s.wh h').put o.dst (.d (.v undef)))):o.wpIn (WF r) n P a w (iF N0 G w K) Q:=by
 refine⟨λ_ _=>trivial,?_⟩;rw[Oper.semAt_eq _ _ _ iP,hr];exact⟨G',_,hE.less cv,amn cv hN,((hs.move hE hN hi).put (.d (.v undef)) o.dst),hK⟩
theorem U4{t k:Nat}(h:gu P t=some k):∃i,P.info? t=some i/\i.size=k:=by
 unfold gu at h;cases hq:P.info? t with
 |none=>rw[hq]at h;cases h
 |some i=>rw[hq]at h;exact⟨i,rfl,by simpa using h⟩
theorem II{t:Nat}{z:amX}(h:iz P t=some z):∃i,P.info? t=some i/\i.zero=some z:=by
 unfold iz at h;cases hq:P.info? t with
 |none=>rw[hq]at h;cases h
 |some i=>rw[hq]at h;exact⟨i,rfl,by simpa using h⟩
theorem DT{t:Nat}{z:amX}(h:iz P t=some z)(w:amY):(zeroValue t).run P w= .ok z w:=by
 obtain⟨i,h1,h2⟩:=II h;simp [zeroValue,typeInfo,h1,h2]
theorem mn{t k:Nat}(h:gu P t=some k)(w:amY):(sizeOf t).run P w= .ok k w:=by
 obtain⟨i,h1,h2⟩:=U4 h;simp [sizeOf,typeInfo,h1,h2]
theorem CX{t:Nat}{g:Bool}(h:lZ P t=some g)(w:amY):(isAgg t).run P w= .ok g w:=by
 unfold lZ at h;cases hq:P.underlying t with
 |none=>rw[hq]at h;cases h
 |some d=>
  rw[hq]at h;unfold isAgg;rw[Sem.run_bind,run_underlying hq w];simp only[Option.map_some,Option.some.injEq]at h;subst h;cases d<;>rfl
theorem akx{t:Nat}(h:lZ P t=some true):∃d,P.underlying t=some d/\d.isRow=true:=by
 unfold lZ at h;cases hq:P.underlying t with
 |none=>rw[hq]at h;cases h
 |some d=>rw[hq]at h;refine⟨d,rfl,?_⟩;cases d<;>simp_all [TypeDesc.isRow]
theorem Wz{t:Nat}{C:AV->Prop}:∀(b o:Nat)(cs:amT AV)(off:Nat)(us:Nat->amX),(∀j,j<cs.length->w.cell? ⟨b,o+j,none⟩=some (us j))->(∀(j:Nat)(c:AV),cs[j]?=some c->aH G w (us j) c)->
 (match lZ P t,gu P t with
  |some true,some k=>fO (cq (off+k) cs.length) (C (.agg ((cs.drop off).take k)))
  |some false,some _=>match cs[off]? with
   |some c=>C c
   |none=>False
  |_,_=>False)->∃u x,(loadVar t ⟨b,o+off,none⟩).run P w= .ok u w/\aH G w u x/\C x:=by
 intro b o cs off us h1 h2 h3;split at h3
 ·rename_i k hg hk
  obtain⟨hlen,hC⟩:=bV.1 h3;rw[dq]at hlen;obtain⟨d,pQ,nv⟩:=akx hg;have J2:((List.range k).map λj=>us (off+j)).length=k:=by simp
  have dK:=run_loadVar_mid (P:=P) w b (o+off) t ((List.range k).map λj=>us (off+j)) d (λj u hu=>by
   rw[amc]at hu;by_cases hj:j<k
   ·rw[List.getElem?_range hj]at hu;simp only[Option.map_some,Option.some.injEq]at hu;subst hu;have:=h1 (off+j) (by omega)
    rwa [<-Nat.add_assoc]at this
   ·rw[amB (by simp;omega)]at hu;cases hu) pQ nv (by rw[J2];exact hk)
  refine⟨_,_,dK, .agg _ _ (by simp;omega) λi u c hu hc=> ?_,hC⟩;rw[List.getElem?_toArray,amc]at hu;rw[List.getElem?_take]at hc;split at hc
  ·rename_i pv
   rw[List.getElem?_range pv]at hu;simp only[Option.map_some,Option.some.injEq]at hu;subst hu;rw[List.getElem?_drop]at hc;exact h2 (off+i) c hc
  ·cases hc
 ·rename_i k hg hk
  split at h3
  ·rename_i c hc
   refine⟨us off,c,?_,h2 off c hc,h3⟩;unfold loadVar;rw[Sem.run_bind,CX hg w];simp only[Result.andThen_ok,Bool.false_eq_true,if_false];unfold load;simp only[Sem.run,h1 off (al5.1 hc).1]
  ·exact h3.elim
 ·exact h3.elim
theorem Yf{t:Nat}{p:AV}{v:amX}{C:AV->Prop}(hi:bU G w s.h)(hv:aH G w v p)(h:n8 P t s.h p C):∃u x,(Instr.loadAt t v).run P w= .ok u w/\aH G w u x/\C x:=by
 have key:=Wz (P:=P) (G:=G) (w:=w) (t:=t) (C:=C);unfold n8 sR at h;cases p with
 |ptr m off=>
  simp only at h;split at h
  ·rename_i cs hm
   obtain⟨_,_,vs,T,hh,hl,hr⟩:=hi.dk m _ hm;cases hv with
   |ptr _ _ xn=>
    obtain⟨u,x,h1,h2,h3⟩:=key (G.aR m) 0 cs off (λj=>vs.getD j undef) (λj hj=>by
     have iQ:j<vs.size:=by rw[hl];exact hj
     rw[amp,cell_of_row w (G.aR m) j vs T (0,0) hh];simp [Array.getD,iQ]) (λj c hc=>by
     have iQ:j<vs.size:=by rw[hl];exact(al5.1 hc).1
     exact hr j _ c (by simp [Array.getD,iQ]) hc) h
    rw[amp]at h1;exact⟨u,x,by simp [Instr.loadAt,Instr.sureAddr,h1],h2,h3⟩
  ·exact h.elim
 |bp xs i off=>
  simp only at h;split at h
  ·rename_i cs gO
   cases hv with
   |bp _ _ _ b o us x hx hS hu=>
    rw[hx]at gO;cases gO
    obtain⟨u,y,h1,h2,h3⟩:=key b o (cs.map .d) off us (λj hj=>(hS j (by simpa using hj)).2) (λj c hc=>by
     rw[amc]at hc;cases hd:cs[j]? with
     |none=>rw[hd]at hc;cases hc
     |some d=>rw[hd]at hc;cases hc;exact .d (hu j d hd)) h
    exact⟨u,y,by simp [Instr.loadAt,Instr.sureAddr,h1],h2,h3⟩
  ·exact h.elim
 |_=>exact h.elim
theorem aH.list{u:amX}{x:AV}{xs:amT (amT D)}(h:aH G w u x)(hx:x.fE=some xs):dy G.S w u (.sl xs):=by
 unfold AV.fE at hx;split at hx
 ·cases hx;cases h with|d h=>exact h
 ·cases hx;cases h with|own _ _ _ h=>exact h
 ·cases hx;cases h with|full _ h=>exact h
 ·cases hx
  cases h with
  |d h=>
   cases h with
   |v=>exact .sl none 0 0 0 0 [] (λ_ _=>undef) (λh=>absurd rfl h) (amg _) (by simp) (λ_ h=>by cases h) (λi j hi=>by simp at hi) (λi j x d hx=>by simp at hx)
 ·cases hx
theorem aH.int{u:amX}{x:AV}{z:Int}(h:aH G w u x)(hx:x.int?=some z):∃k,u= .int k z:=by
 unfold AV.int? at hx;split at hx
 ·rename_i k m
  cases hx
  cases h with
  |d h=>cases h with|v=>exact⟨k,rfl⟩
 ·cases hx
theorem aH.bool{u:amX}{t:Bool}(h:aH G w u (.d (.v (.bool t)))):u= .bool t:=by
 cases h with|d h=>cases h with|v=>rfl
theorem aH.val{u v:amX}(h:aH G w u (.d (.v v))):u=v:=by
 cases h with|d h=>cases h with|v=>rfl
theorem jN{T e k:Nat}(h:eX P T=some (e,k)):P.underlying T=some (.slice e)/\gu P e=some k:=by
 unfold eX at h;split at h
 ·rename_i e' he
  cases hq:gu P e' with
  |none=>rw[hq]at h;cases h
  |some k'=>rw[hq]at h;simp at h;obtain⟨rfl,rfl⟩:=h;exact⟨he,hq⟩
 ·cases h
theorem Lx{T m e k:Nat}(h:uA P T=some (m,e,k)):P.underlying T=some (.array m e)/\gu P e=some k:=by
 unfold uA at h;split at h
 ·rename_i m' e' he
  cases hq:gu P e' with
  |none=>rw[hq]at h;cases h
  |some k'=>rw[hq]at h;simp at h;obtain⟨rfl,rfl,rfl⟩:=h;exact⟨he,hq⟩
 ·cases h
theorem acZ{T:Nat}{x i:AV}{u v:amX}{C:AV->Prop}(hu:aH G w u x)(hv:aH G w v i)(h:rZ P T x i C):∃p y,(Instr.indexAt T u v).run P w= .ok p w/\aH G w p y/\C y:=by
 unfold rZ at h;split at h
 ·rename_i e k hT
  obtain⟨fJ,fZ⟩:=jN hT;split at h
  ·rename_i m off len cap k'
   split at h
   ·rename_i z hz
    obtain⟨tt,h0,aN,hC⟩:=bV.1 h;rw[beq_iff_eq]at tt;subst tt;obtain⟨kz,rfl⟩:=hv.int hz;cases hu with
    |row _ _ _ _ _ hm hl py=>
     have hN:(z.toNat:Int)=z:=Int.toNat_of_nonneg h0;refine⟨_,_,?_, .ptr m (off+z.toNat*k') hm,hC⟩;simp [Instr.indexAt,asIntOf,run_underlying fJ,h0,aN,mn fZ,lQ]
   ·exact h.elim
  ·split at h
   ·rename_i xs z lH hz
    obtain⟨h0,h⟩:=h;obtain⟨kz,rfl⟩:=hv.int hz;split at h
    ·rename_i c hc
     obtain⟨hk,hC⟩:=h;obtain⟨A,b,o,cc,k',us,rfl,hA,lk,vz,ic,hS,mv⟩:=(hu.list lH).oP;have aN:z.toNat<xs.length:=(al5.1 hc).1;have cQ:xs≠ []:=λe=>by subst e;simp at aN
     have ek:k'=k:=by rw[<-ic c (ami hc),hk]
     subst ek;rw[hA cQ];have Pc:z<(xs.length:Int):=by omega
     refine⟨_, .bp [c] 0 0,?_, .bp [c] 0 0 b (o+z.toNat*k') (us z.toNat) c rfl (λj hj=> ?_) (λj d hd=>mv _ _ _ _ hc hd),hC⟩
     ·simp [Instr.indexAt,asIntOf,run_underlying fJ,h0,Pc,mn fZ,lQ]
     ·have:=hS z.toNat j aN (by rw[hk]at hj;exact hj);exact⟨this.1,this.2.1⟩
    ·exact h.elim
   ·exact h.elim
 ·split at h
  ·rename_i m e k b off z hT hz
   obtain⟨h0,aN,hC⟩:=h;obtain⟨fJ,fZ⟩:=Lx hT;obtain⟨kz,rfl⟩:=hv.int hz;cases hu with
   |ptr _ _ hb=>
    refine⟨_,_,?_, .ptr b (off+z.toNat*k) hb,hC⟩;simp [Instr.indexAt,Instr.sureAddr,asIntOf,run_underlying fJ,h0,aN,mn fZ,lQ]
  ·rename_i m e k xs i' off z hT hz
   obtain⟨jI,h0,aN,h9⟩:=bV.1 h;rw[beq_iff_eq]at jI;subst jI;obtain⟨fJ,fZ⟩:=Lx hT;obtain⟨kz,rfl⟩:=hv.int hz;split at h9
   ·rename_i c hc
    split at h9
    ·rename_i d hd
     cases hu with
     |bp _ _ _ b o us c' fV hS mv=>
      rw[hc]at fV;cases fV
      have ZU:=(al5.1 hd).1;refine⟨_, .bp [[d]] 0 0,?_, .bp [[d]] 0 0 b (o+(off+z.toNat)) (λ_=>us (off+z.toNat)) [d] rfl (λj hj=> ?_) (λj d' jW=> ?_),h9⟩
      ·simp [Instr.indexAt,Instr.sureAddr,asIntOf,run_underlying fJ,h0,aN,mn fZ,lQ,Nat.add_assoc]
      ·simp at hj;subst hj;exact hS _ ZU
      ·match j with
       |0=>simp at jW;subst jW;exact mv _ _ hd
       |j+1=>simp at jW
    ·exact h9.elim
   ·exact h9.elim
  ·exact h.elim
theorem sy{T:Nat}(h:ia P T=true):P.underlying T=some .string:=by
 unfold ia at h;split at h
 ·assumption
 ·cases h
theorem aeH{T:Nat}{x:AV}{u:amX}{ty:Nat}{C:Nat->Prop}(hu:aH G w u x)(h:rJ P T x C):∃m:Nat,(Builtin.len_ #[T] ty #[u]).run P w= .ok (.int .i64 m) w/\C m:=by
 have Te:∀(A:amV Addr)(l c:Nat),(eX P T).isSome=true->(Builtin.len_ #[T] ty #[.slice A l c]).run P w= .ok (.int .i64 l) w:=by
  intro A l c hT;obtain⟨⟨e,k⟩,hT⟩:=Option.isSome_iff_exists.1 hT;simp [Builtin.len_,run_underlying (jN hT).1,goInt]
 unfold rJ at h;split at h
 ·rename_i b
  have:=hu.val;subst this;obtain⟨hT,hC⟩:=bV.1 h;exact⟨b.size,by simp [Builtin.len_,run_underlying (sy hT),goInt],hC⟩
 ·cases hu with
  |row=>exact⟨_,Te _ _ _ (bV.1 h).1,(bV.1 h).2⟩
 ·split at h
  ·rename_i xs lH
   obtain⟨A,b,o,c,k,us,rfl,_⟩:=(hu.list lH).oP;exact⟨_,Te _ _ _ (bV.1 h).1,(bV.1 h).2⟩
  ·exact h.elim
def Bj(a:Act)(x:amV Operand)(d m:Nat):Prop:=match x with|none=>m=d|some y=>∃k z,a.eval y= .int k z/\0<=z/\m=z.toNat
theorem sZ{x:amV Operand}{d:Nat}{C:Nat->Prop}(hs:c8 G w a s)(h:jS (ev s) x d C):∃m,C m/\Bj a x d m:=by
 cases x with
 |none=>exact⟨_,h,rfl⟩
 |some y=>
  unfold jS at h;simp only at h;split at h
  ·rename_i z hz
   obtain⟨k,hk⟩:=(hs.ev y).int hz;exact⟨_,h.2,k,z,hk,h.1,rfl⟩
  ·exact h.elim
theorem AA{k:IntKind}{z:Int}{y:Nat}{code:BoundsCode}(h0:0<=z)(h:z.toNat<=y)(w:amY):(Instr.sliceBound (.int k z) y code).run P w= .ok z.toNat w:=by
 have:z<=(y:Int):=by omega
 simp [Instr.sliceBound,asIntOf,h0,this]
theorem DH{lo hi:amV Operand}{len cap l h:Nat}{x6:Bool}(kg:Bj a lo 0 l)(qI:Bj a hi len h)(hl:l<=h)(hh:h<=cap)(w:amY):
 (Instr.sliceBounds x6 len cap (lo.map a.eval) (hi.map a.eval) none).run P w= .ok (l,h,cap) w:=by
 unfold Bj at kg qI;cases lo with
 |none=>
  subst kg;cases hi with
  |none=>subst qI;simp [Instr.sliceBounds]
  |some y=>
   obtain⟨k,z,e,h0,rfl⟩:=qI;simp [Instr.sliceBounds,e,AA h0 hh]
 |some x=>
  obtain⟨k',z',e',U6,rfl⟩:=kg;cases hi with
  |none=>subst qI;simp [Instr.sliceBounds,e',AA U6 hl]
  |some y=>
   obtain⟨k,z,e,h0,rfl⟩:=qI;simp [Instr.sliceBounds,e,e',AA h0 hh,AA U6 hl]
theorem dy.part{S:Nat->Nat->Prop}{v:amX}{xs:amT (amT D)}{k:Nat}(hp:dy S w v (.sl xs))(hk:∀c∈xs,c.length=k){l h:Nat}(hl:l<=h)(hh:h<=xs.length):
 ∃A c,v= .slice A xs.length c/\xs.length<=c/\dy S w (.slice (if c=l then A else A.map (·.add (l*k))) (h-l) (c-l)) (.sl ((xs.take h).drop l)):=by
 obtain⟨A,b,o,c,k',us,rfl,hA,lk,vz,ic,hS,mv⟩:=hp.oP;refine⟨A,c,rfl,lk,?_⟩;have hlen:((xs.take h).drop l).length=h-l:=by simp;omega
 rw[<-hlen];by_cases hx:xs=[]
 ·subst hx;have e:((([]:amT (amT D)).take h).drop l)=[]:=by simp
  rw[e];exact .sl _ 0 0 (c-l) 0 [] (λ_ _=>undef) (λh=>absurd rfl h) (Nat.zero_le _) (by omega) (λ_ h=>by cases h) (λi j hi=>by simp at hi) (λi j x d hx=>by simp at hx)
 ·have ek:k'=k:=by
   obtain⟨x,ox⟩:=List.exists_mem_of_ne_nil xs hx;rw[<-ic x ox,hk x ox]
  subst ek;have eG:∀i,i<h-l->((xs.take h).drop l)[i]?=xs[l+i]?:=λi hi=>by
   rw[List.getElem?_drop,List.getElem?_take_of_lt (by omega)]
  refine .sl _ b (o+l*k') (c-l) k' _ (λi j=>us (l+i) j) (λcQ=> ?_) (by rw[hlen];omega) (by omega) (λx hx=>hk x (List.mem_of_mem_take (List.mem_of_mem_drop hx))) (λi j hi hj=> ?_) (λi j x d hx hd=> ?_)
  ·have P5:0<((xs.take h).drop l).length:=List.length_pos_iff.2 cQ;rw[hlen]at P5;rw[if_neg (by omega),hA hx];simp [lQ]
  ·rw[hlen]at hi;have:=hS (l+i) j (by omega) hj;rw[Nat.add_mul,<-Nat.add_assoc]at this;exact this
  ·have hi:=(al5.1 hx).1;rw[hlen]at hi;rw[eG i hi]at hx;exact mv _ _ _ _ hx hd
theorem adG{T:Nat}{x:AV}{u:amX}{lo hi mx:amV Operand}{C:AV->Prop}(hs:c8 G w a s)(hu:aH G w u x)(h:ug P T (ev s) x lo hi mx C):
 ∃p y,(Instr.sliceAt T u (lo.map a.eval) (hi.map a.eval) (mx.map a.eval)).run P w= .ok p w/\aH G w p y/\C y:=by
 unfold ug at h;split at h
 ·split at h
  ·rename_i b
   obtain⟨hT,h⟩:=bV.1 h;have hT:=sy hT;have:=hu.val;subst this;obtain⟨m,h,hm⟩:=sZ hs h;obtain⟨vA,h⟩:=h;obtain⟨l,h,hl⟩:=sZ hs h;obtain⟨sE,h⟩:=h;refine⟨_,_,?_, .d (.v _),h⟩;have hb:=DH (P:=P) (x6:=false) hl hm sE vA w;simp [Instr.sliceAt,Instr.slice,run_underlying hT,hb]
  ·rename_i m off
   split at h
   ·rename_i c e k hT
    rw[bV,dq]at h;obtain⟨vz,h⟩:=h;have vz:c<=maxLen:=by unfold maxLen;omega
    obtain⟨fJ,fZ⟩:=Lx hT;obtain⟨hh,h,hm⟩:=sZ hs h;obtain⟨vA,h⟩:=bV.1 h;rw[dq]at vA;obtain⟨l,h,hl⟩:=sZ hs h;obtain⟨sE,h⟩:=bV.1 h;simp only[al7,dq,Bool.not_eq_true',<-Bool.not_eq_true,Nat.not_le]at sE;obtain⟨sE,lk⟩:=sE;have hb:=DH (P:=P) (x6:=false) hl hm sE vA w;cases hu with
    |ptr _ _ xn=>
     refine⟨_,_,?_, .row m (off+l*k) (hh-l) (c-l) k xn (by omega) (by omega),h⟩;simp [Instr.sliceAt,Instr.sureAddr,run_underlying fJ,hb,mn fZ,lQ,Nat.ne_of_gt lk]
   ·exact h.elim
  ·split at h
   ·rename_i xs e k lH hT
    obtain⟨hk,h⟩:=h;obtain⟨fJ,fZ⟩:=jN hT;obtain⟨hh,h,hm⟩:=sZ hs h;obtain⟨vA,h⟩:=h;obtain⟨l,h,hl⟩:=sZ hs h;obtain⟨sE,h⟩:=h;obtain⟨A,c,rfl,lk,hp⟩:=(hu.list lH).part hk sE vA;have hb:=DH (P:=P) (x6:=true) hl hm sE (amn vA lk) w;refine⟨_,_,?_, .d hp,h⟩;simp [Instr.sliceAt,Instr.slice,run_underlying fJ,hb,mn fZ]
   ·exact h.elim
 ·rename_i y
  split at h
  case h_2=>exact h.elim
  rename_i yh
  split at h
  ·rename_i xs e k lH hT
   obtain⟨hk,h⟩:=h;obtain⟨fJ,fZ⟩:=jN hT;obtain⟨c',h3,hc⟩:=sZ hs h;obtain⟨gh,h3⟩:=h3;obtain⟨hh,h4,hm⟩:=sZ hs h3;obtain⟨rfl,h5⟩:=h4;clear h h3;obtain⟨k1,z1,e1,p1,q1⟩:=hc;obtain⟨k2,z2,e2,p2,q2⟩:=hm;obtain⟨A,c,rfl,lk,hp⟩:=(hu.list lH).part hk (Nat.zero_le hh) gh;have hp':dy G.S w (.slice A hh hh) (.sl (xs.take hh)):=by
    have h1:(if c=0 then A else A.map (·.add (0*k)))=A:=by
     split
     ·rfl
     ·cases A<;>simp [Addr.add]
    rw[h1,amE]at hp;obtain⟨A',b,o,c2,k',us,e,r1,r2,r3,r4,r5,r6⟩:=hp.oP;have hl:(xs.take hh).length=hh:=by simp;omega
    injection e with eA e3 e4;subst eA;have:=dy.sl (S:=G.S) (w:=w) A b o hh k' (xs.take hh) us r1 (by omega) (by omega) r4 r5 r6
    rwa [hl]at this
   refine⟨.slice A hh hh, .full (xs.take hh),?_, .full _ hp' ⟨A,by simp;omega⟩,h5⟩;have b1:(Instr.sliceBound (.int k1 z1) c .slice3Acap).run P w= .ok hh w:=by rw[AA p1 (by omega),q1]
   have b2:(Instr.sliceBound (.int k2 z2) hh .slice3B).run P w= .ok hh w:=by rw[AA p2 (by omega),<-q2]
   simp only[Option.map_some,Option.map_none,e1,e2];have hA:A.map (·.add 0)=A:=by cases A<;>simp [Addr.add]
   simp [Instr.sliceAt,Instr.slice,Instr.sliceBounds,run_underlying fJ,b1,b2,mn fZ,hA]
  ·exact h.elim
theorem Fy:∀{cs:amT AV}{ds:amT D},mM cs=some ds->ds.length=cs.length/\∀(i:Nat)(c:AV)(d:D),cs[i]?=some c->ds[i]?=some d->c.wx=some d
 |[],ds,h=>by simp [mM]at h;subst h;simp
 |c::cs,ds,h=>by
  unfold mM at h;split at h
  ·rename_i d l hd hl
   cases h
   obtain⟨h1,h2⟩:=Fy hl;refine⟨by simp [h1],λi c' d' hc jW=> ?_⟩
   match i with
   |0=>simp at hc jW;subst hc;subst jW;exact hd
   |i+1=>exact h2 i c' d' (by simpa using hc) (by simpa using jW)
  ·cases h
theorem dy.tI{S:Nat->Nat->Prop}{w:amY}{u:amX}{x:D}(h:dy S w u x):dy S w u x.tI:=by
 unfold D.tI;split
 ·cases h with
  |v=>exact .sl none 0 0 0 0 [] (λ_ _=>undef) (λh=>absurd rfl h) (amg _) (Nat.zero_le _) (λ_ h=>absurd h amL) (λi j hi=>absurd hi (amx _)) (λi j x d hx=>by simp at hx)
 ·exact h
theorem aH.Ht{u:amX}{x:AV}{d:D}(h:aH G w u x)(hx:x.wx=some d):dy G.S w u d:=by
 unfold AV.wx at hx;split at hx
 ·cases hx;cases h with|d h=>exact h.tI
 ·cases hx;cases h with|own _ _ _ h=>exact h
 ·cases hx;cases h with|full _ h=>exact h
 ·cases hx
theorem se(k:Nat):∀(m:Nat)(l:amT D),(nN k m l).length=m
 |0,_=>rfl
 |m+1,l=>by simp [nN,se k m]
theorem Nn(k:Nat):∀(m:Nat)(l:amT D)(i:Nat),i<m->(nN k m l)[i]?=some ((l.drop (i*k)).take k)
 |0,_,_,h=>by omega
 |m+1,l,0,_=>by simp [nN]
 |m+1,l,i+1,h=>by
  have:=Nn k m (l.drop k) i (by omega);rw[nN,amG,this,List.drop_drop,Nat.add_mul,Nat.one_mul,Nat.add_comm k]
theorem WT{k m:Nat}{us:amT amX}{ds:amT D}(hl:ds.length=m*k)(hu:us.length=m*k)(h1:∀u∈us,u.oneCell'=true)
 (hr:∀(i:Nat)(u:amX)(d:D),us[i]?=some u->ds[i]?=some d->dy G.S w u d):Rd G.S w k (nN k m ds) us:=by
 have hb:∀i,i<m->(i+1)*k<=m*k:=λi hi=>Nat.mul_le_mul_right k hi;refine⟨by rw[se,hu],λx hx=> ?_,h1,λi j x d hx hd=> ?_⟩
 ·obtain⟨i,hi⟩:=List.mem_iff_getElem?.1 hx;have JV:i<m:=by have:=(al5.1 hi).1;rwa [se]at this
  rw[Nn k m ds i JV]at hi;cases hi
  have:=hb i JV;rw[Nat.add_mul]at this;simp;omega
 ·have JV:i<m:=by have:=(al5.1 hx).1;rwa [se]at this
  rw[Nn k m ds i JV]at hx;cases hx
  rw[List.getElem?_take]at hd;split at hd
  ·rw[List.getElem?_drop]at hd;have:=(al5.1 hd).1;have aN:i*k+j<us.length:=by omega
   exact⟨us[i*k+j],al9 aN,hr _ _ _ (al9 aN) hd⟩
  ·cases hd
theorem ak6{k U e':Nat}{y:AV}{v:amX}{C:amT (amT D)->Prop}(hi:bU G w s.h)(hv:aH G w v y)(hk:0<k)(hU:P.underlying U=some (.slice e'))(h:tB s.h k y C):
 ∃ys us,Rd G.S w k ys us/\Src P k U v ys.length us w/\C ys:=by
 unfold tB at h;split at h
 ·rename_i m off len cap k'
  split at h
  ·rename_i cs hm
   split at h
   ·rename_i ds qY
    obtain⟨fD,hC⟩:=bV.1 h;simp only[al7,beq_iff_eq,dq]at fD;obtain⟨⟨rfl,hlen⟩,jn⟩:=fD;obtain⟨h1,h2⟩:=Fy qY;obtain⟨_,_,vs,T,hh,hl,hr⟩:=hi.dk m _ hm;cases hv with
    |row _ _ _ _ _ xn lk py=>
     have hdl:ds.length=len*k':=by rw[h1];simp;omega
     have nU:((vs.toList.drop off).take (len*k')).length=len*k':=by simp;omega
     have AZ:∀(i:Nat)(u:amX)(c:AV),((vs.toList.drop off).take (len*k'))[i]?=some u->((cs.drop off).take (len*k'))[i]?=some c->aH G w u c:=λi u c hu hc=>by
      rw[List.getElem?_take]at hu hc;split at hu
      ·rename_i pv
       rw[if_pos pv]at hc;rw[List.getElem?_drop]at hu hc;exact hr _ u c (by rw[<-ams];exact hu) hc
      ·cases hu
     have gh:((cs.drop off).take (len*k')).length=len*k':=by simp;omega
     have X9:∀u∈(vs.toList.drop off).take (len*k'),u.oneCell'=true:=λu hu=>by
      obtain⟨i,hi⟩:=List.mem_iff_getElem?.1 hu;have jx:i<len*k':=by rw[<-nU];exact(al5.1 hi).1
      have Cp:=al9 (l:=(cs.drop off).take (len*k')) (i:=i) (by rw[gh];exact jx);exact(AZ i u _ hi Cp).kD (amv.1 jn _ (ami Cp))
     have vi:=WT (G:=G) (w:=w) (k:=k') (m:=len) hdl nU X9 (λi u d hu hd=>by
      have jx:i<len*k':=by rw[<-nU];exact(al5.1 hu).1
      have Cp:=al9 (l:=(cs.drop off).take (len*k')) (i:=i) (by rw[gh];exact jx);exact(AZ i u _ hu Cp).Ht (h2 i _ d Cp hd))
     refine⟨_,_,vi,?_,hC⟩;rw[se];refine Src.ofSlice w hU _ len cap _ nU (λj u hu=> ?_) X9;rw[List.getElem?_take]at hu;split at hu
     ·rw[List.getElem?_drop,ams]at hu;rw[lQ,cell_of_row w _ _ vs T (0,0) hh];exact hu
     ·cases hu
   ·exact h.elim
  ·exact h.elim
 ·split at h
  ·rename_i ys jy
   obtain⟨us,h1,h2⟩:=(hv.list jy).src (P:=P) hk h.1 hU;exact⟨ys,us,h1,h2,h.2⟩
  ·exact h.elim
theorem Ci:dy G.S w (.slice none 0 0) (.sl []):=
 .sl none 0 0 0 0 [] (λ_ _=>undef) (λh=>absurd rfl h) (amg _) (by simp) (λ_ h=>by cases h) (λi j hi=>by simp at hi) (λi j x d hx=>by simp at hx)
theorem abT(h:amT aq)(x y:aq):(h++[x]).set h.length y=h++[y]:=by simp
theorem alm{T U ty e':Nat}{x y:AV}{u v:amX}{C:AV->amT aq->Prop}(hi:bU G w s.h)(hu:aH G w u x)(hv:aH G w v y)(hU:P.underlying U=some (.slice e'))(h:uo P T s.h x y C):
 ∃p w' G' q h',(Builtin.append_ #[T,U] ty #[u,v]).run P w= .ok p w'/\bN G.N G w G' w'/\G.N<=G'.N/\bU G' w' h'/\aH G' w' p q/\C q h':=by
 unfold uo at h;split at h
 ·rename_i e k hT
  obtain⟨fJ,fZ⟩:=jN hT;split at h
  ·rename_i z dd hz pW
   obtain⟨fD,h⟩:=bV.1 h;simp only[al7,beq_iff_eq,dq,amC]at fD;obtain⟨hk,j0⟩:=fD;obtain⟨i,jP,kF,Je⟩:=P3 fZ pW;have YM:i.zero=some z:=by
    obtain⟨i',h1,h2⟩:=II hz;rw[jP]at h1;cases h1;exact h2
   obtain⟨ys,us,hr,hs,h2⟩:=ak6 hi hv hk hU h;clear h;have fresh:∀(xs:amT (amT D)),dy G.S w u (.sl xs)->(∃A,u= .slice A xs.length xs.length)->(∀c∈xs,c.length=k)->xs.length+ys.length<=maxLen->(xs.length+ys.length)*dd<=140737488355328->
    C (.own s.h.length (xs++ys)) (s.h++[.front e k (xs.length+ys.length)])->
    ∃p w' G' q h',(Builtin.append_ #[T,U] ty #[u,v]).run P w= .ok p w'/\bN G.N G w G' w'/\G.N<=G'.N/\bU G' w' h'/\aH G' w' p q/\C q h':=by
    intro xs hp hf nI hm hb hC;obtain⟨a1,a2,a3,a4⟩:=KJ hi hp hf e k;obtain⟨p,w',G',r1,r2,r3,r4,r5⟩:=U1 (P:=P) (ty:=ty) a3 fJ jP YM kF Je j0 hk (n:=s.h.length) (xs:=xs) (ys:=ys) (by simp) a4 nI (hr.keep a1.S a1.cell) hs hm hb;rw[abT]at r4;exact⟨p,w',G',_,_,r1,a1.trans (r2.less a2),amn a2 r3,r4,r5,hC⟩
   split at h2
   ·rename_i m xs
    split at h2
    ·rename_i e2 k2 len hm
     obtain⟨fD,rfl,nI,py,hb,hC⟩:=bV.1 h2;simp only[al7,beq_iff_eq]at fD;obtain⟨rfl,rfl⟩:=fD;obtain⟨p,w',G',r1,r2,r3,r4,r5⟩:=U1 (P:=P) (ty:=ty) hi fJ jP YM kF Je j0 hk hm hu nI hr hs py hb;exact⟨p,w',G',_,_,r1,r2,r3,r4,r5,hC⟩
    ·exact h2.elim
   ·have:=hu.val;subst this;obtain⟨py,hb,hC⟩:=h2;exact fresh [] Ci ⟨none,rfl⟩ (λ_ h=>by cases h) (by simpa using py) (by simpa using hb) (by simpa using hC)
   ·rename_i xs
    obtain⟨nI,py,hb,hC⟩:=h2;cases hu with
    |full _ hp hf=>exact fresh xs hp hf nI py hb hC
   ·exact h2.elim
  ·exact h.elim
 ·exact h.elim
end
theorem R0(off:Nat):∀(l:amT amX)(k:Nat)(cs:Array amX),((l.zipIdx k).foldl (λcs(p:amX×Nat)=>cs.setIfInBounds (off+p.2) p.1) cs).size=cs.size/\
 ∀i,off+k+l.length<=cs.size->((l.zipIdx k).foldl (λcs(p:amX×Nat)=>cs.setIfInBounds (off+p.2) p.1) cs)[i]?=if off+k<=i/\i<off+k+l.length then l[i-(off+k)]? else cs[i]?
 |[],k,cs=>⟨rfl,λi _=>by
    have h:¬(off+k<=i/\i<off+k+([]:amT amX).length):=by simp
    rw[if_neg h];rfl⟩
 |u::l,k,cs=>by
  obtain⟨h1,h2⟩:=R0 off l (k+1) (cs.setIfInBounds (off+k) u);simp only[List.zipIdx_cons,List.foldl_cons];refine⟨by rw[h1];simp,λi hi=> ?_⟩;simp only[al8]at hi ⊢;rw[h2 i (by simp;omega)];by_cases ha:off+(k+1)<=i/\i<off+(k+1)+l.length
  ·rw[if_pos ha,if_pos ⟨by omega,by omega⟩];rw[show i-(off+k)=i-(off+(k+1))+1 by omega,amG]
  ·rw[if_neg ha];by_cases hb:i=off+k
   ·subst hb;rw[if_pos ⟨amg _,by omega⟩,Nat.sub_self,List.getElem?_cons_zero,Array.getElem?_setIfInBounds_self_of_lt (by omega)]
   ·rw[if_neg (by omega),Array.getElem?_setIfInBounds_ne (Ne.symm hb)]
section
variable {P:amW} {G:Gh} {w:amY}
structure Row(G:Gh)(w:World)(vs:Array Value)(cs:List AV):Prop where
 len:vs.size=cs.length
 rel:∀(i:Nat)(u:Value)(c:AV),vs[i]?=some u->cs[i]?=some c->aH G w u c
 one:∀(i:Nat)(u:Value),vs[i]?=some u->u.oneCell'=true
theorem acO{vs us:Array amX}{cs ys:amT AV}(h:Row G w vs cs)(h':Row G w us ys){off:Nat}(hb:off+ys.length<=cs.length):
 Row G w (us.zipIdx.foldl (λcs(p:amX×Nat)=>cs.setIfInBounds (off+p.2) p.1) vs) (iM cs off ys):=by
 have e:us.zipIdx.foldl (λcs(p:amX×Nat)=>cs.setIfInBounds (off+p.2) p.1) vs=(us.toList.zipIdx 0).foldl (λcs(p:amX×Nat)=>cs.setIfInBounds (off+p.2) p.1) vs:=by
  rw[<-Array.foldl_toList,Array.toList_zipIdx]
 obtain⟨h1,h2⟩:=R0 off us.toList 0 vs;rw[<-e]at h1 h2;have hl:us.toList.length=ys.length:=by rw[amC,h'.len]
 have hle:off+0+us.toList.length<=vs.size:=by rw[hl,h.len];omega
 have hs:∀i,(iM cs off ys)[i]?=if off+0<=i/\i<off+0+us.toList.length then ys[i-off]? else cs[i]?:=λi=>by
  unfold iM;rw[amm];by_cases ha:i<off
  ·rw[amf (by simp;omega),List.getElem?_take_of_lt ha,if_neg (by omega)]
  ·rw[aml (by simp;omega)];simp only[List.length_take];rw[Nat.min_eq_left (by omega)];by_cases hb:i-off<ys.length
   ·rw[amf hb,if_pos (by omega)]
   ·rw[aml (by omega),List.getElem?_drop,if_neg (by omega),show off+ys.length+(i-off-ys.length)=i by omega]
 refine⟨by rw[h1,DI _ _ _ hb,h.len],λi u c hu hc=> ?_,λi u hu=> ?_⟩
 ·rw[h2 i hle]at hu;rw[hs]at hc;split at hu
  ·rename_i hp
   rw[if_pos hp]at hc;exact h'.rel _ _ _ (by rw[<-ams];exact hu) hc
  ·rename_i hp
   rw[if_neg hp]at hc;exact h.rel _ _ _ hu hc
 ·rw[h2 i hle]at hu;split at hu
  ·exact h'.one _ _ (by rw[<-ams];exact hu)
  ·exact h.one _ _ hu
theorem aH.XB{u:amX}{x:AV}(h:aH G w u x)(hb:x.jz=true):Row G w u.cells x.cells:=by
 obtain⟨h1,h2⟩:=h.cells hb;refine⟨h1,λi v c hv hc=>(h2 i v c hv hc).1,λi v hv=> ?_⟩;have aN:i<x.cells.length:=by rw[<-h1];exact(amk.1 hv).1
 exact(h2 i v _ hv (al9 aN)).2
theorem MZ(place:Nat->amV (Nat×Nat))(places:amT (Nat×Nat))(hp:∀i pl,places[i]?=some pl->place i=some pl):∀(ps:amT (Nat×AV))(qs:amT (Nat×amX))(cs cD:amT AV)(vs:Array amX),Row G w vs cs->
 qs.length=ps.length->(∀(i:Nat)(p:Nat×AV)(q:Nat×amX),ps[i]?=some p->qs[i]?=some q->q.1=p.1/\aH G w q.2 p.2)->(ps.all λp=>p.2.jz)=true->pY places cs ps=some cD->
 ∃fR,Instr.fill place vs qs=some fR/\Row G w fR cD
 |[],[],cs,cD,vs,h,_,_,_,hf=>by
  simp only[pY,Option.some.injEq]at hf;subst hf;exact⟨vs,rfl,h⟩
 |[],_::_,_,_,_,_,hl,_,_,_=>by simp at hl
 |_::_,[],_,_,_,_,hl,_,_,_=>by simp at hl
 |(j,x)::ps,(j',u)::qs,cs,cD,vs,h,hl,hr,hb,hf=>by
  obtain⟨e1,e2⟩:=hr 0 (j,x) (j',u) rfl rfl;simp only at e1 e2;subst e1;simp only[amP,al7]at hb;unfold pY at hf;split at hf
  ·rename_i off k E5
   rw[cond_eq_ite]at hf;split at hf
   ·rename_i hc
    simp only[al7,beq_iff_eq,dq]at hc;have n9:=e2.XB hb.1;obtain⟨fR,h1,h2⟩:=MZ place places hp ps qs _ cD _ (acO h n9 (by rw[hc.1];exact hc.2)) (by simpa using hl) (λi p q hp hq=>hr (i+1) p q (by simpa using hp) (by simpa using hq)) hb.2 hf;refine⟨fR,?_,h2⟩;unfold Instr.fill;rw[hp _ _ E5];have h3:¬(u.cells.size≠k||decide (off+u.cells.size>vs.size))=true:=by
     rw[n9.len,hc.1,h.len];simp;exact hc.2
    simp only[h3];exact h1
   ·cases hf
  ·cases hf
theorem ZD{z:Array amX}(h:z.toList.all Value.oneCell'=true):z.all (·.oneCell')=true:=by
 rw[amv]at h;exact Array.all_eq_true_iff_forall_mem.2 λu hu=>h u (Array.mem_toList_iff.2 hu)
theorem alD(z:amX)(h:z.cells.all (·.oneCell')=true):Row G w z.cells (z.cells.toList.map λu=> .d (.v u)):=by
 refine⟨by simp,λi u c hu hc=> ?_,λi u hu=>Array.all_eq_true_iff_forall_mem.1 h u (Array.mem_of_getElem? hu)⟩;rw[amc,ams,hu]at hc;cases hc
 exact .d (.v u)
theorem Zx:∀(fs:amT Field)(ps:amT (Nat×Nat))(w:amY),Dm P fs=some ps->(fs.mapM (m:=Sem) λf=>do pure (f.offset,<-sizeOf f.type)).run P w= .ok ps w
 |[],ps,w,h=>by simp [Dm]at h;subst h;simp
 |f::fs,ps,w,h=>by
  unfold Dm at h;simp only[List.mapM_cons,Option.bind_eq_bind,Option.bind_eq_some_iff,Option.map_eq_some_iff,Option.pure_def,Option.some.injEq]at h;obtain⟨p,⟨k,hk,rfl⟩,qs,hq,rfl⟩:=h;have ih:=Zx fs qs w hq;simp only[List.mapM_cons,Sem.run_bind,mn hk,Sem.run_pure,Result.andThen_ok,ih]
theorem run_aBuild{T:Nat}{ps:amT (Nat×AV)}{qs:Array (Nat×amX)}{C:AV->Prop}(hl:qs.toList.length=ps.length)
 (hr:∀(i:Nat)(p:Nat×AV)(q:Nat×amX),ps[i]?=some p->qs.toList[i]?=some q->q.1=p.1/\aH G w q.2 p.2) (h:wc P T ps C):∃u y,(Instr.build T qs).run P w= .ok u w/\aH G w u y/\C y:=by
 unfold wc at h;split at h
 ·rename_i places z Ha hz
  obtain⟨fs,hT,E5⟩:∃fs,P.underlying T=some (.struct fs)/\Dm P fs.toList=some places:=by
   unfold Kr at Ha;split at Ha
   ·exact⟨_,by assumption,Ha⟩
   ·cases Ha
  ·split at h
   ·rename_i cs hf
    obtain⟨fD,hC⟩:=bV.1 h;simp only[al7]at fD;obtain⟨hb,jn⟩:=fD;have jn:=ZD jn;have lY:(fs.mapM (m:=Sem) λf=>do pure (f.offset,<-sizeOf f.type)).run P w= .ok places.toArray w:=by
     rw[Array.mapM_eq_mapM_toList];have:=Zx fs.toList places w E5;have e:(Functor.map List.toArray (fs.toList.mapM (m:=Sem) λf=>do pure (f.offset,<-sizeOf f.type)):Sem _)=(fs.toList.mapM (m:=Sem) λf=>do pure (f.offset,<-sizeOf f.type))>>=λl=>pure l.toArray:=rfl;rw[e,Sem.run_bind,this];rfl
    obtain⟨fR,h1,h2⟩:=MZ (λi=>places.toArray[i]?) places (λi pl h=>by simpa using h) ps qs.toList _ cs z.cells (alD (G:=G) (w:=w) z jn) hl hr hb hf;refine⟨.agg fR, .agg cs,?_, .agg fR cs h2.len h2.rel,hC⟩;unfold Instr.build;simp only[Sem.run_bind,DT hz,Result.andThen_ok,run_underlying hT,lY,h1,Sem.run_pure]
   ·exact h.elim
 ·exact h.elim
theorem XC{T:Nat}(h:Ag P T=true):P.underlying T=some .bool:=by
 unfold Ag at h;split at h
 ·assumption
 ·cases h
theorem Jn{T:Nat}{k:IntKind}(h:qZ P T=some k):P.underlying T=some (.int k):=by
 unfold qZ at h;split at h
 ·cases h;assumption
 ·cases h
theorem T3{t off:Nat}{vs:Array amX}{u:amX}(ha:lZ P t=some false)(hu:vs[off]?=some u):(part t vs off).run P w= .ok u w:=by
 unfold part;rw[Sem.run_bind,CX ha w];simp [hu]
theorem alk{t:Nat}{u v:amX}{x y:AV}{b:Bool}(d:Nat)(hu:aH G w u x)(hv:aH G w v y)(h:PZ P t x y=some b):(Op.equalIn (d+1) t u v).run P w= .ok b w:=by
 unfold PZ at h;split at h
 ·have e1:=hu.val;have e2:=hv.val;subst e1;subst e2
  rename_i k a k' b'
  cases hc:wG k k'&&(qZ P t).isSome with
  |false=>rw[hc]at h;cases h
  |true=>
   rw[hc]at h;cases h;rw[al7,N9]at hc;obtain⟨rfl,hc⟩:=hc;obtain⟨k2,hk⟩:=Option.isSome_iff_exists.1 hc;exact run_equalIn_int w d t k k2 a b' (Jn hk)
 ·have e1:=hu.val;have e2:=hv.val;subst e1;subst e2;cases hc:ia P t with
  |false=>rw[hc]at h;cases h
  |true=>rw[hc]at h;cases h;rw[<-PA,<-PA];exact run_equalIn_string w d t _ _ (sy hc)
 ·have e1:=hu.val;have e2:=hv.val;subst e1;subst e2;cases hc:Ag P t with
  |false=>rw[hc]at h;cases h
  |true=>rw[hc]at h;cases h;exact run_equalIn_bool w d t _ _ (XC hc)
 ·cases h
theorem akv{t off k:Nat}{vs:Array amX}(ha:lZ P t=some true)(hk:gu P t=some k):(part t vs off).run P w= .ok (.agg (vs.extract off (off+k))) w:=by
 unfold part;rw[Sem.run_bind,CX ha w];simp [mn hk]
theorem Tn{us:Array amX}{xs:amT AV}{off k:Nat}(hx:us.size=xs.length)(hb:off+k<=xs.length)(hu:∀(i:Nat)(u:amX)(c:AV),us[i]?=some u->xs[i]?=some c->aH G w u c):
 (us.extract off (off+k)).size=((xs.drop off).take k).length/\∀(i:Nat)(u:amX)(c:AV),(us.extract off (off+k))[i]?=some u->((xs.drop off).take k)[i]?=some c->aH G w u c:=by
 refine⟨by simp;omega,λi u c h1 h2=> ?_⟩;rw[List.getElem?_take]at h2;split at h2
 ·next hi=>
  rw[List.getElem?_drop]at h2;rw[Array.getElem?_extract]at h1;split at h1
  ·exact hu _ _ _ h1 h2
  ·cases h1
 ·cases h2
theorem GH{sub:TypeId->amT AV->amT AV->amV Bool}(d:Nat)
 (uU:∀(T:Nat)(us vs:Array amX)(xs ys:amT AV)(b:Bool),us.size=xs.length->vs.size=ys.length->(∀(i:Nat)(u:amX)(c:AV),us[i]?=some u->xs[i]?=some c->aH G w u c)->(∀(i:Nat)(u:amX)(c:AV),vs[i]?=some u->ys[i]?=some c->aH G w u c)->sub T xs ys=some b->(Op.equalIn (d+1) T (.agg us) (.agg vs)).run P w= .ok b w)
 {us vs:Array amX} {xs ys:amT AV} (hx:us.size=xs.length) (hy:vs.size=ys.length)
 (hu:∀(i:Nat)(u:amX)(c:AV),us[i]?=some u->xs[i]?=some c->aH G w u c) (hv:∀(i:Nat)(u:amX)(c:AV),vs[i]?=some u->ys[i]?=some c->aH G w u c):
 ∀(fs:amT Field)(b:Bool),xQ P sub fs xs ys=some b->(Op.eqFields (d+1) us vs fs).run P w= .ok b w
 |[],b,h=>by cases h;simp [Op.eqFields]
 |f::fs,b,h=>by
  unfold xQ at h;cases hn:f.name== "_" with
  |true=>rw[hn]at h;cases h
  |false=>
   rw[hn]at h;simp only[cond_false]at h;have cQ:f.name≠ "_" :=by simpa using hn
   split at h
   ·next e1=>
    split at h
    ·next x y e2 e3=>
     split at h
     ·next a c e4 e5=>
      cases h
      have l1:f.offset<us.size:=by rw[hx];exact(al5.1 e2).1
      have l2:f.offset<vs.size:=by rw[hy];exact(al5.1 e3).1
      have g1:=amr l1;have g2:=amr l2;simp only[Op.eqFields,if_pos cQ,Sem.run_bind,T3 (w:=w) e1 g1,T3 (w:=w) e1 g2,Result.andThen_ok,alk d (hu _ _ _ g1 e2) (hv _ _ _ g2 e3) e4];cases a with
      |true=>simp only[Bool.not_true,Bool.false_eq_true,if_false,Bool.true_and];exact GH d uU hx hy hu hv fs c e5
      |false=>simp
     ·cases h
    ·cases h
   ·next e1=>
    split at h
    ·next k e2=>
     cases lM:cq (f.offset+k) xs.length&&cq (f.offset+k) ys.length with
     |false=>rw[lM]at h;cases h
     |true=>
      rw[lM]at h;rw[al7,dq,dq]at lM;simp only[cond_true]at h;split at h
      ·next a c e4 e5=>
       cases h
       obtain⟨p1,p2⟩:=Tn hx lM.1 hu;obtain⟨q1,q2⟩:=Tn hy lM.2 hv;simp only[Op.eqFields,if_pos cQ,Sem.run_bind,akv (w:=w) e1 e2,Result.andThen_ok,uU _ _ _ _ _ a p1 q1 p2 q2 e4];cases a with
       |true=>simp only[Bool.not_true,Bool.false_eq_true,if_false,Bool.true_and];exact GH d uU hx hy hu hv fs c e5
       |false=>simp
      ·cases h
    ·cases h
   ·cases h
theorem Tv:∀(n d:Nat)(T:Nat)(us vs:Array amX)(xs ys:amT AV)(b:Bool),us.size=xs.length->vs.size=ys.length->(∀(i:Nat)(u:amX)(c:AV),us[i]?=some u->xs[i]?=some c->aH G w u c)->(∀(i:Nat)(u:amX)(c:AV),vs[i]?=some u->ys[i]?=some c->aH G w u c)->JL P n T xs ys=some b->(Op.equalIn (d+n+1) T (.agg us) (.agg vs)).run P w= .ok b w
 |0,_,_,_,_,_,_,_,_,_,_,_,h=>by cases h
 |n+1,d,T,us,vs,xs,ys,b,hx,hy,hu,hv,h=>by
  unfold JL at h;split at h
  ·next fs hT=>
   cases hc:P.stoodInHeld T with
   |true=>rw[hc]at h;cases h
   |false=>
    rw[hc]at h;have hf:P.fieldsOf T=fs:=by unfold Program.fieldsOf;rw[hT]
    rw[show d+(n+1)+1=(d+n+1)+1 by omega,run_equalIn_struct w (d+n+1) T us vs (by rw[hf];exact hT) hc,hf];exact GH (d+n) (λT' MO fR P2 Ou b'=>Tv n d T' MO fR P2 Ou b') hx hy hu hv _ b h
  ·cases h
theorem aeC{T:Nat}{us vs:Array amX}{xs ys:amT AV}{b:Bool}(hx:us.size=xs.length)(hy:vs.size=ys.length)
 (hu:∀(i:Nat)(u:amX)(c:AV),us[i]?=some u->xs[i]?=some c->aH G w u c) (hv:∀(i:Nat)(u:amX)(c:AV),vs[i]?=some u->ys[i]?=some c->aH G w u c) (h:JO P T xs ys=some b):
 P.eqGuardType P.depth T=false/\(Op.equalIn 10000 T (.agg us) (.agg vs)).run P w= .ok b w:=by
 unfold JO at h;split at h
 ·next fs hT=>
  cases hc:P.stoodInHeld T||P.eqGuardType P.depth T with
  |true=>rw[hc]at h;cases h
  |false=>
   rw[hc]at h;rw[amS]at hc;refine⟨hc.2,?_⟩;have hf:P.fieldsOf T=fs:=by unfold Program.fieldsOf;rw[hT]
   rw[run_equalIn_struct w 9999 T us vs (by rw[hf];exact hT) hc.1,hf];exact GH 9998 (λT' MO fR P2 Ou b'=>Tv 4 9994 T' MO fR P2 Ou b') hx hy hu hv _ b h
 ·cases h
theorem abL{op:BinOp}{x y:AV}{u v:amX}{T:Nat}{X Y:Operand}{C:AV->Prop}(hu:aH G w u x)(hv:aH G w v y)(h:wX P T op x y C):
 ∃r z,(do eqGuard op T X Y u v;binOp op T u v:Sem amX).run P w= .ok r w/\aH G w r z/\C z:=by
 unfold wX at h;split at h
 ·rename_i k a k' b
  have e1:=hu.val;have e2:=hv.val;subst e1;subst e2;have hg:(eqGuard op T X Y (.int k a) (.int k' b)).run P w= .ok () w:=by unfold eqGuard;cases op<;>simp
  rw[Sem.run_bind,hg];simp only[Result.andThen_ok];split at h
  ·rename_i z hq
   obtain⟨tt,hp,hC⟩:=bV.1 h;rw[N9]at tt;subst tt;refine⟨z,_,?_, .d (.v z),hC⟩;cases op<;>simp [KG]at hq<;>subst hq<;>simp [binOp,Op.intDiv,hp]
  ·split at h
   ·rename_i z hq
    refine⟨z,_,?_, .d (.v z),h.2⟩;have hb:¬b<0:=by omega
    cases op<;>simp [Qb]at hq<;>subst hq<;>simp [binOp,Op.shift,hb]
   ·split at h
    ·rename_i z hq
     obtain⟨tt,hC⟩:=bV.1 h;rw[N9]at tt;subst tt;refine⟨z,_,?_, .d (.v z),hC⟩;cases op<;>simp [MJ]at hq<;>subst hq<;>simp [binOp,Op.intArith,Op.intCmp,Op.intBits]
    ·exact h.elim
 ·rename_i a b
  have e1:=hu.val;have e2:=hv.val;subst e1;subst e2;have hg:(eqGuard op T X Y (.string a) (.string b)).run P w= .ok () w:=by unfold eqGuard;cases op<;>simp
  rw[Sem.run_bind,hg];simp only[Result.andThen_ok];split at h
  ·rename_i z hq
   refine⟨z,_,?_, .d (.v z),h⟩;cases op<;>simp [Pf]at hq<;>subst hq<;>simp [binOp,Op.stringOp,PA]
  ·split at h
   ·refine⟨_,_,?_, .d (.v _),h.2⟩;have hm:¬(((a.size+b.size:Nat):Int)>IntKind.i64.max):=by
     have:=h.1;unfold maxLen at this;have e:IntKind.i64.max=9223372036854775807:=by decide
     rw[e];omega
    simp only[binOp,Op.stringOp];rw[if_neg hm];rfl
   ·exact h.elim
 ·rename_i a b
  have e1:=hu.val;have e2:=hv.val;subst e1;subst e2;have hg:(eqGuard op T X Y (.bool a) (.bool b)).run P w= .ok () w:=by unfold eqGuard;cases op<;>simp
  rw[Sem.run_bind,hg];simp only[Result.andThen_ok];split at h
  ·rename_i z hq
   obtain⟨hT,hC⟩:=bV.1 h;have hT:=XC hT;refine⟨z,_,?_, .d (.v z),hC⟩;have hb:=run_equalIn_bool (P:=P) w 9999 T a b hT;cases op<;>simp [Mc]at hq<;>subst hq<;>simp [binOp,Op.equal,Op.maxDepth,hb]
  ·exact h.elim
 ·rename_i xs ys
  cases hu with
  |agg us _ hl1 DJ=>
   cases hv with
   |agg vs _ H9 Cu=>
    split at h
    ·next b hb=>
     obtain⟨hg,he⟩:=aeC hl1 H9 DJ Cu hb;rw[Sem.run_bind,run_eqGuard_agg w op T X Y us vs hg];simp only[Result.andThen_ok];split at h
     ·next z hz=>
      refine⟨z,_,?_, .d (.v z),h⟩;cases op<;>simp [vp]at hz<;>subst hz
      ·rw[run_eql_struct,he];rfl
      ·rw[run_neq_struct,he];rfl
     ·exact h.elim
    ·exact h.elim
 ·exact h.elim
theorem alv{op:UnOp}{x:AV}{u:amX}{C:AV->Prop}(hu:aH G w u x)(h:xe op x C):∃r z,(Op.unary op u).run P w= .ok r w/\aH G w r z/\C z:=by
 unfold xe at h;split at h
 ·rename_i v
  have e:=hu.val;subst e;split at h
  ·rename_i z hq
   refine⟨z,_,?_, .d (.v z),h⟩;unfold Jx at hq;split at hq
   ·cases hq;simp [Op.unary]
   ·cases hq;simp [Op.unary,Op.intArith]
   ·cases hq;simp [Op.unary,Op.intBits]
   ·cases hq
  ·exact h.elim
 ·exact h.elim
theorem af6{T:Nat}(h:EC P T=true):P.underlying T=some (.int .u8):=by
 unfold EC at h;split at h
 ·assumption
 ·cases h
theorem agd{a b:Nat}{x:AV}{u:amX}{C:AV->Prop}(hu:aH G w u x)(h:wB P a b x C):∃r z,(convert a b u).run P w= .ok r w/\aH G w r z/\C z:=by
 unfold wB at h;split at h
 ·rename_i k2 m
  have e:=hu.val;subst e;split at h
  ·rename_i k1 k h1 h2
   refine⟨_,_,?_, .d (.v _),h⟩;simp [convert,run_underlying (Jn h1),run_underlying (Jn h2),Conv.intToInt]
  ·exact h.elim
 ·rename_i s
  have e:=hu.val;subst e;obtain⟨fD,hC⟩:=bV.1 h;rw[al7]at fD;refine⟨_,_,?_, .d (.v _),hC⟩;simp [convert,run_underlying (sy fD.1),run_underlying (sy fD.2)]
 ·split at h
  ·rename_i xs e k lH hT
   obtain⟨fD,ns,rfl,hC⟩:=bV.1 h;rw[al7]at fD;refine⟨_,_,?_, .d (.v _),hC⟩;obtain⟨A,bb,o,cc,k',us,rfl,hA,lk,vz,ic,hS,mv⟩:=(hu.list lH).oP;rw[run_convert_bytes_string w a b e A _ cc (jN hT).1 (af6 fD.1) (sy fD.2)];simp only[ama]at hA lk hS ⊢;cases ns with
   |nil=>
    cases A with
    |none=>rfl
    |some ad=>
     have hl:=run_loadCells_list (P:=P) w ad (([]:amT Int).map (Value.int .u8)) (λj v hj=>by simp at hj);simp only[List.map_nil,amh]at hl;have:=run_bytesToString (P:=P) w ad 0 cc [] (by simpa using hl);exact this
   |cons n0 ns=>
    have JZ:=hA (by simp);subst JZ;have jI:k'=1:=(ic [.v (.int .u8 n0)] (by simp)).symm;subst jI;have hl:=run_loadCells_list (P:=P) w ⟨bb,o,none⟩ ((n0::ns).map (Value.int .u8)) (λj v hj=>by
     have aN:=(al5.1 hj).1;rw[ama]at aN;have h1:=(hS j 0 aN (by omega)).2.1;rw[amc,al9 aN]at hj;cases hj
     have h2:=mv j 0 [.v (.int .u8 ((n0::ns)[j]))] (.v (.int .u8 ((n0::ns)[j]))) (by rw[amc,al9 aN];rfl) rfl;have h3:us j 0= .int .u8 ((n0::ns)[j]):=by
      generalize us j 0=q at h2;cases h2;rfl
     rw[lQ];rw[h3]at h1
     simpa using h1)
    rw[ama]at hl;rw[run_bytesToString w _ _ cc _ hl];have key:∀(l:amT Int)(r:amU),l.foldl (λr n=>r.push (UInt8.ofNat n.toNat)) r=⟨r.data++(l.map λn=>UInt8.ofNat n.toNat).toArray⟩:=by
      intro l
      induction l with
      |nil=>intro r;simp
      |cons x l ih=>intro r;rw[List.foldl_cons,ih];simp [ByteArray.push]
    rw[key];have BB:ByteArray.empty.data= #[]:=rfl;rw[BB];simp
  ·exact h.elim
theorem Nq{T f off k:Nat}{g:Bool}(h:rU P T f=some (off,k,g)):∃fs fd,P.underlying T=some (.struct fs)/\fs[f]?=some fd/\gu P fd.type=some k/\0<k/\lZ P fd.type=some g/\fd.offset=off:=by
 unfold rU at h;split at h
 ·rename_i fs hT
  split at h
  ·rename_i fd hf
   split at h
   ·rename_i k' g' h1 h2
    cases h
    exact⟨fs,fd,hT,hf,h1,Nat.succ_pos _,h2,rfl⟩
   ·cases h
  ·cases h
 ·cases h
theorem Pm{T f off k o b:Nat}{g:Bool}(h:rU P T f=some (off,k,g)):(Instr.fieldAt T (.pointer (some ⟨b,o,none⟩)) f).run P w= .ok (.pointer (some ⟨b,o+off,none⟩)) w:=by
 obtain⟨fs,fd,h1,h2,h3,h4,h5,rfl⟩:=Nq h;simp [Instr.fieldAt,run_underlying h1,h2,Instr.sureAddr,fieldPlace,mn h3,Nat.ne_of_gt h4,lQ]
theorem ajg{T f:Nat}{x:AV}{u:amX}{C:AV->Prop}(hu:aH G w u x)(h:vr P T x f C):∃r z,(Instr.field T u f).run P w= .ok r w/\aH G w r z/\C z:=by
 unfold vr at h;split at h
 ·rename_i off k cs hT
  obtain⟨hl,hC⟩:=bV.1 h;rw[dq]at hl;obtain⟨fs,fd,h1,h2,h3,h4,h5,rfl⟩:=Nq hT;cases hu with
  |agg vs _ hlen hr=>
   refine⟨.agg (vs.extract fd.offset (fd.offset+k)),_,?_, .agg _ _ ?_ λi u c hu hc=> ?_,hC⟩
   ·simp [Instr.field,run_underlying h1,h2,asAgg,part,CX h5,mn h3]
   ·simp;omega
   ·rw[Array.getElem?_extract]at hu;rw[List.getElem?_take]at hc;split at hc
    ·rw[List.getElem?_drop]at hc;split at hu
     ·exact hr _ u c hu hc
     ·cases hu
    ·cases hc
 ·rename_i off k cs hT
  obtain⟨fs,fd,h1,h2,h3,h4,h5,rfl⟩:=Nq hT;split at h
  ·rename_i c hc
   cases hu with
   |agg vs _ hlen hr=>
    have aN:fd.offset<vs.size:=by rw[hlen];exact(al5.1 hc).1
    refine⟨vs[fd.offset],c,?_,hr _ _ c (amr aN) hc,h⟩;simp [Instr.field,run_underlying h1,h2,asAgg,part,CX h5,amr aN]
  ·exact h.elim
 ·exact h.elim
end
def Gh.uw(G:Gh)(b m:Nat):Gh:={G with S:=λc o=>G.S c o\/(c=b/\o<m)}
theorem QK{G:Gh}{w:amY}{h:amT aq}(hi:bU G w h)(ob:Obj)(m:Nat):bN G.N G w (G.uw w.heap.size m) (w.alloc ob)/\bU (G.uw w.heap.size m) (w.alloc ob) h:=by
 have hE:bN G.N G w (G.uw w.heap.size m) (w.alloc ob):=
  ⟨by simp,λ_ _ h=> .inl h,λb _ h=>World.cell?_alloc_lt _ _ _ (hi.S _ _ h),λ_ _=>rfl,λ_ _=> .inl ⟨rfl,rfl⟩,hY rfl,λb hb=>Below.heap_alloc w ob b (hi.z b hb),rfl,rfl,rfl,λb o hs=>hs.imp id fun⟨e,_⟩ hz=>amJ _ (hi.z _ (e▸hz))⟩
 refine⟨hE,hi.len,λb hb=>amt (hi.z b hb) hE.size,λb o hs=> ?_,λn B hB=> ?_,λm n b h1 h2=>hi.inj m n b h1 h2,hi.gl.keep hE⟩
 ·rcases hs with hs|⟨rfl,_⟩
  ·exact amt (hi.S b o hs) hE.size
  ·simp
 ·refine ep.keep (hi.lt hB) hE (amg _) ⟨rfl,rfl,rfl⟩ (λb hb=> ?_) (hi.dk n B hB);have aN:=hi.ownlt (n:=n) (b:=b) ((dJ hB).trans hb);refine⟨Below.heap_alloc w _ _ aN,λo jw hs=> ?_⟩;rcases hs with hs|⟨e,_⟩
  ·exact jw hs
  ·omega
theorem SR(k:Nat):∀(n o i:Nat)(pl:Nat×Nat),(tE k o n)[i]?=some pl->pl=(o+i*k,k)
 |0,_,_,_,h=>by simp [tE]at h
 |n+1,o,0,pl,h=>by simp [tE]at h;rw[<-h];simp
 |n+1,o,i+1,pl,h=>by
  have:=SR k n (o+k) i pl (by simpa [tE]using h);rw[this,Nat.add_mul];simp;omega
theorem RC(l:amT AV):∀n,(sx n l).length=n*l.length
 |0=>by simp [sx]
 |n+1=>by rw[sx,al6,RC l n,Nat.add_mul];omega
theorem WH(l:amT AV):∀(n i:Nat),i<n*l.length->(sx n l)[i]?=l[i%l.length]?
 |0,i,h=>by omega
 |n+1,i,h=>by
  rw[sx];by_cases hi:i<l.length
  ·rw[amf hi,Nat.mod_eq_of_lt hi]
  ·rw[aml (by omega),WH l n _ (by rw[Nat.add_mul]at h;omega),<-Nat.mod_eq_sub_mod (by omega)]
theorem aiq(z:amX){k:Nat}(hz:z.cells.size=k)(n:Nat):sx n (z.cells.toList.map λu=> .d (.v u))=(List.range (n*k)).map λi=> .d (.v (z.cells[i%z.cells.size]!)):=by
 have hl:(z.cells.toList.map λu=>AV.d (.v u)).length=k:=by simp [hz]
 refine List.ext_getElem? λi=> ?_;by_cases hi:i<n*k
 ·rw[WH _ _ _ (by rw[hl];exact hi),amc,amc,List.getElem?_range hi,hl,hz,ams];have hk:0<k:=Nat.pos_of_ne_zero λe=>by subst e;simp at hi
  have aN:i%k<z.cells.size:=by rw[hz];exact Nat.mod_lt _ hk
  rw[amr aN];simp only[Option.map_some];rw[getElem!_pos z.cells (i%k) aN]
 ·rw[amB (by rw[RC,hl];omega),amB (by simp;omega)]
theorem Vz:∀{ps:amT (Nat×AV)}{places:amT (Nat×Nat)}{cs cD:amT AV},pY places cs ps=some cD->cD.length=cs.length
 |[],_,_,_,h=>by simp only[pY,Option.some.injEq]at h;rw[h]
 |(i,x)::ps,places,cs,cD,h=>by
  unfold pY at h;split at h
  ·rw[cond_eq_ite]at h;split at h
   ·rename_i hc
    simp only[al7,beq_iff_eq,dq]at hc;rw[Vz h,DI _ _ _ (by rw[hc.1];exact hc.2)]
   ·cases h
  ·cases h
section
variable {P:amW} {r:amV Nat} {n N0:Nat} {G:Gh} {w:amY} {a:Act} {s:St} {o:Oper} {K:St->Prop} {Q:Exit->Act->amY->Prop}
theorem ae5{T len:Nat}{h:amT aq}{ps:amT (Nat×AV)}{qs:Array (Nat×amX)}{C:AV->Prop}(hi:bU G w h)(hl:qs.toList.length=ps.length)
 (hr:∀(i:Nat)(p:Nat×AV)(q:Nat×amX),ps[i]?=some p->qs.toList[i]?=some q->q.1=p.1/\aH G w q.2 p.2) (hC:vU P T len ps C):
 ∃u w' G' y,(Instr.buildSlice T len qs).run P w= .ok u w'/\bN G.N G w G' w'/\G.N<=G'.N/\bU G' w' h/\aH G' w' u y/\C y:=by
 unfold vU at hC;split at hC
 ·rename_i e k hT
  obtain⟨fJ,fZ⟩:=jN hT;split at hC
  ·rename_i z hz
   split at hC
   ·rename_i cs hf
    split at hC
    ·rename_i ds qY
     obtain⟨fD,hC⟩:=bV.1 hC;simp only[al7,beq_iff_eq,dq,amC]at fD;obtain⟨⟨⟨⟨hk,hsm⟩,j0⟩,jn⟩,hb⟩:=fD;have jn:=ZD jn;rw[aiq z j0]at hf;have E5:=SR k;obtain⟨z0,vv⟩:∃z0:Array amX,z0=if len*k=0 then #[]else z.cells:=⟨_,rfl⟩
     obtain⟨zr,CG⟩:∃zr:Array amX,zr=(Array.range (len*k)).map (z0[·%z0.size]!):=⟨_,rfl⟩;have n9:Row G w zr ((List.range (len*k)).map λi=> .d (.v (z.cells[i%z.cells.size]!))):=by
      have BF:∀i,i<len*k->z0[i%z0.size]! =z.cells[i%z.cells.size]! :=λi hi=>by rw[vv,if_neg (by omega)]
      refine⟨by rw[CG];simp,λi u c hu hc=> ?_,λi u hu=> ?_⟩
      ·rw[CG,Array.getElem?_map]at hu;rw[amc]at hc;by_cases hi:i<len*k
       ·rw[List.getElem?_range hi]at hc;rw[Array.getElem?_range,if_pos hi]at hu;simp only[Option.map_some,Option.some.injEq]at hu hc;subst hu;subst hc;rw[BF i hi];exact .d (.v _)
       ·rw[amB (by simp;omega)]at hc;cases hc
      ·rw[CG,Array.getElem?_map]at hu;by_cases hi:i<len*k
       ·rw[Array.getElem?_range,if_pos hi]at hu;simp only[Option.map_some,Option.some.injEq]at hu;subst hu;rw[BF i hi];have aN:i%z.cells.size<z.cells.size:=Nat.mod_lt _ (by omega);rw[getElem!_pos z.cells _ aN];exact Array.all_eq_true_iff_forall_mem.1 jn _ (Array.getElem_mem _)
       ·rw[Array.getElem?_eq_none (by simp;omega)]at hu;cases hu
     obtain⟨fR,h1,h2⟩:=MZ (λi=>some (i*k,k)) (tE k 0 len) (λi pl h=>by
      have:=E5 len 0 i pl h;rw[this];simp) ps qs.toList _ cs zr n9 hl hr hb hf
     obtain⟨d1,d2⟩:=Fy qY;have gh:cs.length=len*k:=by
      have:=Vz hf;rw[this];simp
     have vC:fR.size=len*k:=by rw[h2.len,gh]
     obtain⟨i1,i2⟩:=QK hi (.cells fR e) (len*k);have vi:Rd G.S w k (nN k len ds) fR.toList:=WT (by rw[d1,gh]) (by rw[amC,vC]) (λu hu=>by
      obtain⟨j,hj⟩:=List.mem_iff_getElem?.1 hu;exact h2.one j u (by rw[<-ams];exact hj)) (λi u d hu hd=>by
      have aN:i<cs.length:=by rw[<-d1];exact(al5.1 hd).1
      exact(h2.rel i u _ (by rw[<-ams];exact hu) (al9 aN)).Ht (d2 i _ d (al9 aN) hd))
     have hp:dy (G.uw w.heap.size (len*k)).S (w.alloc (.cells fR e)) (.slice (some ⟨w.heap.size,0,none⟩) len len) (.sl (nN k len ds)):=by
      have:=(vi.keep i1.S i1.cell).Bz w.heap.size len (by rw[se];exact amg _) (by have:=Nat.le_mul_of_pos_right len hk;simp only[maxLen];omega) (λo ho=> .inr ⟨rfl,by rw[se]at ho;exact ho⟩) (λo u hu=>by
       rw[World.cell?_alloc_new];rw[<-ams];exact hu)
      rwa [se]at this
     refine⟨_,_,_,_,?_,i1,amg _,i2, .full _ hp ⟨some ⟨w.heap.size,0,none⟩,by rw[se]⟩,hC⟩;have jw:¬(len*k>2^24):=by omega
     unfold Instr.buildSlice;simp only[Sem.run_bind,run_underlying fJ,Result.andThen_ok,mn fZ,jw,if_false];by_cases h0:len*k=0
     ·rw[if_pos h0]at vv;subst vv;subst CG;simp [h0]at h1;simp [h0,h1,newRow]
     ·rw[if_neg h0]at vv;subst vv;subst CG;simp [h0,DT hz,h1,newRow]
    ·exact hC.elim
   ·exact hC.elim
  ·exact hC.elim
 ·exact hC.elim
end
section
variable {P:amW} {G:Gh} {w:amY} {h:amT aq}
theorem zx(k s:amU)(d:D)(l:amT (amU×D)):ld ((k,d)::l) s=if k=s then some d else ld l s:=by
 have e1:ld ((k,d)::l) s=bif bL k==bL s then some d else ld l s:=rfl;rw[e1];by_cases e:k=s
 ·subst e;rw[if_pos rfl];simp
 ·rw[if_neg e];have:(bL k==bL s)=false:=by rw[beq_eq_false_iff_ne];exact λhe=>e (Vg he)
  rw[this];rfl
theorem BI{T k e:TypeId}(h:uE P T=some (k,e)):P.underlying T=some (.map k e):=by
 unfold uE at h;split at h
 ·next k' e' hT=>cases h;exact hT
 ·cases h
theorem aia(hi:bU G w h):bN G.N G w (G.de w.heap.size) (w.alloc (.map #[] 0))/\bU (G.de w.heap.size) (w.alloc (.map #[] 0)) (h++[.map []])/\aH (G.de w.heap.size) (w.alloc (.map #[] 0)) (.map (some w.heap.size)) (.mp h.length):=by
 have hE:=sk G w hi.z hi.S (.map #[] 0);have hN:G.N<=(G.de w.heap.size).N:=Nat.le_succ _;have gr:(G.de w.heap.size).aR h.length=w.heap.size:=by simp [Gh.de,hi.len]
 have lx:∀n(B:aq),n<G.N->B.dV (G.de w.heap.size) n=B.dV G n:=λn B hn=>by
  cases B<;>simp [aq.dV,Gh.de,Nat.ne_of_lt hn]
 have fQ:∀n,n<G.N->bR (h++[.map []]) (G.de w.heap.size) n=bR h G n:=λn hn=>by
  have aN:n<h.length:=by rw[hi.len];exact hn
  unfold bR;rw[amf aN,al9 aN];exact lx n _ hn
 have sV:bR (h++[.map []]) (G.de w.heap.size) h.length=some w.heap.size:=by
  rw[dJ (B:= .map []) (by simp)];exact congrArg some gr
 refine⟨hE,⟨by simp [Gh.de,hi.len],λb hb=>amt (hi.z b hb) hE.size,λb o hs=>amt (hi.S b o hs) hE.size,λn B hB=> ?_,λm n b hm hn=> ?_,hi.gl.keep hE⟩,?_⟩
 ·by_cases hn:n<h.length
  ·rw[amf hn]at hB;have eW:n<G.N:=hi.len▸hn;exact ep.keep eW hE hN ⟨rfl,rfl,rfl⟩ (λb hb=>⟨Below.heap_alloc w _ _ (hi.ownlt (n:=n) ((dJ hB).trans hb)),λo h=>h⟩) (hi.dk n B hB)
  ·have ku:n=h.length:=by
    have:=(al5.1 hB).1;simp at this;omega
   subst ku;simp at hB;subst hB;exact⟨by rw[gr];exact λhz=>amJ _ (hi.z _ hz),λo hs=>by rw[gr]at hs;exact amJ _ (hi.S _ _ hs), #[],0,by rw[gr];exact World.alloc_heap_new w _,
    ⟨by simp,MapKept.stamped_empty 0,λe he=>(by simp at he),λs d hs=>(by cases hs),by simp,λi e he=>(by simp at he),rfl⟩⟩
 ·have key:∀n b,bR (h++[.map []]) (G.de w.heap.size) n=some b->(n<G.N/\bR h G n=some b)\/(n=h.length/\b=w.heap.size):=λn b hn=>by
   by_cases aN:n<G.N
   ·exact .inl ⟨aN,by rw[<-fQ n aN];exact hn⟩
   ·by_cases e:n=h.length
    ·subst e;rw[sV]at hn;cases hn;exact .inr ⟨rfl,rfl⟩
    ·rw[ux (amB (by simp;have:=hi.len;omega))]at hn;cases hn
  rcases key m b hm with⟨_,iu⟩|⟨rfl,rfl⟩<;>rcases key n _ hn with⟨_,eW⟩|⟨rfl,hb⟩
  ·exact hi.inj m n b iu eW
  ·have:=hi.ownlt iu;omega
  ·have:=hi.ownlt eW;omega
  ·rfl
 ·have:=aH.mp (G:=G.de w.heap.size) (w:=w.alloc (.map #[] 0)) h.length (by simp [Gh.de,hi.len])
  rwa [gr]at this
theorem agI{v:amX}{d:D}(h:dy G.S w v d):aH G w v (GI d):=by
 cases d with
 |v x=>exact .d h
 |sl xs=>exact .d h
 |ag ds=>
  cases h with
  |ag vs _ hl h=>
   refine .agg vs _ (by rw[ama];exact hl) λi u c hu hc=> ?_;rw[amc]at hc;obtain⟨d,hd,rfl⟩:=Option.map_eq_some_iff.1 hc;exact .d (h i u d hu hd)
theorem ahN(z:amX):aH G w z (AH z):=by
 unfold AH;split
 ·next vs=>
  refine .agg vs _ (by rw[ama];exact amC.symm) λi u c hu hc=> ?_;rw[amc,ams,hu]at hc;cases hc
  exact .d (dy.v u).tI
 ·exact .d (.v _)
theorem aH.toM{u:amX}{x:AV}{d:D}(h:aH G w u x)(hx:x.MY=some d):dy G.S w u d:=by
 unfold AV.MY at hx;split at hx
 ·next cs=>
  obtain⟨ds,qY,rfl⟩:=Option.map_eq_some_iff.1 hx;obtain⟨h1,h2⟩:=Fy qY;cases h with
  |agg vs _ hl hc=>
   refine .ag vs ds (hl.trans h1.symm) λi v e hv he=> ?_;have hi:i<cs.length:=by rw[<-h1];exact(al5.1 he).1
   exact(hc i v _ hv (al9 hi)).Ht (h2 i _ e (al9 hi) he)
 ·exact h.Ht hx
theorem sN{s:amU}:MapKept.IsKey .string (.string s):=trivial
theorem ah4{T k e:TypeId}{z:amX}{n:Nat}{kv:amT (amU×D)}{s:amU}{ok:Bool}(hi:bU G w h)(hT:uE P T=some (k,e))(hz:iz P e=some z)(hk:ia P k=true)(hn:h[n]?=some (.map kv)):
 ∃v,(Instr.lookup T (.map (some (G.aR n))) (.string s) ok).run P w= .ok v w/\aH G w v (qB ok z (ld kv s)):=by
 obtain⟨_,_,es,clock,hh,hm⟩:=hi.dk n _ hn;have oa:∀x∈es.toList,MapKept.IsKey .string x.key:=λx hx=>by
  obtain⟨s',d,h1,_⟩:=hm.Bd x hx;rw[h1];exact sN
 have nH:=sy hk;have one:∀(v:amX)(d:AV)(b:Bool),aH G w v d->aH G w (if ok then .tuple #[v, .bool b]else v) (bif ok then .aY [d, .d (.v (.bool b))]else d):=λv d b hp=>by
  cases ok with
  |false=>exact hp
  |true=>
   refine .aY #[v, .bool b] _ rfl λi u c hu hc=> ?_
   match i with
   |0=>simp at hu hc;subst hu;subst hc;exact hp
   |1=>simp at hu hc;subst hu;subst hc;exact .d (.v _)
   |i+2=>simp at hu
 rcases MapKept.findNow_spec (sN (s:=s)) es.toList 0 oa with⟨h1,h2⟩|⟨j,e0,h1,h2,h3⟩
 ·have ae8:ld kv s=none:=by
   cases hq:ld kv s with
   |none=>rfl
   |some d=>
    obtain⟨x,hx,nI⟩:=hm.all s d hq;exact absurd nI (h2 x hx)
  refine⟨if ok then .tuple #[z, .bool false]else z,?_,?_⟩
  ·simp [Instr.lookup,run_underlying (BI hT),MapKept.run_getObj_map hh,MapKept.run_checkKey nH sN,MapKept.run_findKey nH h1,DT hz,Result.andThen]
  ·rw[ae8];have:=one z _ false (ahN z);unfold qB;exact this
 ·have mK:e0∈es.toList:=ami h2;obtain⟨s',d,k1,k2,k3⟩:=hm.Bd e0 mK;rw[h3]at k1;cases k1
  refine⟨if ok then .tuple #[e0.val, .bool true]else e0.val,?_,?_⟩
  ·simp [Instr.lookup,run_underlying (BI hT),MapKept.run_getObj_map hh,MapKept.run_checkKey nH sN,MapKept.run_findKey nH h1,Result.andThen]
  ·rw[k2];have:=one e0.val _ true (agI k3);unfold qB;exact this
theorem agz{T k e:TypeId}{n:Nat}{kv:amT (amU×D)}{s:amU}{v:amX}{d:D}(hi:bU G w h)(hT:uE P T=some (k,e))(hk:ia P k=true)(hn:h[n]?=some (.map kv))(hv:dy G.S w v d)(hlen:kv.length<maxLen):
 ∃w',(Instr.mapUpdate T (.map (some (G.aR n))) (.string s) v).run P w= .ok () w'/\bN G.N G w G w'/\bU G w' (h.set n (.map ((s,d)::kv))):=by
 obtain⟨hZ,hS,es,clock,hh,hm⟩:=hi.dk n _ hn;have oa:∀x∈es.toList,MapKept.IsKey .string x.key:=λx hx=>by
  obtain⟨s',d,h1,_⟩:=hm.Bd x hx;rw[h1];exact sN
 have nH:=sy hk;have fin:∀(vW:Array MapEntry)(C9:Nat)(w':amY),w'=ChangeMaps.setBlock w (G.aR n) (.map vW C9)->um G.S w vW C9 ((s,d)::kv)->bN G.N G w G w'/\bU G w' (h.set n (.map ((s,d)::kv))):=by
  intro vW C9 w' fa iu;have iN:∀b,b≠G.aR n->w'.heap[b]?=w.heap[b]?:=λb hb=>by rw[fa];exact ChangeMaps.heap_setBlock_other hh _ hb
  have Qe:w'.heap[G.aR n]?=some (.map vW C9):=by rw[fa];exact ChangeMaps.heap_setBlock_same hh _
  have hsz:w'.heap.size=w.heap.size:=by rw[fa];simp [ChangeMaps.setBlock]
  have ik:∀b o,G.S b o->w'.cell? ⟨b,o,none⟩=w.cell? ⟨b,o,none⟩:=λb o hs=>World.cell?_of_block (iN b (λe=>hS o (e▸hs)));have hE:bN G.N G w G w':=⟨by rw[hsz];exact amg _,λ_ _ h=>h,ik,λ_ _=>rfl,λ_ _=> .inl ⟨rfl,rfl⟩,hY rfl,λb hb=>iN b (λe=>hZ (e▸hb)),by rw[fa];rfl,by rw[fa];rfl,by rw[fa];rfl,λ_ _ h=> .inl h⟩;refine⟨hE,?_⟩;have lF:bR h G n=some (G.aR n):=dJ hn;have lW:(h.set n (.map ((s,d)::kv)))[n]?=some (.map ((s,d)::kv)):=by rw[amy (al5.1 hn).1]
  have eG:∀m,m≠n->(h.set n (.map ((s,d)::kv)))[m]?=h[m]?:=λm hm=>by rw[amD (Ne.symm hm)]
  have eF:∀m,bR (h.set n (.map ((s,d)::kv))) G m=bR h G m:=λm=>by
   by_cases e:m=n
   ·subst e;rw[dJ lW,dJ hn];rfl
   ·unfold bR;rw[eG m e]
  refine⟨by rw[List.length_set];exact hi.len,λb hb=>amt (hi.z b hb) hE.size,λb o hs=>amt (hi.S b o hs) hE.size,λm B hB=> ?_,λm m' b h1 h2=>hi.inj m m' b (by rw[<-eF];exact h1) (by rw[<-eF];exact h2),hi.gl.keep hE⟩;by_cases e:m=n
  ·subst e;rw[lW]at hB;cases hB
   exact⟨hZ,hS,vW,C9,Qe,iu.keep (λ_ _ h=>h) ik⟩
  ·rw[eG m e]at hB;have cQ:∀b,bR h G m=some b->b≠G.aR n:=λb hb eb=>e (hi.inj m n b hb (by rw[eb];exact lF));exact ep.keep (hi.lt hB) hE (amg _) ⟨rfl,rfl,rfl⟩ (λb hb=>⟨iN b (cQ _ ((dJ hB).trans hb)),λo h=>h⟩) (hi.dk m B hB)
 rcases MapKept.findNow_spec (sN (s:=s)) es.toList 0 oa with⟨h1,h2⟩|⟨j,e0,h1,h2,h3⟩
 ·have iu:um G.S w (es.push ⟨.string s,v,clock⟩) (clock+1) ((s,d)::kv):=by
   refine⟨by have:=hm.len;simp;omega,MapKept.stamped_push hm.stamped h2,λx hx=> ?_,λs' d' cM=> ?_,by have:=hm.len;simp;omega,λi e he=> ?_,by rw[hm.Cj];simp⟩
   ·simp only[Array.toList_push,amH,List.mem_singleton]at hx;rcases hx with hx|rfl
    ·obtain⟨s',d',k1,k2,k3⟩:=hm.Bd x hx;refine⟨s',d',k1,?_,k3⟩;rw[zx,if_neg (λe=>h2 x hx (by rw[k1,e]))];exact k2
    ·exact⟨s,d,rfl,by rw[zx,if_pos rfl],hv⟩
   ·rw[zx]at cM;simp only[Array.toList_push,amH,List.mem_singleton];split at cM
    ·next e=>subst e;exact⟨_, .inr rfl,rfl⟩
    ·obtain⟨x,hx,hk⟩:=hm.all s' d' cM;exact⟨x, .inl hx,hk⟩
   ·rw[Array.getElem?_push]at he;split at he
    ·next ei=>cases he;rw[ei];exact hm.Cj
    ·exact hm.born i e he
  obtain⟨f1,f2⟩:=fin _ _ _ rfl iu;refine⟨_,?_,f1,f2⟩;simp [Instr.mapUpdate,run_underlying (BI hT),MapKept.run_getObj_map hh,MapKept.run_checkKey nH sN,MapKept.run_findKey nH h1,MapKept.run_setObj_map _ hh,Result.andThen,ChangeMaps.setBlock]
 ·have hj:es[j]?=some e0:=by simpa using h2
  have Ac:j<es.toList.length:=(al5.1 h2).1;have agy:∀e',es[j]?=some e'->({e' with key:= .string s,val:=v}:MapEntry).key=e'.key:=λe' sC=>by rw[hj]at sC;cases sC;exact h3.symm
  have J2:(es.modify j (λe'=>{e' with key:= .string s,val:=v})).toList=es.toList.set j {e0 with key:= .string s,val:=v}:=by
   rw[Array.toList_modify];exact ChangeMaps.modify_eq_set _ _ _ _ h2
  have jV:(es.toList.map (·.key)).Nodup:=hm.stamped.2.2;have iu:um G.S w (es.modify j (λe'=>{e' with key:= .string s,val:=v})) clock ((s,d)::kv):=by
   refine⟨by simpa using hm.size,MapKept.stamped_modify hm.stamped _ _ (λ_ _=>rfl) (λe' _ sC=>agy e' sC),λx hx=> ?_,λs' d' cM=> ?_,by have:=hm.len;simp;omega,λi e he=> ?_,by rw[hm.Cj];simp⟩
   ·rw[J2]at hx;obtain⟨i,dY,ex⟩:=List.getElem_of_mem hx;rw[List.getElem_set]at ex;split at ex
    ·rw[<-ex];exact⟨s,d,rfl,by rw[zx,if_pos rfl],hv⟩
    ·next cQ=>
     have kF:i<es.toList.length:=by simpa using dY
     have ox:x∈es.toList:=by rw[<-ex];exact List.getElem_mem kF
     obtain⟨s',d',k1,k2,k3⟩:=hm.Bd x ox;refine⟨s',d',k1,?_,k3⟩;rw[zx,if_neg ?_]
     ·exact k2
     ·intro vW;have a1:(es.toList.map (·.key))[i]?=some (.string s):=by rw[amc,al9 kF,ex];simp [k1,vW]
      have a2:(es.toList.map (·.key))[j]?=some (.string s):=by rw[amc,h2];simp [h3]
      have hii:i<(es.toList.map (·.key)).length:=by simpa using kF
      exact cQ ((List.getElem?_inj hii jV).1 (a1.trans a2.symm)).symm
   ·rw[J2];rw[zx]at cM;split at cM
    ·next e=>subst e;exact⟨_,List.mem_iff_getElem?.2 ⟨j,amy Ac⟩,rfl⟩
    ·next cQ=>
     obtain⟨x,hx,hk⟩:=hm.all s' d' cM;obtain⟨i,dY,ex⟩:=List.getElem_of_mem hx;refine⟨x,List.mem_iff_getElem.2 ⟨i,by simpa using dY,?_⟩,hk⟩;rw[List.getElem_set];split
     ·next e=>
      subst e;exfalso;have:es.toList[j]?=some x:=by rw[al9 dY,ex]
      rw[this]at h2;cases h2
      rw[h3]at hk;injection hk with hk;exact cQ hk
     ·exact ex
   ·rw[Array.getElem?_modify]at he;split at he
    ·next ei=>
     subst ei;rw[hj]at he;cases he
     exact hm.born _ e0 hj
    ·exact hm.born i e he
  obtain⟨f1,f2⟩:=fin _ _ _ rfl iu;refine⟨_,?_,f1,f2⟩;simp [Instr.mapUpdate,run_underlying (BI hT),MapKept.run_getObj_map hh,MapKept.run_checkKey nH sN,MapKept.run_findKey nH h1,hj,h3,MapKept.run_keyThatStays sN,MapKept.run_setObj_map _ hh,Result.andThen,ChangeMaps.setBlock]
end
set_option linter.unusedVariables false
set_option linter.unusedSimpArgs false
section
variable {P:amW} {G:Gh} {w:amY} {h:amT aq}
theorem Jh{w':amY}(hi:bU G w h){n:Nat}{B B':aq}(hn:h[n]?=some B)(tc:∀G':Gh,B.dV G' n=G'.ow n)(L4:∀G':Gh,B'.dV G' n=G'.ow n)(S:Nat->Nat->Prop)(v:amX)(len:Nat)(ow:amV Nat)
 (hE:bN G.N G w (G.grow n S v len ow) w') (hg:∀g,ow=some g->(g=w.heap.size\/G.ow n=some g)/\g<w'.heap.size)
 (hS:∀b o,S b o->G.S b o\/ow=some b) (iN:∀b,b<w.heap.size->ow≠some b->w'.heap[b]?=w.heap[b]?)
 (hB:ep (G.grow n S v len ow) w' n B'):bU (G.grow n S v len ow) w' (h.set n B'):=by
 have eG:∀m,m≠n->(h.set n B')[m]?=h[m]?:=λm hm=>by rw[amD (Ne.symm hm)]
 have lW:(h.set n B')[n]?=some B':=by rw[amy (al5.1 hn).1]
 have lx:∀m(C:aq),m≠n->C.dV (G.grow n S v len ow) m=C.dV G m:=λm C hm=>by
  cases C<;>simp [aq.dV,Gh.grow,hm]
 have eF:∀m,m≠n->bR (h.set n B') (G.grow n S v len ow) m=bR h G m:=λm hm=>by
  unfold bR;rw[eG m hm];cases h[m]? with
  |none=>rfl
  |some C=>exact lx m C hm
 have CH:bR (h.set n B') (G.grow n S v len ow) n=ow:=by rw[dJ lW,L4];simp [Gh.grow]
 have xk:∀m b,m≠n->ow=some b->bR h G m≠some b:=λm b hm ho hb=>by
  rcases (hg b ho).1 with hg|hg
  ·have:=hi.ownlt hb;omega
  ·exact hm (hi.inj m n b hb ((dJ hn).trans ((tc G).trans hg)))
 refine⟨by rw[List.length_set];exact hi.len,λb hb=>amt (hi.z b hb) hE.size,λb o hs=> ?_,λm C hm=> ?_,λm m' b h1 h2=> ?_,hi.gl.keep hE⟩
 ·rcases hS b o hs with hs|hs
  ·exact amt (hi.S b o hs) hE.size
  ·exact(hg b hs).2
 ·by_cases em:m=n
  ·subst em;rw[lW]at hm;cases hm;exact hB
  ·rw[eG m em]at hm;refine ep.keep (hi.lt hm) hE (amg _) ⟨by simp [Gh.grow,em],by simp [Gh.grow,em],by simp [Gh.grow,em]⟩ (λb hb=> ?_) (hi.dk m C hm);have hr:bR h G m=some b:=(dJ hm).trans hb;have cQ:ow≠some b:=λe'=>xk m b em e' hr;refine⟨iN _ (hi.ownlt hr) cQ,λo jw hs=> ?_⟩;rcases hS _ o hs with hs|hs
   ·exact jw hs
   ·exact cQ hs
 ·by_cases e1:m=n<;>by_cases e2:m'=n
  ·rw[e1,e2]
  ·subst e1;rw[eF m' e2]at h2;rw[CH]at h1;exact absurd h2 (xk m' b e2 h1)
  ·subst e2;rw[eF m e1]at h1;rw[CH]at h2;exact absurd h1 (xk m b e1 h2)
  ·rw[eF m e1]at h1;rw[eF m' e2]at h2;exact hi.inj m m' b h1 h2
def Gh.fb(G:Gh)(v:amX)(len:Nat)(ow:amV Nat):Gh:=
 {G with N:=G.N+1,sg:=λn=>if n=G.N then v else G.sg n,fl:=λn=>if n=G.N then len else G.fl n,ow:=λn=>if n=G.N then ow else G.ow n}
theorem Om{w':amY}(hi:bU G w h)(B:aq)(tc:∀(G':Gh) n,B.dV G' n=G'.ow n)(v:amX)(len:Nat)(ow:amV Nat)(hw:(∀b,b<w.heap.size->w'.heap[b]?=w.heap[b]?)/\w.heap.size<=w'.heap.size/\w'.os=w.os/\w'.tape=w.tape/\w'.output=w.output)
 (how:∀g,ow=some g->w.heap.size<=g)
 (hB:ep (G.fb v len ow) w' G.N B):bN G.N G w (G.fb v len ow) w'/\bU (G.fb v len ow) w' (h++[B]):=by
 have cQ:∀n,n<G.N->n≠G.N:=λn hn=>Nat.ne_of_lt hn;have hE:bN G.N G w (G.fb v len ow) w':=⟨hw.2.1,λ_ _ h=>h,λb o hs=>World.cell?_of_block (hw.1 b (hi.S b o hs)),λ_ _=>rfl,λn hn=> .inl ⟨by simp [Gh.fb,cQ n hn],by simp [Gh.fb,cQ n hn]⟩,hY rfl,λb hb=>hw.1 b (hi.z b hb),hw.2.2.1,hw.2.2.2.1,hw.2.2.2.2,λ_ _ h=> .inl h⟩;have hN:G.N<=(G.fb v len ow).N:=Nat.le_succ _;have lx:∀n(C:aq),n<G.N->C.dV (G.fb v len ow) n=C.dV G n:=λn C hn=>by
  cases C<;>simp [aq.dV,Gh.fb,Nat.ne_of_lt hn]
 have key:∀n b,bR (h++[B]) (G.fb v len ow) n=some b->(n<G.N/\bR h G n=some b)\/(n=G.N/\ow=some b):=λn b hb=>by
  by_cases hn:n<h.length
  ·unfold bR at hb;rw[amf hn,al9 hn]at hb;exact .inl ⟨hi.len▸hn,by unfold bR;rw[al9 hn,<-hb];exact(lx n _ (hi.len▸hn)).symm⟩
  ·by_cases en:n=h.length
   ·subst en;rw[dJ (B:=B) (by simp),tc]at hb;exact .inr ⟨hi.len,by simpa [Gh.fb,hi.len]using hb⟩
   ·rw[ux (amB (by simp;omega))]at hb;cases hb
 refine⟨hE,by simp [Gh.fb,hi.len],λb hb=>amt (hi.z b hb) hw.2.1,λb o hs=>amt (hi.S b o hs) hw.2.1,λn C hC=> ?_,λm n b h1 h2=> ?_,hi.gl.keep hE⟩
 ·by_cases hn:n<h.length
  ·rw[amf hn]at hC;have eW:n<G.N:=hi.len▸hn;exact ep.keep eW hE hN ⟨by simp [Gh.fb,cQ n eW],by simp [Gh.fb,cQ n eW],by simp [Gh.fb,cQ n eW]⟩ (λb hb=>⟨hw.1 b (hi.ownlt ((dJ hC).trans hb)),λo h=>h⟩) (hi.dk n C hC)
  ·have ku:n=h.length:=by
    have:=(al5.1 hC).1;simp at this;omega
   subst ku;simp at hC;subst hC;rw[hi.len];exact hB
 ·rcases key m b h1 with⟨_,a1⟩|⟨rfl,a1⟩<;>rcases key n b h2 with⟨_,b1⟩|⟨rfl,b1⟩
  ·exact hi.inj m n b a1 b1
  ·have:=hi.ownlt a1;have:=how b b1;omega
  ·have:=hi.ownlt b1;have:=how b a1;omega
  ·rfl
theorem aH.tP{n o len L k:Nat}{e:TypeId}{cs:amT (amT AV)}{u:amX}(hi:bU G w h)(hn:h[n]?=some (.vec e k cs))(hL:cs.length=L)(hv:aH G w u (.vec n o len L k)):Ri (G.sg n) u o len L k:=by
 have hb:=(hi.dk n _ hn).1;cases hv with|vec _ _ _ _ _ h1 h2 h3 h4=>exact h4 (by rw[<-hL,hb])
theorem aH.Q1{n i j L k:Nat}{e:TypeId}{k':Nat}{cs:amT (amT AV)}{u:amX}(hi:bU G w h)(hn:h[n]?=some (.vec e k' cs))(hL:cs.length=L)(hv:aH G w u (.dD n i j L k)):QV (G.sg n) u i j L k:=by
 have hb:=(hi.dk n _ hn).1;cases hv with|dD _ _ _ _ _ h1 h2 h3 h4=>exact h4 (by rw[<-hL,hb])
theorem EK{n:Nat}{e k:Nat}{cs:amT (amT AV)}(hi:bU G w h)(hn:h[n]?=some (.vec e k cs))(cQ:cs≠ []):∃(g cap:Nat)(cur:Array amX),G.ow n=some g/\G.sg n= .slice (some ⟨g,0,none⟩) cs.length cap/\¬G.Z g/\w.heap[g]?=some (.cells cur e (0,0))/\cs.length<=cap/\cap<=maxLen/\cur.size=cap*k/\(∀o,¬G.S g o)/\
        ∀(i j:Nat)(c:amT AV)(x:AV)(u:amX),cs[i]?=some c->c[j]?=some x->cur[i*k+j]?=some u->aH G w u x:=by
 obtain⟨_,_,_,h4|h4⟩:=hi.dk n _ hn
 ·exact absurd h4.2.1 cQ
 ·exact h4
theorem EZ{n:Nat}{e k:Nat}{cs:amT (amT AV)}(hi:bU G w h)(hn:h[n]?=some (.vec e k cs)):∀c∈cs,c.length=k:=(hi.dk n _ hn).2.2.1
theorem mL{i k L j:Nat}(hi:i<L)(hj:j<k):i*k+j<L*k:=by
 have:(i+1)*k<=L*k:=Nat.mul_le_mul_right k hi;rw[Nat.add_mul]at this;omega
theorem IT{i k j:Nat}(hj:j<k):(i*k+j)/ k=i/\(i*k+j)%k=j:=by
 have hk:0<k:=by omega
 exact⟨by rw[Nat.add_comm,Nat.add_mul_div_right _ _ hk,Nat.div_eq_of_lt hj,amp],by rw[Nat.add_comm,Nat.add_mul_mod_self_right,Nat.mod_eq_of_lt hj]⟩
theorem agX{i i' j j' k:Nat}(hj:j<k)(iQ:j'<k)(e:i*k+j=i'*k+j'):i=i'/\j=j':=by
 have h1:=IT (i:=i) hj;have h2:=IT (i:=i') iQ;exact⟨by rw[<-h1.1,<-h2.1,e],by rw[<-h1.2,<-h2.2,e]⟩
theorem ZX{t n i j L k:Nat}{e:TypeId}{cs:amT (amT AV)}{c:amT AV}{x:AV}{v:amX}(hi:bU G w h)(hn:h[n]?=some (.vec e k cs))(hL:cs.length=L)(hc:cs[i]?=some c)(hx:Ku P t c j=some x)(hv:aH G w v (.dD n i j L k)):
 ∃u,(Instr.loadAt t v).run P w= .ok u w/\aH G w u x:=by
 have jx:i<cs.length:=(al5.1 hc).1;have YV:c.length=k:=EZ hi hn c (ami hc);obtain⟨g,cap,cur,r1,r2,r3,r4,r5,r6,r7,r8,r9⟩:=EK hi hn (λe=>by subst e;simp at jx);obtain⟨_,g',DF,p1,p2⟩:=hv.Q1 hi hn hL;rw[r2]at p1;cases p1
 have h1:∀q,q<c.length->w.cell? ⟨g,i*k+q,none⟩=some (cur.getD (i*k+q) undef):=λq hq=>by
  rw[cell_of_row w g _ cur e (0,0) r4];have:i*k+q<cur.size:=by
    rw[r7];exact amt (mL jx (by omega)) (Nat.mul_le_mul_right k r5)
  simp [Array.getD,this]
 have h2:∀(q:Nat)(y:AV),c[q]?=some y->aH G w (cur.getD (i*k+q) undef) y:=λq y hq=>by
  have O8:=(al5.1 hq).1;have aN:i*k+q<cur.size:=by
   rw[r7];exact amt (mL jx (by omega)) (Nat.mul_le_mul_right k r5)
  have e1:cur[i*k+q]?=some (cur.getD (i*k+q) undef):=by simp [Array.getD,aN]
  exact r9 i q c y _ hc hq e1
 have key:=Wz (P:=P) (G:=G) (w:=w) (t:=t) (C:=(·=x)) g (i*k) c j (λq=>cur.getD (i*k+q) undef) h1 h2 (by
  unfold Ku at hx;revert hx;cases lZ P t with
  |none=>intro hx;cases hx
  |some ag=>
   cases gu P t with
   |none=>cases ag<;>(intro hx;cases hx)
   |some kk=>
    cases ag with
    |true=>
     simp only;intro hx;cases hb:cq (j+kk) c.length with
     |false=>rw[hb]at hx;cases hx
     |true=>rw[hb]at hx;cases hx;exact rfl
    |false=>
     simp only;intro hx;rw[hx])
 obtain⟨u,y,k1,k2,rfl⟩:=key;refine⟨u,?_,k2⟩;rw[p2];simp [Instr.loadAt,Instr.sureAddr,k1]
theorem agn{t b off k:Nat}{T:TypeId}{v:amX}{vs:Array amX}(hh:w.heap[b]?=some (.cells vs T (0,0)))(ht:gu P t=some k)(hk:v.cells.size=k)(jn:∀u∈v.cells.toList,u.oneCell'=true)(hb:off+k<=vs.size):
 (storeVar t ⟨b,off,none⟩ v).run P w= .ok () (w.setRow b (vs.toList.take off++v.cells.toList++vs.toList.drop (off+v.cells.toList.length)).toArray):=by
 obtain⟨i,jP,kF⟩:=U4 ht;have lT:=run_storeCells_at P b off T v.cells.toList 0 vs w hh (by rw[amC,hk];simpa using hb) jn;simp only[Nat.add_zero]at lT;unfold storeVar;simp only[sizeOf,typeInfo,Sem.run_bind,hk];simp [jP,kF,lT]
theorem S3(vs:Array amX)(us:amT amX)(off q:Nat)(hb:off+us.length<=vs.size):(vs.toList.take off++us++vs.toList.drop (off+us.length)).toArray[q]?=if off<=q/\q<off+us.length then us[q-off]? else vs[q]?:=by
 rw[List.getElem?_toArray,amm];have vC:vs.toList.length=vs.size:=amC;by_cases h1:q<off
 ·rw[amf (by simp;omega),List.getElem?_take_of_lt h1,if_neg (by omega),ams]
 ·rw[aml (by simp;omega)];simp only[List.length_take,vC];rw[Nat.min_eq_left (by omega)];by_cases h2:q<off+us.length
  ·rw[amf (by omega),if_pos (by omega)]
  ·rw[aml (by omega),List.getElem?_drop,if_neg (by omega),show off+us.length+(q-off-us.length)=q by omega,ams]
theorem Yu(vs:Array amX)(us:amT amX)(off:Nat)(hb:off+us.length<=vs.size):(vs.toList.take off++us++vs.toList.drop (off+us.length)).toArray.size=vs.size:=by
 simp only[List.size_toArray,al6,List.length_take,List.length_drop,amC];omega
theorem aly(cs ys:amT AV)(off q:Nat)(hb:off+ys.length<=cs.length):(iM cs off ys)[q]?=if off<=q/\q<off+ys.length then ys[q-off]? else cs[q]?:=by
 unfold iM;rw[amm];by_cases h1:q<off
 ·rw[amf (by simp;omega),List.getElem?_take_of_lt h1,if_neg (by omega)]
 ·rw[aml (by simp;omega)];simp only[List.length_take];rw[Nat.min_eq_left (by omega)];by_cases h2:q<off+ys.length
  ·rw[amf (by omega),if_pos (by omega)]
  ·rw[aml (by omega),List.getElem?_drop,if_neg (by omega),show off+ys.length+(q-off-ys.length)=q by omega]
theorem Vi{n e k g cap:Nat}{cs cD:amT (amT AV)}{cur:Array amX}{us:amT amX}{off:Nat}(hi:bU G w h)(hn:h[n]?=some (.vec e k cs))(gW:0<k)(r1:G.ow n=some g)(r2:G.sg n= .slice (some ⟨g,0,none⟩) cs.length cap)(r3:¬G.Z g)(r4:w.heap[g]?=some (.cells cur e (0,0)))(r5:cs.length<=cap)(r6:cap<=maxLen)(r7:cur.size=cap*k)(r8:∀o,¬G.S g o)
 (hb:off+us.length<=cur.size) (hl:cD.length=cs.length) (jc:∀c∈cD,c.length=k)
 (AZ:∀(i j:Nat)(c:amT AV)(x:AV)(u:amX),cD[i]?=some c->c[j]?=some x->(if off<=i*k+j/\i*k+j<off+us.length then us[i*k+j-off]? else cur[i*k+j]?)=some u->aH G w u x):
 ∃G',bN G.N G w G' (w.setRow g (cur.toList.take off++us++cur.toList.drop (off+us.length)).toArray)/\G'.N=G.N/\bU G' (w.setRow g (cur.toList.take off++us++cur.toList.drop (off+us.length)).toArray) (h.set n (.vec e k cD))/\(∀m,G'.sg m=G.sg m)/\(∀m,G'.fl m=G.fl m):=by
 obtain⟨w',fa⟩:∃w',w'=w.setRow g (cur.toList.take off++us++cur.toList.drop (off+us.length)).toArray:=⟨_,rfl⟩;rw[<-fa];have iN:∀b,b≠g->w'.heap[b]?=w.heap[b]?:=λb hb=>by rw[fa];exact setRow_other w g b _ hb
 have n9:w'.heap[g]?=some (.cells (cur.toList.take off++us++cur.toList.drop (off+us.length)).toArray e (0,0)):=by rw[fa];exact setRow_heap w g cur _ e _ r4
 have hsz:w'.heap.size=w.heap.size:=by rw[fa];exact Kh w g _
 obtain⟨G',gD⟩:∃G',G'=G.grow n G.S (G.sg n) (G.fl n) (some g):=⟨_,rfl⟩;have yW:∀m,G'.sg m=G.sg m:=λm=>by rw[gD];simp only[Gh.grow];split<;>simp_all
 have lY:∀m,G'.fl m=G.fl m:=λm=>by rw[gD];simp only[Gh.grow];split<;>simp_all
 have hE:bN G.N G w G' w':=⟨by rw[hsz];exact amg _,λb o h=>by rw[gD];exact h,λb o hs=>World.cell?_of_block (iN b (λe=>r8 o (e▸hs))),λ_ _=>by rw[gD];rfl,λm _=> .inl ⟨lY m,yW m⟩,hY (by rw[gD];rfl) (by rw[gD];rfl),λb hb=>iN b (λe=>r3 (e▸hb)),by rw[fa];rfl,by rw[fa];rfl,by rw[fa];rfl,λb o hs=> .inl (by rw[gD]at hs;exact hs)⟩;have nb:=hi.dk n _ hn;refine⟨G',hE,by rw[gD];rfl,?_,yW,lY⟩;subst gD;refine Jh hi hn (λ_=>rfl) (λ_=>rfl) _ _ _ _ hE (λg' rh=> ?_) (λb o hs=> .inl hs) (λb _ gC=>iN b (λe=>gC (by rw[e]))) ?_
 ·cases rh;exact⟨.inr r1,by rw[hsz];exact(amk.1 r4).1⟩
 ·refine⟨by rw[lY,hl];exact nb.1,by rw[hl];exact nb.2.1,jc, .inr ⟨g,cap,_,by simp [Gh.grow],by rw[yW,hl];exact r2,r3,n9,by rw[hl];exact r5,r6,by rw[Yu _ _ _ hb];exact r7,r8,λi j c x u hc hx hu=> ?_⟩⟩;rw[S3 _ _ _ _ hb]at hu;exact(AZ i j c x u hc hx hu).keep hE (amg _)
theorem acx{t n i j L k:Nat}{e:TypeId}{cs:amT (amT AV)}{c:amT AV}{x:AV}{v u:amX}(hi:bU G w h)(hn:h[n]?=some (.vec e k cs))(hL:cs.length=L)(hc:cs[i]?=some c)(hv:aH G w v (.dD n i j L k))(hx:aH G w u x)(L3:x.jz=true)(ht:gu P t=some x.cells.length)(hj:j+x.cells.length<=k)(gW:0<k):
 ∃w' G',(Instr.storeAt t v u).run P w= .ok () w'/\bN G.N G w G' w'/\G.N<=G'.N/\bU G' w' (h.set n (.vec e k (cs.set i (iM c j x.cells)))):=by
 have jx:i<cs.length:=(al5.1 hc).1;have jc:=EZ hi hn;have YV:c.length=k:=jc c (ami hc);obtain⟨g,cap,cur,r1,r2,r3,r4,r5,r6,r7,r8,r9⟩:=EK hi hn (λe=>by subst e;simp at jx);obtain⟨_,g',DF,p1,p2⟩:=hv.Q1 hi hn hL;rw[r2]at p1;cases p1
 obtain⟨c1,c2⟩:=hx.cells L3;have nU:u.cells.toList.length=x.cells.length:=by rw[amC,c1]
 have jn:∀y∈u.cells.toList,y.oneCell'=true:=λy hy=>by
  obtain⟨q,hq⟩:=List.mem_iff_getElem?.1 hy;have O8:u.cells[q]?=some y:=by rw[<-ams];exact hq
  have hql:q<x.cells.length:=by rw[<-c1];exact(amk.1 O8).1
  exact(c2 q y _ O8 (al9 hql)).2
 have mC:i*k+j+x.cells.length<=cur.size:=by
  have h1:(i+1)*k<=cap*k:=Nat.mul_le_mul_right k (amt jx r5);rw[Nat.add_mul]at h1;rw[r7];omega
 have dK:=agn (P:=P) (off:=i*k+j) r4 ht c1 jn mC;obtain⟨G',e1,e2,e3,_⟩:=Vi (us:=u.cells.toList) (off:=i*k+j) (cD:=cs.set i (iM c j x.cells)) hi hn gW r1 r2 r3 r4 r5 r6 r7 r8 (by rw[nU];exact mC) (by rw[List.length_set]) (λd hd=>by
     obtain⟨q,hq⟩:=List.mem_iff_getElem?.1 hd;by_cases e:i=q
     ·subst e;rw[amy jx]at hq;cases hq
      rw[DI _ _ _ (by omega)];exact YV
     ·rw[amD e]at hq;exact jc d (ami hq)) (λa b d y z hd hy hz=>by
     have jl:b<k:=by
      by_cases e:i=a
      ·subst e;rw[amy jx]at hd;cases hd
       have:=(al5.1 hy).1;rw[DI _ _ _ (by omega)]at this;omega
      ·rw[amD e]at hd;rw[<-jc d (ami hd)];exact(al5.1 hy).1
     rw[nU]at hz;by_cases e:i=a
     ·subst e;rw[amy jx]at hd;cases hd
      rw[aly _ _ _ _ (by omega)]at hy;by_cases hb:j<=b/\b<j+x.cells.length
      ·rw[if_pos hb]at hy;rw[if_pos (by omega),show i*k+b-(i*k+j)=b-j by omega,ams]at hz;exact(c2 _ _ _ hz hy).1
      ·rw[if_neg hb]at hy;rw[if_neg (by omega)]at hz;exact r9 i b c y z hc hy hz
     ·rw[amD e]at hd;rw[if_neg ?_]at hz
      ·exact r9 a b d y z hd hy hz
      ·intro hh;have:a*k+b=i*k+(a*k+b-i*k):=by omega
       exact e ((agX (i:=a) (i':=i) (j:=b) (j':=a*k+b-i*k) jl (by omega) this).1.symm))
 refine⟨_,G',?_,e1,by rw[e2];exact amg _,e3⟩;rw[p2];simp [Instr.storeAt,Instr.sureAddr,dK]
end
section
variable {P:amW} {G:Gh} {w:amY} {h:amT aq}
structure yw(G:Gh)(w:World)(k:Nat)(ys:List (List AV))(us:List Value):Prop where
 len:us.length=ys.length*k
 wid:∀c∈ys,c.length=k
 one:∀u∈us,u.oneCell'=true
 rel:∀(i j:Nat)(c:List AV)(x:AV)(u:Value),ys[i]?=some c->c[j]?=some x->us[i*k+j]?=some u->aH G w u x
theorem LY{k tx e':Nat}{y:AV}{v:amX}{ys:amT (amT AV)}(hi:bU G w h)(hv:aH G w v y)(hs:zu h k y ys)(gW:0<k)(hT:P.underlying tx=some (.slice e')):
 ∃us,yw G w k ys us/\Src P k tx v ys.length us w:=by
 rcases hs with⟨xs,h1,h2,rfl⟩|⟨n,o,len,L,e,cs,rfl,h2,h3,h4,h5⟩
 ·obtain⟨us,hr,xb⟩:=(hv.list h1).src gW h2 hT;have hl:(cg xs).length=xs.length:=by unfold cg;rw[ama]
  refine⟨us,⟨by rw[hl];exact hr.len,λc hc=> ?_,hr.one,λi j c x u hc hx hu=> ?_⟩,by rw[hl];exact xb⟩
  ·unfold cg at hc;obtain⟨d,hd,rfl⟩:=List.mem_map.1 hc;rw[ama];exact h2 d hd
  ·unfold cg at hc;rw[amc]at hc;cases ox:xs[i]? with
   |none=>rw[ox]at hc;cases hc
   |some d=>
    rw[ox]at hc;cases hc
    rw[amc]at hx;cases hy:d[j]? with
    |none=>rw[hy]at hx;cases hx
    |some z=>
     rw[hy]at hx;cases hx
     obtain⟨u',a1,a2⟩:=hr.rel i j d z ox hy;rw[a1]at hu;cases hu
     exact .d a2
 ·have lz:=hv.tP hi h2 h3;obtain⟨A,c,rfl,c1,c2,c3,c4⟩:=lz.sl;have pk:ys.length=len:=by rw[h4,List.length_take,List.length_drop,h3];have:=lz.ol;omega
  by_cases h0:len=0
  ·subst h0;have:ys=[]:=List.eq_nil_of_length_eq_zero pk;subst this;refine⟨[],⟨by simp,(λ_ h=>by cases h),(λ_ h=>by cases h),λi j c x u hc=>by simp at hc⟩,?_⟩;cases A with
   |none=>exact Src.ofNil w hT c
   |some a=>exact Src.ofSlice w hT a 0 c [] (by simp) (λj u hu=>by simp at hu) (λu hu=>by cases hu)
  ·have ho:o<L:=by have:=lz.ol;omega
   obtain⟨g,cap,p1,rfl,p3⟩:=c4 ho;have cQ:cs≠ []:=λe=>by subst e;simp at h3;omega
   obtain⟨g',DF,cur,r1,r2,r3,r4,r5,r6,r7,r8,r9⟩:=EK hi h2 cQ;rw[r2]at p1;cases p1
   have jc:=EZ hi h2;have ik:∀q,q<len*k->o*k+q<cur.size:=λq hq=>by
    have h1:(o+len)*k<=cap*k:=Nat.mul_le_mul_right k (by have:=lz.ol;omega);rw[Nat.add_mul]at h1;rw[r7];omega
   have jy:∀i,i<len->ys[i]?=cs[o+i]?:=λi dY=>by rw[h4,List.getElem?_take_of_lt dY,List.getElem?_drop]
   have jn:∀q,q<len*k->(cur.getD (o*k+q) undef).oneCell'=true:=λq hq=>by
    have Pk:q / k<len:=Nat.div_lt_of_lt_mul (by rw[Nat.mul_comm];exact hq);have hkj:q%k<k:=Nat.mod_lt _ gW;obtain⟨d,gO⟩:∃d,cs[o+q / k]?=some d:=⟨_,al9 (by have:=lz.ol;omega)⟩;have Ed:=jc _ (ami gO);obtain⟨x,hx⟩:∃x,d[q%k]?=some x:=⟨_,al9 (by rw[Ed];exact hkj)⟩;have e1:(o+q / k)*k+q%k=o*k+q:=by
     rw[Nat.add_mul];have:=Nat.div_add_mod q k;rw[Nat.mul_comm]at this;omega
    have hu':cur[(o+q / k)*k+q%k]?=some (cur.getD (o*k+q) undef):=by
     rw[e1];simp [Array.getD,ik q hq]
    refine(r9 _ _ _ _ _ gO hx hu').kD ?_;have mK:d∈ys:=ami ((jy _ Pk).trans gO);have:=h5 _ mK;rw[amv]at this;exact this _ (ami hx)
   refine⟨(List.range (len*k)).map λq=>cur.getD (o*k+q) undef,⟨by rw[pk];simp,λc hc=>jc c ?_,λu hu=> ?_,λi j c x u hc hx hu=> ?_⟩,?_⟩
   ·rw[h4]at hc;exact List.mem_of_mem_drop (List.mem_of_mem_take hc)
   ·obtain⟨q,hq,rfl⟩:=List.mem_map.1 hu;exact jn q (List.mem_range.1 hq)
   ·have jx:i<len:=by rw[<-pk];exact(al5.1 hc).1
    rw[jy i jx]at hc;have Ij:j<k:=by rw[<-jc c (ami hc)];exact(al5.1 hx).1
    have aN:i*k+j<len*k:=mL jx Ij;rw[amc,List.getElem?_range aN]at hu;simp only[Option.map_some,Option.some.injEq]at hu;refine r9 (o+i) j c x u hc hx ?_;rw[<-hu,show(o+i)*k+j=o*k+(i*k+j) by rw[Nat.add_mul];omega];simp [Array.getD,ik _ aN]
   ·rw[pk];refine Src.ofSlice w hT _ len c _ (by simp) (λj u hu=> ?_) (λu hu=> ?_)
    ·rw[lQ,cell_of_row w g _ cur e (0,0) r4];rw[amc]at hu;by_cases hj:j<len*k
     ·rw[List.getElem?_range hj]at hu;simp only[Option.map_some,Option.some.injEq]at hu;rw[<-hu];simp [Array.getD,ik _ hj]
     ·rw[amB (by simp;omega)]at hu;cases hu
    ·obtain⟨q,hq,rfl⟩:=List.mem_map.1 hu;exact jn q (List.mem_range.1 hq)
theorem yw.keep{G':Gh}{w':amY}{k:Nat}{ys:amT (amT AV)}{us:amT amX}(h:yw G w k ys us)(hE:bN G.N G w G' w')(hN:G.N<=G'.N):yw G' w' k ys us:=
 ⟨h.len,h.wid,h.one,λi j c x u h1 h2 h3=>(h.rel i j c x u h1 h2 h3).keep hE hN⟩
theorem akh{α:Type}{k:Nat}(l:amT α)(us:amT α)(m i j:Nat)(hl:l.length=m*k)(hj:j<k):(l++us)[i*k+j]?=if i<m then l[i*k+j]? else us[(i-m)*k+j]?:=by
 by_cases h:i<m
 ·rw[if_pos h,amf (by rw[hl];exact mL h hj)]
 ·have h1:m*k<=i*k:=Nat.mul_le_mul_right k (by omega);rw[if_neg h,aml (by rw[hl];omega),hl,Nat.sub_mul,show i*k+j-m*k=i*k-m*k+j by omega]
theorem Pa{e k cap:Nat}{cs:amT (amT AV)}{cur:Array amX}(hi:bU G w h)(h1:cs.length<=cap)(h2:cap<=maxLen)(h3:cur.size=cap*k)(jc:∀c∈cs,c.length=k)(w0:amY)(qG:w0.heap=w.heap/\w0.os=w.os/\w0.tape=w.tape/\w0.output=w.output)
 (AZ:∀(i j:Nat)(c:amT AV)(x:AV)(u:amX),cs[i]?=some c->c[j]?=some x->cur[i*k+j]?=some u->aH G w u x):
 ∃G',bN G.N G w G' (w0.alloc (.cells cur e))/\G.N<=G'.N/\bU G' (w0.alloc (.cells cur e)) (h++[.vec e k cs])/\∀len,len<=cs.length->aH G' (w0.alloc (.cells cur e)) (.slice (some ⟨w.heap.size,0,none⟩) len cap) (.vec h.length 0 len cs.length k):=by
 have hsz:w0.heap.size=w.heap.size:=by rw[qG.1]
 have fQ:(w0.alloc (.cells cur e)).heap[w.heap.size]?=some (.cells cur e (0,0)):=by rw[<-hsz];exact World.alloc_heap_new w0 _
 have hold:∀b,b<w.heap.size->(w0.alloc (.cells cur e)).heap[b]?=w.heap[b]?:=λb hb=>by rw[Below.heap_alloc w0 _ b (by rw[hsz];exact hb),qG.1]
 have hw:(∀b,b<w.heap.size->(w0.alloc (.cells cur e)).heap[b]?=w.heap[b]?)/\w.heap.size<=(w0.alloc (.cells cur e)).heap.size/\(w0.alloc (.cells cur e)).os=w.os/\(w0.alloc (.cells cur e)).tape=w.tape/\(w0.alloc (.cells cur e)).output=w.output:=
  ⟨hold,by simp [hsz],qG.2.1,qG.2.2.1,qG.2.2.2⟩
 obtain⟨sv,mD⟩:∃sv,sv=Value.slice (some ⟨w.heap.size,0,none⟩) cs.length cap:=⟨_,rfl⟩;obtain⟨Bu,_⟩:bN G.N G w (G.fb sv cs.length (some w.heap.size)) (w0.alloc (.cells cur e))/\True:=by
  refine⟨⟨hw.2.1,λ_ _ h=>h,λb o hs=>World.cell?_of_block (hw.1 b (hi.S b o hs)),λ_ _=>rfl,λn hn=> .inl ⟨by simp [Gh.fb,Nat.ne_of_lt hn],by simp [Gh.fb,Nat.ne_of_lt hn]⟩,hY rfl,λb hb=>hw.1 b (hi.z b hb),hw.2.2.1,hw.2.2.2.1,hw.2.2.2.2,λ_ _ h=> .inl h⟩,trivial⟩
 obtain⟨hE,hI⟩:=Om (w':=w0.alloc (.cells cur e)) hi (.vec e k cs) (λ_ _=>rfl) sv cs.length (some w.heap.size) hw (λg hg=>by cases hg;exact amg _) (by
  refine⟨by simp [Gh.fb],amn h1 h2,jc, .inr ⟨w.heap.size,cap,cur,by simp [Gh.fb],by simp [Gh.fb,mD],λhz=>amJ _ (hi.z _ hz),fQ,h1,h2,h3,λo hs=>amJ _ (hi.S _ _ hs),λi j c x u hc hx hu=>(AZ i j c x u hc hx hu).keep Bu (Nat.le_succ _)⟩⟩)
 refine⟨_,hE,Nat.le_succ _,hI,λlen hlen=> ?_⟩;rw[hi.len];refine .vec G.N 0 len cs.length k (by simp [Gh.fb]) ⟨_,_,_,rfl⟩ (by simp [Gh.fb]) λ_=>⟨by omega,⟨_,_,rfl,amn hlen h1,h2,h1,λ_=>⟨w.heap.size,cap,by simp [Gh.fb,mD],by simp,by simp⟩⟩,λ_ e=>by subst e;simp [Gh.fb,mD]⟩
theorem adr{T e k len m dd:Nat}{i:TypeInfo}{z:amX}{kl kc:IntKind}{l c:Int}(hi:bU G w h)(hT:P.underlying T=some (.slice e))(kY:P.info? e=some i)(hz:i.zero=some z)(pv:i.size=k)(xf:i.bytes=dd)(j0:z.cells.toList.length=k)(gW:0<k)
 (h0:0<=l) (lk:l<=c) (hl:l.toNat=len) (hc:c.toNat=m) (hm:m<=maxLen) (hb:dd*m<=281474976710656):
 ∃u w' G',(Instr.makeSlice T (.int kl l) (.int kc c)).run P w= .ok u w'/\bN G.N G w G' w'/\G.N<=G'.N/\bU G' w' (h++[.vec e k (List.replicate m (z.cells.toList.map λu=> .d (.v u)))])/\aH G' w' u (.vec h.length 0 len m k):=by
 subst pv;subst xf;have gC:(i.bytes:Int)*c<=281474976710656:=by
  have:((i.bytes*m:Nat):Int)<=281474976710656:=by omega
  rw[Int.natCast_mul,<-hc,Int.toNat_of_nonneg (by omega)]at this;exact this
 have h63:c<=9223372036854775807:=by have h:=hm;simp [maxLen]at h;omega
 have dK:=run_make (P:=P) w T e i z hT kY hz kl kc l c h0 lk gC h63;rw[hl,hc]at dK;have gh:(List.replicate m (z.cells.toList.map λu=>AV.d (.v u))).length=m:=amF;obtain⟨G',g1,g2,g3,g4⟩:=Pa (e:=e) (k:=i.size) (cap:=m) (cs:=List.replicate m (z.cells.toList.map λu=>AV.d (.v u))) (cur:=madeCells z.cells (m*i.size)) hi (by rw[gh];exact amg _) hm (size_madeCells _ _) (λc hc=>by
  rw[List.eq_of_mem_replicate hc,ama];exact j0) w ⟨rfl,rfl,rfl,rfl⟩ (λa b c x u hc hx hu=>by
  have:=List.eq_of_mem_replicate (ami hc);subst this;rw[amc]at hx;cases hq:z.cells.toList[b]? with
  |none=>rw[hq]at hx;cases hx
  |some y=>
   rw[hq]at hx;cases hx
   have jl:b<i.size:=by rw[<-j0];exact(al5.1 hq).1
   have Ky:a<m:=by have:=(al5.1 hc).1;rwa [gh]at this
   unfold madeCells at hu;have aN:a*i.size+b<m*i.size:=mL Ky jl;rw[Array.getElem?_map,Array.getElem?_range,if_pos aN]at hu;simp only[Option.map_some,Option.some.injEq]at hu;have jE:z.cells.size=i.size:=by rw[<-amC];exact j0
   rw[jE,(IT (i:=a) jl).2]at hu;have om:z.cells[b]?=some y:=by rw[<-ams];exact hq
   rw[getElem!_pos z.cells b (by rw[jE];exact jl)]at hu;rw[amr (by rw[jE];exact jl)]at om;cases om
   subst hu;exact .d (.v _))
 rw[gh]at g4;refine⟨_,_,G',dK,g1,g2,g3,g4 len ?_⟩;rw[<-hl,<-hc];omega
theorem ahW{T tx ty e k dd n o len L:Nat}{i:TypeInfo}{z:amX}{u v:amX}{cs ys:amT (amT AV)}{us:amT amX}(hi:bU G w h)(hT:P.underlying T=some (.slice e))(kY:P.info? e=some i)(hz:i.zero=some z)(pv:i.size=k)(xf:i.bytes=dd)(j0:z.cells.size=k)(gW:0<k)
 (hn:h[n]?=some (.vec e k cs)) (hL:cs.length=L) (hu:aH G w u (.vec n o len L k)) (hr:yw G w k ys us) (hs:Src P k tx v ys.length us w)
 {L':Nat} {cD:amT (amT AV)} (qh:(o+len+ys.length<=L/\L'=L/\cD=cs.take (o+len)++ys++cs.drop (o+len+ys.length))\/(o=0/\len=L/\L'=L+ys.length/\cD=cs++ys/\L'<=maxLen/\L'*dd<=140737488355328)):
 ∃r w' G',(Builtin.append_ #[T,tx] ty #[u,v]).run P w= .ok r w'/\bN G.N G w G' w'/\G.N<=G'.N/\bU G' w' (h.set n (.vec e k cD))/\aH G' w' r (.vec n o (len+ys.length) L' k):=by
 subst pv;subst xf;have nP:=hi.lt hn;have jc:=EZ hi hn;have lz:=hu.tP hi hn hL;have nb:=hi.dk n _ hn;have al3:=lz;obtain⟨yO,⟨A,c,rfl,c1,c2,c3,c4⟩,call⟩:=lz;by_cases hy:ys.length=0
 ·have jy:ys=[]:=List.eq_nil_of_length_eq_zero hy;subst jy;have mv:us=[]:=List.eq_nil_of_length_eq_zero (by rw[hr.len];simp);subst mv;have dK:=run_append_nothing (P:=P) w T tx ty e i hT kY A len c c1 v hs;have e1:cD=cs:=by
   rcases qh with⟨_,_,e⟩|⟨_,_,_,e,_⟩
   ·rw[e];simp
   ·rw[e];simp
  have e2:L'=L:=by
   rcases qh with⟨_,e,_⟩|⟨_,_,e,_⟩
   ·exact e
   ·rw[e];simp
  subst e1;subst e2;refine⟨_,w,G,dK,bN.refl _ _ _,amg _,?_,by simpa using hu⟩;have:h.set n (.vec e i.size cD)=h:=by
   refine List.ext_getElem? λm=> ?_;by_cases em:m=n
   ·subst em;rw[amy (al5.1 hn).1,hn]
   ·rw[amD (Ne.symm em)]
  rw[this];exact hi
 ·have W0:0<ys.length:=Nat.pos_of_ne_zero hy;have room:len+ys.length<=c->∀g cap cur,G.ow n=some g->G.sg n= .slice (some ⟨g,0,none⟩) cs.length cap->¬G.Z g->w.heap[g]?=some (.cells cur e (0,0))->cs.length<=cap->cap<=maxLen->cur.size=cap*i.size->(∀o,¬G.S g o)->
      (∀(a b:Nat)(d:amT AV)(x:AV)(q:amX),cs[a]?=some d->d[b]?=some x->cur[a*i.size+b]?=some q->aH G w q x)->A=some ⟨g,o*i.size,none⟩->o+c=cap->
      ∃r w' G',(Builtin.append_ #[T,tx] ty #[.slice A len c,v]).run P w= .ok r w'/\bN G.N G w G' w'/\G.N<=G'.N/\bU G' w' (h.set n (.vec e i.size cD))/\aH G' w' r (.vec n o (len+ys.length) L' i.size):=by
   intro qL g cap cur r1 r2 r3 r4 r5 r6 r7 r8 r9 rA rc;have mC:(o+len)*i.size+us.length<=cur.size:=by
    rw[hr.len,r7,<-Nat.add_mul];exact Nat.mul_le_mul_right _ (by omega)
   have yu:∀j,j<us.length->(w.cell? ⟨g,o*i.size+len*i.size+j,none⟩).isSome=true:=λj hj=>by
    rw[cell_of_row w g _ cur e (0,0) r4,amr (by rw[Nat.add_mul]at mC;omega)];rfl
   have dK:=run_append_room_src (P:=P) w T tx ty e i hT kY g (o*i.size) len c v ys.length us hs qL yu (λj hj=>by unfold World.frozen?;rw[r4];simp);have lT:=run_storeCells_at P g (o*i.size+len*i.size) e us 0 cur w r4 (by rw[Nat.add_mul]at mC;simpa using mC) hr.one;have xF:=run_storeCells_cells (P:=P) g (o*i.size+len*i.size) us 0 w (by simpa using yu) (λj hj=>by unfold World.frozen?;rw[r4];simp) hr.one;simp only[Nat.add_zero]at lT xF;rw[lT]at xF;injection xF with _ e2;rw[<-e2,<-Nat.add_mul]at dK;rw[rA];have fQ:∀(a b:Nat)(d:amT AV)(x:AV)(q:amX),cD[a]?=some d->d[b]?=some x->(if(o+len)*i.size<=a*i.size+b/\a*i.size+b<(o+len)*i.size+us.length then us[a*i.size+b-(o+len)*i.size]? else cur[a*i.size+b]?)=some q->aH G w q x:=by
    intro a b d x q hd hx hq;have PL:d.length=i.size:=by
     have hm:=ami hd;rcases qh with⟨_,_,e⟩|⟨_,_,_,e,_⟩
     ·rw[e]at hm;rcases amH.1 hm with hm|hm
      ·rcases amH.1 hm with hm|hm
       ·exact jc d (List.mem_of_mem_take hm)
       ·exact hr.wid d hm
      ·exact jc d (List.mem_of_mem_drop hm)
     ·rw[e]at hm;rcases amH.1 hm with hm|hm
      ·exact jc d hm
      ·exact hr.wid d hm
    have jl:b<i.size:=by rw[<-PL];exact(al5.1 hx).1
    have HI:(a<o+len/\cs[a]?=some d)\/(o+len<=a/\a<o+len+ys.length/\ys[a-(o+len)]?=some d)\/(o+len+ys.length<=a/\cs[a]?=some d):=by
     rcases qh with⟨hf,_,e⟩|⟨e0,e1,_,e,_⟩
     ·rw[e]at hd;have Nz:(cs.take (o+len)).length=o+len:=by rw[List.length_take];omega
      by_cases h1:a<o+len
      ·rw[amm,amf (by rw[Nz];exact h1),List.getElem?_take_of_lt h1]at hd;exact .inl ⟨h1,hd⟩
      ·rw[amm,aml (by rw[Nz];omega),Nz]at hd;by_cases h2:a-(o+len)<ys.length
       ·rw[amf h2]at hd;exact .inr (.inl ⟨by omega,by omega,hd⟩)
       ·rw[aml (by omega),List.getElem?_drop,show o+len+ys.length+(a-(o+len)-ys.length)=a by omega]at hd;exact .inr (.inr ⟨by omega,hd⟩)
     ·rw[e]at hd;by_cases h1:a<cs.length
      ·rw[amf h1]at hd;exact .inl ⟨by omega,hd⟩
      ·rw[aml (by omega)]at hd;have:=(al5.1 hd).1;exact .inr (.inl ⟨by omega,by omega,by rw[show a-(o+len)=a-cs.length by omega];exact hd⟩)
    rcases HI with⟨h1,h2⟩|⟨h1,h2,h3⟩|⟨h1,h2⟩
    ·rw[if_neg (by have:=mL h1 jl;omega)]at hq;exact r9 a b d x q h2 hx hq
    ·have hle:(o+len)*i.size<=a*i.size:=Nat.mul_le_mul_right _ h1;have aN:a*i.size+b<(o+len+ys.length)*i.size:=mL h2 jl;rw[Nat.add_mul (o+len)]at aN;rw[if_pos ⟨by omega,by rw[hr.len];exact aN⟩]at hq;refine hr.rel (a-(o+len)) b d x q h3 hx ?_;rw[Nat.sub_mul,show a*i.size-(o+len)*i.size+b=a*i.size+b-(o+len)*i.size by omega];exact hq
    ·have hle:(o+len+ys.length)*i.size<=a*i.size:=Nat.mul_le_mul_right _ h1;rw[Nat.add_mul (o+len)]at hle;rw[if_neg (by rw[hr.len];omega)]at hq;exact r9 a b d x q h2 hx hq
   have Vy:∀d∈cD,d.length=i.size:=λd hm=>by
    rcases qh with⟨_,_,e⟩|⟨_,_,_,e,_⟩
    ·rw[e]at hm;rcases amH.1 hm with hm|hm
     ·rcases amH.1 hm with hm|hm
      ·exact jc d (List.mem_of_mem_take hm)
      ·exact hr.wid d hm
     ·exact jc d (List.mem_of_mem_drop hm)
    ·rw[e]at hm;rcases amH.1 hm with hm|hm
     ·exact jc d hm
     ·exact hr.wid d hm
   rcases qh with⟨hf,eL,ec⟩|⟨e0,e1,eL,ec,kM,m4⟩
   ·have gh:cD.length=cs.length:=by rw[ec];simp;omega
    obtain⟨G',k1,k2,k3,k4,k5⟩:=Vi (us:=us) (off:=(o+len)*i.size) (cD:=cD) hi hn gW r1 r2 r3 r4 r5 r6 r7 r8 mC gh Vy fQ;refine⟨_,_,G',dK,k1,by rw[k2];exact amg _,k3,?_⟩;refine .vec n o (len+ys.length) L' i.size (by rw[k2];exact nP) ⟨_,_,_,rfl⟩ (by rw[k5,eL,nb.1,hL];exact amg _) λ_=> ?_;rw[k4];refine⟨by omega,⟨_,_,rfl,qL,c2,by omega,λho=> ?_⟩,λho hl=> ?_⟩
    ·rw[eL]at ho ⊢;obtain⟨g2,SX,q1,q2,q3⟩:=c4 ho;exact⟨g2,SX,q1,by rw[<-q2,rA],q3⟩
    ·subst ho;rw[r2,hL,<-eL,<-hl];simp at rc;subst rc;simp
   ·subst e0;subst e1;simp only[amp,Nat.zero_mul]at*;subst rc;obtain⟨w',fa⟩:∃w',w'=w.setRow g (cur.toList.take (len*i.size)++us++cur.toList.drop (len*i.size+us.length)).toArray:=⟨_,rfl⟩;rw[<-fa]at dK;have iN:∀b,b≠g->w'.heap[b]?=w.heap[b]?:=λb hb=>by rw[fa];exact setRow_other w g b _ hb
    have n9:w'.heap[g]?=some (.cells (cur.toList.take (len*i.size)++us++cur.toList.drop (len*i.size+us.length)).toArray e (0,0)):=by rw[fa];exact setRow_heap w g cur _ e _ r4
    have hsz:w'.heap.size=w.heap.size:=by rw[fa];exact Kh w g _
    obtain⟨sv,mD⟩:∃sv,sv=Value.slice (some ⟨g,0,none⟩) L' c:=⟨_,rfl⟩;have gh:cD.length=L':=by rw[ec,al6,hL,eL]
    have lY:G.fl n=len:=by rw[nb.1,hL]
    have hE:bN G.N G w (G.grow n G.S sv L' (some g)) w':=⟨by rw[hsz];exact amg _,λ_ _ h=>h,λb q hs=>World.cell?_of_block (iN b (λe=>r8 q (e▸hs))),λ_ _=>rfl,λm _=>by
        by_cases em:m=n
        ·right;subst em;simp only[Gh.grow,if_true,lY];omega
        ·left;exact⟨by simp [Gh.grow,em],by simp [Gh.grow,em]⟩,hY rfl,λb hb=>iN b (λe=>r3 (e▸hb)),by rw[fa];rfl,by rw[fa];rfl,by rw[fa];rfl,λb q hs=> .inl hs⟩
    refine⟨_,w',_,dK,hE,amg _,Jh hi hn (λ_=>rfl) (λ_=>rfl) _ _ _ _ hE (λg' rh=>by cases rh;exact⟨.inr r1,by rw[hsz];exact(amk.1 r4).1⟩) (λb q hs=> .inl hs) (λb _ gC=>iN b (λe=>gC (by rw[e]))) ?_,?_⟩
    ·refine⟨by simp [Gh.grow,gh],by rw[gh];exact kM,Vy, .inr ⟨g,c,_,by simp [Gh.grow],by simp [Gh.grow,mD,gh],r3,n9,by rw[gh];omega,r6,by rw[Yu _ _ _ mC];exact r7,r8,λa b d x q hd hx hq=> ?_⟩⟩;rw[S3 _ _ _ _ mC]at hq;exact(fQ a b d x q hd hx hq).keep hE (amg _)
    ·refine .vec n 0 (len+ys.length) L' i.size nP ⟨_,_,_,rfl⟩ (by simp [Gh.grow]) λ_=>⟨by omega,⟨_,_,rfl,qL,c2,by omega,λ_=>⟨g,c,by simp [Gh.grow,mD],by simp,by simp⟩⟩,λ_ e=> ?_⟩;simp [Gh.grow,mD,eL]
  rcases nb.2.2.2 with⟨b1,b2,A',b3⟩|⟨g,cap,cur,r1,r2,r3,r4,r5,r6,r7,r8,r9⟩
  ·
   subst b2;simp at hL;subst hL;have ho:o=0:=by omega
   have HT:len=0:=by omega
   subst ho;subst HT;have:=call rfl rfl;rw[b3]at this;injection this with q1 _ q2;subst q2;rcases qh with⟨hf,_,_⟩|⟨_,_,eL,ec,kM,m4⟩
   ·omega
   ·simp only[amp,List.nil_append]at eL ec;subst ec;rw[eL]at kM m4;have O6:cD.length<=9223372036854775807:=by simp only[maxLen]at kM;omega
    have hold:(Builtin.firstCells i.size 0 (.slice A 0 0)).run P w.drew= .ok ([]:amT amX).toArray w.drew:=by
     cases A with
     |none=>exact run_firstCells_none _ _ _ _ _
     |some a=>exact run_firstCells_some _ _ _ _ _ _ [] (by simp) (λj u hu=>by simp at hu)
    have dK:=run_append_grow_src (P:=P) w T tx ty e i z hT kY hz A 0 0 [] hold v cD.length us hs (by omega) (by omega) (growslice_fits (by omega) (by simpa using m4));simp only[amp,List.nil_append]at dK;obtain⟨cap,jZ⟩:∃cap,cap=grownCap w cD.length 0 e:=⟨_,rfl⟩;have kI:cD.length<=cap:=by rw[jZ];exact grownCap_ge _ _ _ _
    have hle:cap<=maxLen:=by rw[jZ];exact grownCap_le_maxLen _ _ _ _ kM
    rw[<-jZ]at dK;obtain⟨cur,j8⟩:∃cur,cur=us.toArray++Builtin.zeroCells z.cells (cap-cD.length):=⟨_,rfl⟩;rw[<-j8]at dK;have gO:cur.size=cap*i.size:=by
      have:=size_zeroCells z.cells (cap-cD.length);rw[j8,Array.size_append,this,List.size_toArray,hr.len,j0,<-Nat.add_mul]
      congr 1
      omega
    have fQ:(w.drew.alloc (.cells cur e)).heap[w.heap.size]?=some (.cells cur e (0,0)):=World.alloc_heap_new w.drew _;have vF:∀b,b<w.heap.size->(w.drew.alloc (.cells cur e)).heap[b]?=w.heap[b]?:=λb hb=>Below.heap_alloc w.drew _ b hb;obtain⟨sv,mD⟩:∃sv,sv=Value.slice (some ⟨w.heap.size,0,none⟩) L' cap:=⟨_,rfl⟩;have lY:G.fl n=0:=by rw[nb.1];rfl
    have hE:bN G.N G w (G.grow n G.S sv L' (some w.heap.size)) (w.drew.alloc (.cells cur e)):=⟨by simp,λ_ _ h=>h,λb q hs=>World.cell?_of_block (vF b (hi.S b q hs)),λ_ _=>rfl,λm _=>by
        by_cases em:m=n
        ·right;subst em;simp only[Gh.grow,if_true,lY];omega
        ·left;exact⟨by simp [Gh.grow,em],by simp [Gh.grow,em]⟩,hY rfl,λb hb=>vF b (hi.z b hb),rfl,rfl,rfl,λb q hs=> .inl hs⟩
    refine⟨_,_,_,dK,hE,amg _,Jh hi hn (λ_=>rfl) (λ_=>rfl) _ _ _ _ hE (λg' rh=>by cases rh;exact⟨.inl rfl,by simp⟩) (λb q hs=> .inl hs) (λb hb _=>vF b hb) ?_,?_⟩
    ·refine⟨by simp [Gh.grow,eL],kM,hr.wid, .inr ⟨w.heap.size,cap,cur,by simp [Gh.grow],by simp [Gh.grow,mD,eL],λhz=>amJ _ (hi.z _ hz),fQ,kI,hle,gO,λq hs=>amJ _ (hi.S _ _ hs),λa b d x q hd hx hq=> ?_⟩⟩;have jl:b<i.size:=by rw[<-hr.wid d (ami hd)];exact(al5.1 hx).1
     have aN:a*i.size+b<us.length:=by rw[hr.len];exact mL (al5.1 hd).1 jl
     rw[j8,Array.getElem?_append_left (by simpa using aN),List.getElem?_toArray]at hq;exact(hr.rel a b d x q hd hx hq).keep hE (amg _)
    ·rw[amp];refine .vec n 0 cD.length L' i.size nP ⟨_,_,_,rfl⟩ (by simp [Gh.grow]) λ_=>⟨by omega,⟨_,_,rfl,kI,hle,by omega,λ_=>⟨w.heap.size,cap,by simp [Gh.grow,mD],by simp,by simp⟩⟩,λ_ e=> ?_⟩;simp [Gh.grow,mD,eL]
  ·
   rcases qh with⟨hf,eL,ec⟩|⟨e0,e1,eL,ec,kM,m4⟩
   ·obtain⟨g2,SX,q1,q2,q3⟩:=c4 (by omega);rw[r2]at q1;injection q1 with q4 _ q5;cases q4
    subst q5;exact room (by omega) g cap cur r1 r2 r3 r4 r5 r6 r7 r8 r9 q2 q3
   ·have:=call e0 e1;rw[r2]at this;injection this with q2 _ q3;by_cases qL:len+ys.length<=c
    ·exact room qL g cap cur r1 r2 r3 r4 r5 r6 r7 r8 r9 (by rw[q2,e0];simp) (by omega)
    ·subst e0;subst q2;subst q3;rw[eL]at kM m4;have O6:L+ys.length<=9223372036854775807:=by simp only[maxLen]at kM;omega
     have GC:(cur.toList.take (len*i.size)).length=len*i.size:=by
      rw[List.length_take,amC,r7];exact Nat.min_eq_left (Nat.mul_le_mul_right _ c1)
     have hold:(Builtin.firstCells i.size len (.slice (some ⟨g,0,none⟩) len c)).run P w.drew= .ok (cur.toList.take (len*i.size)).toArray w.drew:=
      run_firstCells_some _ _ _ _ _ _ _ GC (λj q hq=>by
       rw[lQ,amp];show w.cell? ⟨g,j,none⟩=some q;rw[cell_of_row w g _ cur e (0,0) r4,<-ams];have Ac:=(al5.1 hq).1;rw[GC]at Ac;rw[List.getElem?_take_of_lt Ac]at hq;exact hq)
     have dK:=run_append_grow_src (P:=P) w T tx ty e i z hT kY hz (some ⟨g,0,none⟩) len c _ hold v ys.length us hs (by omega) (by omega) (growslice_fits (by omega) (by rw[e1];exact m4));obtain⟨cap,jZ⟩:∃cap,cap=grownCap w (len+ys.length) c e:=⟨_,rfl⟩;have kI:len+ys.length<=cap:=by rw[jZ];exact grownCap_ge _ _ _ _
     have hle:cap<=maxLen:=by rw[jZ];exact grownCap_le_maxLen _ _ _ _ (by rw[e1];exact kM)
     rw[<-jZ]at dK;obtain⟨tk,j8⟩:∃tk,tk=(cur.toList.take (len*i.size)++us).toArray++Builtin.zeroCells z.cells (cap-(len+ys.length)):=⟨_,rfl⟩;rw[<-j8]at dK;have H9:(cur.toList.take (len*i.size)++us).length=(len+ys.length)*i.size:=by rw[al6,GC,hr.len,<-Nat.add_mul]
     have gO:tk.size=cap*i.size:=by
      have:=size_zeroCells z.cells (cap-(len+ys.length));rw[j8,Array.size_append,this,List.size_toArray,H9,j0,<-Nat.add_mul]
      congr 1
      omega
     have fQ:(w.drew.alloc (.cells tk e)).heap[w.heap.size]?=some (.cells tk e (0,0)):=World.alloc_heap_new w.drew _;have vF:∀b,b<w.heap.size->(w.drew.alloc (.cells tk e)).heap[b]?=w.heap[b]?:=λb hb=>Below.heap_alloc w.drew _ b hb;obtain⟨sv,mD⟩:∃sv,sv=Value.slice (some ⟨w.heap.size,0,none⟩) L' cap:=⟨_,rfl⟩;have lY:G.fl n=L:=by rw[nb.1,hL]
     have gh:cD.length=L':=by rw[ec,al6,hL,eL]
     have hE:bN G.N G w (G.grow n G.S sv L' (some w.heap.size)) (w.drew.alloc (.cells tk e)):=⟨by simp,λ_ _ h=>h,λb q hs=>World.cell?_of_block (vF b (hi.S b q hs)),λ_ _=>rfl,λm _=>by
         by_cases em:m=n
         ·right;subst em;simp only[Gh.grow,if_true,lY];omega
         ·left;exact⟨by simp [Gh.grow,em],by simp [Gh.grow,em]⟩,hY rfl,λb hb=>vF b (hi.z b hb),rfl,rfl,rfl,λb q hs=> .inl hs⟩
     refine⟨_,_,_,dK,hE,amg _,Jh hi hn (λ_=>rfl) (λ_=>rfl) _ _ _ _ hE (λg' rh=>by cases rh;exact⟨.inl rfl,by simp⟩) (λb q hs=> .inl hs) (λb hb _=>vF b hb) ?_,?_⟩
     ·refine⟨by simp [Gh.grow,gh],by rw[gh,eL];exact kM,λd hd=> ?_, .inr ⟨w.heap.size,cap,tk,by simp [Gh.grow],by simp [Gh.grow,mD,gh],λhz=>amJ _ (hi.z _ hz),fQ,by rw[gh];omega,hle,gO,λq hs=>amJ _ (hi.S _ _ hs),λa b d x q hd hx hq=> ?_⟩⟩
      ·rw[ec]at hd;rcases amH.1 hd with hd|hd
       ·exact jc d hd
       ·exact hr.wid d hd
      ·refine aH.keep hE (amg _) ?_;have PL:d.length=i.size:=by
        have hm:=ami hd;rw[ec]at hm;rcases amH.1 hm with hm|hm
        ·exact jc d hm
        ·exact hr.wid d hm
       have jl:b<i.size:=by rw[<-PL];exact(al5.1 hx).1
       have hal:a<len+ys.length:=by
        have:=(al5.1 hd).1;rw[gh,eL]at this;omega
       have aN:a*i.size+b<(cur.toList.take (len*i.size)++us).length:=by rw[H9];exact mL hal jl
       rw[j8,Array.getElem?_append_left (by simpa using aN),List.getElem?_toArray,akh _ us len a b GC jl]at hq;rw[ec]at hd;by_cases h1:a<len
       ·rw[if_pos h1,List.getElem?_take_of_lt (mL h1 jl),ams]at hq;rw[amf (by omega)]at hd;exact r9 a b d x q hd hx hq
       ·rw[if_neg h1]at hq;rw[aml (by omega)]at hd;exact hr.rel (a-len) b d x q (by rw[<-hd];congr 1;omega) hx hq
     ·refine .vec n 0 (len+ys.length) L' i.size nP ⟨_,_,_,rfl⟩ (by simp [Gh.grow]) λ_=>⟨by omega,⟨_,_,rfl,kI,hle,by omega,λ_=>⟨w.heap.size,cap,by simp [Gh.grow,mD],by simp,by simp⟩⟩,λ_ e=> ?_⟩;simp [Gh.grow,mD,eL,e1]
theorem RY{T tx ty e k dd:Nat}{i:TypeInfo}{z:amX}{A:amV Addr}{v:amX}{ys:amT (amT AV)}{us:amT amX}(hi:bU G w h)(hT:P.underlying T=some (.slice e))(kY:P.info? e=some i)(hz:i.zero=some z)(pv:i.size=k)(xf:i.bytes=dd)(j0:z.cells.size=k)(gW:0<k)
 (hr:yw G w k ys us) (hs:Src P k tx v ys.length us w) (kM:ys.length<=maxLen) (m4:ys.length*dd<=140737488355328):
 ∃r w' G',(Builtin.append_ #[T,tx] ty #[.slice A 0 0,v]).run P w= .ok r w'/\bN G.N G w G' w'/\G.N<=G'.N/\bU G' w' (h++[.vec e k ys])/\aH G' w' r (.vec h.length 0 ys.length ys.length k):=by
 subst pv;subst xf;by_cases hy:ys.length=0
 ·have jy:ys=[]:=List.eq_nil_of_length_eq_zero hy;subst jy;have mv:us=[]:=List.eq_nil_of_length_eq_zero (by rw[hr.len];simp);subst mv;have dK:=run_append_nothing (P:=P) w T tx ty e i hT kY A 0 0 (amg _) v hs;obtain⟨hE,hI⟩:=Om (w':=w) hi (.vec e i.size []) (λ_ _=>rfl) (.slice A 0 0) 0 none ⟨λ_ _=>rfl,amg _,rfl,rfl,rfl⟩ (λg hg=>by cases hg) ⟨by simp [Gh.fb],by simp,(λ_ h=>by cases h), .inl ⟨by simp [Gh.fb],rfl,A,by simp [Gh.fb]⟩⟩;refine⟨_,w,_,dK,hE,Nat.le_succ _,hI,?_⟩;rw[hi.len];exact .vec G.N 0 0 0 i.size (by simp [Gh.fb]) ⟨_,_,_,rfl⟩ (by simp) λ_=>⟨by omega,⟨A,0,rfl,amg _,Nat.zero_le _,by omega,λh=>by omega⟩,λ_ _=>by simp [Gh.fb]⟩
 ·have O6:ys.length<=9223372036854775807:=by simp only[maxLen]at kM;omega
  have hold:(Builtin.firstCells i.size 0 (.slice A 0 0)).run P w.drew= .ok ([]:amT amX).toArray w.drew:=by
   cases A with
   |none=>exact run_firstCells_none _ _ _ _ _
   |some a=>exact run_firstCells_some _ _ _ _ _ _ [] (by simp) (λj u hu=>by simp at hu)
  have dK:=run_append_grow_src (P:=P) w T tx ty e i z hT kY hz A 0 0 [] hold v ys.length us hs (by omega) (by omega) (growslice_fits (by omega) (by simpa using m4));simp only[amp,List.nil_append]at dK;obtain⟨cap,jZ⟩:∃cap,cap=grownCap w ys.length 0 e:=⟨_,rfl⟩;have kI:ys.length<=cap:=by rw[jZ];exact grownCap_ge _ _ _ _
  have hle:cap<=maxLen:=by rw[jZ];exact grownCap_le_maxLen _ _ _ _ kM
  rw[<-jZ]at dK;obtain⟨cur,j8⟩:∃cur,cur=us.toArray++Builtin.zeroCells z.cells (cap-ys.length):=⟨_,rfl⟩;rw[<-j8]at dK;have gO:cur.size=cap*i.size:=by
    have:=size_zeroCells z.cells (cap-ys.length);rw[j8,Array.size_append,this,List.size_toArray,hr.len,j0,<-Nat.add_mul]
    congr 1
    omega
  obtain⟨G',g1,g2,g3,g4⟩:=Pa (e:=e) (k:=i.size) (cap:=cap) (cs:=ys) (cur:=cur) hi kI hle gO hr.wid w.drew ⟨rfl,rfl,rfl,rfl⟩ (λa b d x q hd hx hq=>by
   have jl:b<i.size:=by rw[<-hr.wid d (ami hd)];exact(al5.1 hx).1
   have aN:a*i.size+b<us.length:=by rw[hr.len];exact mL (al5.1 hd).1 jl
   rw[j8,Array.getElem?_append_left (by simpa using aN),List.getElem?_toArray]at hq;exact hr.rel a b d x q hd hx hq)
  exact⟨_,_,G',dK,g1,g2,g3,g4 _ (amg _)⟩
end
theorem PM:∀(cs:amT AV)(l:amT fp),AV.wP cs=some l->cs.length=l.length/\∀(i:Nat)(x:AV)(c:fp),cs[i]?=some x->l[i]?=some c->x.cap=some c
 |[],l,h=>by
  unfold AV.wP at h;cases h;exact⟨rfl,λi x c hx=>by simp at hx⟩
 |x::cs,l,h=>by
  unfold AV.wP at h;split at h
  ·next c l' e1 e2=>
   cases h
   obtain⟨h1,h2⟩:=PM cs l' e2;refine⟨by simp [h1],λi y d hy hd=> ?_⟩
   match i with
   |0=>simp only[List.getElem?_cons_zero,Option.some.injEq]at hy hd;subst hy;subst hd;exact e1
   |i+1=>exact h2 i y d (by simpa using hy) (by simpa using hd)
  ·cases h
theorem aH.cap{G:Gh}{w:amY}{u:amX}{x:AV}(h:aH G w u x):∀c,x.cap=some c->nu G.S w u c:=by
 induction h with
 |d h=>intro c hc;simp only[AV.cap]at hc;cases hc;exact .d h
 |own n xs h hp hle hf=>intro c hc;simp only[AV.cap]at hc;cases hc;exact .d hp
 |full xs hp hf=>intro c hc;simp only[AV.cap]at hc;cases hc;exact .d hp
 |bp xs i off b o u x hx hS hu=>
  intro c hc;simp only[AV.cap,hx]at hc;cases hc
  exact .bp x off b o u hS hu
 |fn f vs cs hl h ih=>
  intro c hc;simp only[AV.cap]at hc;split at hc
  ·next l e=>
   cases hc
   obtain⟨h1,h2⟩:=PM cs l e;refine .fn f vs l (hl.trans h1) λi v d hv hd=> ?_;have aN:i<cs.length:=by rw[h1];exact(al5.1 hd).1
   exact ih i v _ hv (al9 aN) d (h2 i _ d (al9 aN) hd)
  ·cases hc
 |hid h h1=>intro c hc;simp only[AV.cap]at hc;cases hc;exact h
 |agg=>intro c hc;simp [AV.cap]at hc
 |aY=>intro c hc;simp [AV.cap]at hc
 |ptr=>intro c hc;simp [AV.cap]at hc
 |row=>intro c hc;simp [AV.cap]at hc
 |mp=>intro c hc;simp [AV.cap]at hc
 |cp=>intro c hc;simp [AV.cap]at hc
 |vec=>intro c hc;simp [AV.cap]at hc
 |dD=>intro c hc;simp [AV.cap]at hc
 |dead=>intro c hc;simp [AV.cap]at hc
section
variable {P:amW} {r:amV Nat} {n N0:Nat} {G:Gh} {w:amY} {a:Act} {s:St} {o:Oper} {K:St->Prop} {Q:Exit->Act->amY->Prop}
theorem vX(hs:c8 G w a s)(l:Array Operand):(l.map a.eval).size=(l.toList.map (ev s)).length/\∀(i:Nat)(u:amX)(c:AV),(l.map a.eval)[i]?=some u->(l.toList.map (ev s))[i]?=some c->aH G w u c:=by
 refine⟨by simp,λi u c hu hc=> ?_⟩;rw[Array.getElem?_map]at hu;rw[amc,ams]at hc;cases hx:l[i]? with
 |none=>rw[hx]at hu;cases hu
 |some x=>rw[hx]at hu hc;cases hu;cases hc;exact hs.ev x
theorem WJ(hs:c8 G w a s)(l:Array (Nat×Operand)):(l.map λ(i,x)=>(i,a.eval x)).toList.length=(l.toList.map λp=>(p.1,ev s p.2)).length/\
 ∀(i:Nat)(p:Nat×AV)(q:Nat×amX),(l.toList.map λp=>(p.1,ev s p.2))[i]?=some p->(l.map λ(i,x)=>(i,a.eval x)).toList[i]?=some q->q.1=p.1/\aH G w q.2 p.2:=by
 refine⟨by simp,λi p q hp hq=> ?_⟩;rw[ams,Array.getElem?_map]at hq;rw[amc,ams]at hp;cases hx:l[i]? with
 |none=>rw[hx]at hp;cases hp
 |some x=>rw[hx]at hp hq;cases hp;cases hq;exact⟨rfl,hs.ev x.2⟩
theorem BK{x y:Operand}{T U:TypeId}(c:Call)(hc:c.callee= .builtin .append)(h1:c.args.toList=[x,y])(h2:c.argTypes.toList=[T,U])(ho:o.op= .call c):
 (execOp a.eval o).run P w=((Builtin.append_ #[T,U] o.type #[a.eval x,a.eval y]).run P w).andThen λv w'=> .ok (.value v) w':=by
 have e1:c.args= #[x,y]:=by rw[<-Array.toList_inj];exact h1
 have e2:c.argTypes= #[T,U]:=by rw[<-Array.toList_inj];exact h2
 unfold execOp;simp only[ho,resolve,hc,e1,e2,invoke,builtin,Sem.run_bind,Sem.run_pure,Result.andThen_ok,List.map_toArray,amu,List.map_nil]
theorem Y8{x:Operand}{T:TypeId}(c:Call)(hc:c.callee= .builtin .len)(h1:c.args.toList=[x])(h2:c.argTypes.toList=[T])(ho:o.op= .call c):
 (execOp a.eval o).run P w=((Builtin.len_ #[T] o.type #[a.eval x]).run P w).andThen λv w'=> .ok (.value v) w':=by
 have e1:c.args= #[x]:=by rw[<-Array.toList_inj];exact h1
 have e2:c.argTypes= #[T]:=by rw[<-Array.toList_inj];exact h2
 unfold execOp;simp only[ho,resolve,hc,e1,e2,invoke,builtin,Sem.run_bind,Sem.run_pure,Result.andThen_ok,List.map_toArray,amu,List.map_nil]
theorem afa(c:Call)(hc:c.callee= .builtin .max)(ho:o.op= .call c):
 (execOp a.eval o).run P w=((Builtin.max_ c.argTypes o.type (c.args.map a.eval)).run P w).andThen λv w'=> .ok (.value v) w':=by
 unfold execOp;simp only[ho,resolve,hc,invoke,builtin,Sem.run_bind,Sem.run_pure,Result.andThen_ok]
theorem aaf(c:Call)(hc:c.callee= .builtin .min)(ho:o.op= .call c):
 (execOp a.eval o).run P w=((Builtin.min_ c.argTypes o.type (c.args.map a.eval)).run P w).andThen λv w'=> .ok (.value v) w':=by
 unfold execOp;simp only[ho,resolve,hc,invoke,builtin,Sem.run_bind,Sem.run_pure,Result.andThen_ok]
theorem VP{mx:Bool}{k k':IntKind}{z:Int}:∀(l:amT AV)(vs:amT amX)(x:Int),vs.length=l.length->(∀(i:Nat)(u:amX)(c:AV),vs[i]?=some u->l[i]?=some c->aH G w u c)->J6 mx k x l=some (k',z)->
 (vs.foldlM (if mx then Builtin.max2 else Builtin.min2) (.int k x)).run P w= .ok (.int k' z) w
 |[],[],x,_,_,h=>by cases h;simp
 |[],_::_,_,hl,_,_=>by simp at hl
 |_::_,[],_,hl,_,_=>by simp at hl
 |y::l,u::vs,x,hl,hr,h=>by
  unfold J6 at h;split at h
  ·next e=>cases e
  ·next k2 b l' e=>
   cases e
   have e1:=(hr 0 u _ rfl rfl).val;subst e1;have ih:=VP l vs _ (by simpa using hl) (λi u c hu hc=>hr (i+1) u c (by simpa using hu) (by simpa using hc)) h;rw[List.foldlM_cons,Sem.run_bind];cases mx with
   |true=>simp only[if_true,cond_true]at ih ⊢;simp only[Builtin.max2,Sem.run_pure,Result.andThen_ok];exact ih
   |false=>simp only[Bool.false_eq_true,if_false,cond_false]at ih ⊢;simp only[Builtin.min2,Sem.run_pure,Result.andThen_ok];exact ih
  ·cases h
theorem Yi{mx:Bool}{k:IntKind}{z:Int}{l:amT AV}{vs:Array amX}(hl:vs.size=l.length)(hr:∀(i:Nat)(u:amX)(c:AV),vs[i]?=some u->l[i]?=some c->aH G w u c)(h:Bm mx l=some (k,z)):
 ∃u us,vs.toList=u::us/\(us.foldlM (if mx then Builtin.max2 else Builtin.min2) u).run P w= .ok (.int k z) w:=by
 unfold Bm at h;split at h
 ·next k2 x l'=>
  cases hv:vs.toList with
  |nil=>rw[<-amC,hv]at hl;simp at hl
  |cons u us=>
   refine⟨u,us,rfl,?_⟩;have oY:∀(i:Nat)(v:amX)(c:AV),(u::us)[i]?=some v->(AV.d (.v (.int k2 x))::l')[i]?=some c->aH G w v c:=λi v c h1 h2=>hr i v c (by rw[<-ams,hv];exact h1) h2;have e1:=(oY 0 u _ rfl rfl).val;subst e1;refine VP l' us x ?_ (λi v c h1 h2=>oY (i+1) v c (by simpa using h1) (by simpa using h2)) h;rw[<-amC,hv]at hl;simpa using hl
 ·cases h
theorem Km{f:FuncId}(h:Fz P f=true)(args:Array amX)(w:amY):(callFunc f args).run P w= .ok (.enter f args) w:=by
 unfold Fz at h;cases hq:P.funcs[f]? with
 |none=>rw[hq]at h;simp at h
 |some fn=>
  rw[hq]at h;simp only[al7,Bool.not_eq_true']at h;obtain⟨h1,h2⟩:=h;have h3:fn.body≠none:=by intro e;rw[e]at h1;cases h1
  have h4:fn.name≠ "runtime.NumGoroutine" :=by simpa using h2
  simp [callFunc,hq,h4,h3]
theorem afI(hs:c8 G w a s)(cv:N0<=G.N){x:AV}{h':amT aq}{p:Sd}(hx:pJ P o.op (ev s) s.h=some (x,h',p))(hp:p.ok)(hK:K ((s.wh h').put o.dst x)):o.wpIn (WF r) n P a w (iF N0 G w K) Q:=by
 have dp:=hs.ev;unfold pJ at hx;split at hx
 next T ho=>
  split at hx
  ·next q hT=>
   cases hx
   obtain⟨i1,i2,i3⟩:=aia hs.inv;exact l8 (by rw[ho];simp) hs cv (v:= .map (some w.heap.size)) (by unfold execOp;simp [ho,run_makeMap,Result.andThen]) i1 (Nat.le_succ _) i2 i3 hK
  ·cases hx
 next T m i ok ho=>
  split at hx
  ·next k e hT=>
   split at hx
   ·next z hz=>
    split at hx
    ·next b s' hm hi=>
     split at hx
     ·next kv hn=>
      cases hc:ia P k with
      |false=>rw[hc]at hx;cases hx
      |true=>
       rw[hc]at hx;cases hx
       obtain⟨v,r1,r2⟩:=ah4 (ok:=ok) (s:=s') hs.inv hT hz hc hn;have e1:=dp m;rw[hm]at e1;have e2:=dp i;rw[hi]at e2;have e2:=e2.val;have N5:a.eval m= .map (some (G.aR b)):=by
        generalize a.eval m=u at e1;cases e1 with|mp _ _=>rfl
       exact fx (by rw[ho];simp) hs cv (by unfold execOp;simp [ho,N5,e2,r1,Result.andThen]) r2 hK
     ·cases hx
    ·cases hx
   ·cases hx
  ·cases hx
 next T m i y ho=>
  split at hx
  ·next k e hT=>
   split at hx
   ·next b s' d hm hi hd=>
    split at hx
    ·next kv hn=>
     cases hc:ia P k with
     |false=>rw[hc]at hx;cases hx
     |true=>
      rw[hc]at hx;cases hx
      obtain⟨w',r1,r2,r3⟩:=agz (s:=s') hs.inv hT hc hn ((dp y).toM hd) hp;have e1:=dp m;rw[hm]at e1;have e2:=dp i;rw[hi]at e2;have e2:=e2.val;have N5:a.eval m= .map (some (G.aR b)):=by
       generalize a.eval m=u at e1;cases e1 with|mp _ _=>rfl
      exact My (by rw[ho];simp) hs cv (by unfold execOp;simp [ho,N5,e2,r1,Result.andThen]) r2 (amg _) r3 hK
    ·cases hx
   ·cases hx
  ·cases hx
 next=>cases hx
theorem QG(hs:c8 G w a s)(cv:N0<=G.N)(h:qK P o K s):o.wpIn (WF r) n P a w (iF N0 G w K) Q:=by
 have dp:=hs.ev;unfold qK cW at h;split at h
 next x ho=>exact fx (by rw[ho];simp) hs cv (v:=a.eval x) (by unfold execOp;rw[ho];rfl) (dp x) h
 next x ho=>exact fx (by rw[ho];simp) hs cv (v:=a.eval x) (by unfold execOp;rw[ho];rfl) (dp x) h
 next c x y ho=>
  split at h
  next t hc=>
   have hb:=dp c;rw[hc]at hb;have e:=hb.bool;cases t with
   |true=>exact fx (by rw[ho];simp) hs cv (v:=a.eval x) (by unfold execOp;simp [ho,e,asBool]) (dp x) (h.1 rfl)
   |false=>exact fx (by rw[ho];simp) hs cv (v:=a.eval y) (by unfold execOp;simp [ho,e,asBool]) (dp y) (h.2 rfl)
  next=>exact h.elim
 next e ho=>
  split at h
  next z hz=>
   obtain⟨i1,i2⟩:=Yr hs.inv z.cells e (z.cells.toList.map λu=> .d (.v u)) (by simp) (λi u c hu hc=>by
    rw[amc,ams,hu]at hc;cases hc;exact .d (.v u))
   exact l8 (by rw[ho];simp) hs cv (by unfold execOp;simp [ho,Instr.alloc,DT hz,newVar,newRow]) (sk G w hs.inv.z hs.inv.S _) (Nat.le_succ _) i1 i2 h
  next=>exact h.elim
 next e x ho=>
  obtain⟨hb,hK⟩:=bV.1 h;have hr:=(dp x).XB hb;obtain⟨i1,i2⟩:=Yr hs.inv (a.eval x).cells e (ev s x).cells hr.len hr.rel;exact l8 (by rw[ho];simp) hs cv (by unfold execOp;simp [ho,Instr.box,newVar,newRow]) (sk G w hs.inv.z hs.inv.S _) (Nat.le_succ _) i1 i2 hK
 next t x ho=>
  obtain⟨u,y,h1,h2,h3⟩:=Yf hs.inv (dp x) h;exact fx (by rw[ho];simp) hs cv (by unfold execOp;simp [ho,h1]) h2 h3
 next t x y ho=>
  unfold xq at h;split at h
  next m off hm=>
   split at h
   next cs gO=>
    split at h
    case h_2=>exact h.elim
    rename_i k hk
    obtain⟨fD,h4⟩:=bV.1 h;simp only[al7,beq_iff_eq,dq]at fD;obtain⟨⟨rfl,h2⟩,h3⟩:=fD;have h1:=hk;have hx:=dp x;rw[hm]at hx;obtain⟨w',r1,r2,r3⟩:=adh (P:=P) hs.inv gO (dp y) h2 h1 h3;have ex:a.eval x= .pointer (some ⟨G.aR m,off,none⟩):=by
     generalize a.eval x=u at hx;cases hx with
     |ptr=>rfl
    exact My (by rw[ho];simp) hs cv (by unfold execOp;simp [ho,Instr.storeAt,Instr.sureAddr,ex,r1]) r2 (amg _) r3 h4
   next=>exact h.elim
  next=>exact h.elim
 next x ho=>
  have hx:=dp x;split at h
  next m off hm=>
   rw[hm]at hx;generalize ea:a.eval x=u at hx;cases hx with
   |ptr _ _ xn=>exact fx (by rw[ho];simp) hs cv (by unfold execOp;simp [ho,ea]) (.ptr m off xn) h
  next xs i off hm=>
   rw[hm]at hx;generalize ea:a.eval x=u at hx;have AG:=hx;cases hx with
   |bp=>exact fx (by rw[ho];simp) hs cv (by unfold execOp;simp [ho,ea]) AG h
  next f cs hm=>
   rw[hm]at hx;generalize ea:a.eval x=u at hx;have AG:=hx;cases hx with
   |fn=>exact fx (by rw[ho];simp) hs cv (by unfold execOp;simp [ho,ea]) AG h
  next=>exact h.elim
 next T x f ho=>
  split at h
  next fo k g hT=>
   have hx:=dp x;split at h
   next m off hm=>
    rw[hm]at hx;generalize ea:a.eval x=u at hx;cases hx with
    |ptr _ _ xn=>exact fx (by rw[ho];simp) hs cv (by unfold execOp;simp [ho,ea,Pm hT]) (.ptr m (off+fo) xn) h
   next xs i off hm=>
    rw[hm]at hx;generalize ea:a.eval x=u at hx;cases hx with
    |bp _ _ _ b oo us c hx hS hu=>exact fx (by rw[ho];simp) hs cv (by unfold execOp;simp [ho,ea,Pm hT];rfl) (by rw[Nat.add_assoc];exact .bp xs i (off+fo) b oo us c hx hS hu) h
   next=>exact h.elim
  next=>exact h.elim
 next T x f ho=>
  obtain⟨u,y,h1,h2,h3⟩:=ajg (dp x) h;exact fx (by rw[ho];simp) hs cv (by unfold execOp;simp [ho,h1]) h2 h3
 next T x i ho=>
  obtain⟨u,y,h1,h2,h3⟩:=acZ (dp x) (dp i) h;exact fx (by rw[ho];simp) hs cv (by unfold execOp;simp [ho,h1]) h2 h3
 next T x i ho=>
  split at h
  next b z hb hz=>
   obtain⟨hT,h0,h⟩:=bV.1 h;have hT:=sy hT;have hx:=dp x;rw[hb]at hx;have ex:=hx.val;obtain⟨k,ei⟩:=(dp i).int hz;split at h
   next c hc=>
    refine fx (by rw[ho];simp) hs cv (v:= .int .u8 c.toNat) ?_ (.d (.v _)) h;unfold execOp;simp [ho,Instr.index,ex,ei,asIntOf,run_underlying hT,h0,hc]
   next=>exact h.elim
  next=>exact h.elim
 next T ps ho=>
  obtain⟨p1,p2⟩:=WJ hs ps;obtain⟨u,y,h1,h2,h3⟩:=run_aBuild p1 p2 h;exact fx (by rw[ho];simp) hs cv (by unfold execOp;simp only[ho,Sem.run_bind,h1];rfl) h2 h3
 next T len ps ho=>
  obtain⟨p1,p2⟩:=WJ hs ps;obtain⟨u,w',G',y,h1,h2,h3,h4,h5,h6⟩:=ae5 (T:=T) hs.inv p1 p2 h;exact l8 (by rw[ho];simp) hs cv (by unfold execOp;simp only[ho,Sem.run_bind,h1];rfl) h2 h3 h4 h5 h6
 next T x lo hi mx ho=>
  obtain⟨u,y,h1,h2,h3⟩:=adG hs (dp x) h;exact fx (by rw[ho];simp) hs cv (by unfold execOp;simp [ho,h1]) h2 h3
 next x i ho=>
  have hx:=dp x;split at h
  next cs gO=>
   rw[gO]at hx;generalize ea:a.eval x=u at hx;split at h
   next c hc=>
    cases hx with
    |aY vs _ hl hr=>
     have aN:i<vs.size:=by rw[hl];exact(al5.1 hc).1
     exact fx (by rw[ho];simp) hs cv (v:=vs[i]) (by unfold execOp;simp [ho,ea,Instr.extract,aN]) (hr i _ c (amr aN) hc) h
   next=>exact h.elim
  next=>exact h.elim
 next f first dg ho=>
  split at h
  ·next x hx=>
   unfold PG at hx;split at hx
   ·next e1=>
    cases hx
    have adk:first= #[]:=by
     rw[<-Array.toList_inj];exact List.map_eq_nil_iff.1 e1
    subst adk;obtain⟨p1,p2⟩:=vX hs dg;exact fx (by rw[ho];simp) hs cv (v:= .func (.func f) #[] (dg.map a.eval)) (by unfold execOp;simp [ho,Instr.makeFunc]) (.fn f _ _ p1 p2) h
   ·split at hx
    ·next cs e1 e2=>
     cases hx
     have ahv:dg= #[]:=by
      rw[<-Array.toList_inj];exact List.map_eq_nil_iff.1 e2
     subst ahv;obtain⟨p1,p2⟩:=vX hs first
     obtain⟨c1,c2⟩:=PM _ _ e1;exact fx (by rw[ho];simp) hs cv (v:= .func (.func f) (first.map a.eval) #[]) (by unfold execOp;simp [ho,Instr.makeFunc]) (.hid (.nA f _ _ (p1.trans c1) λi u c hu hc=>by
      have aN:i<(first.toList.map (ev s)).length:=by rw[c1];exact(al5.1 hc).1
      exact(p2 i u _ hu (al9 aN)).cap c (c2 i _ c (al9 aN) hc)) rfl) h
    ·cases hx
  ·exact h.elim
 next op T x y U ho=>
  obtain⟨u,z,h1,h2,h3⟩:=abL (X:=x) (Y:=y) (dp x) (dp y) h;refine fx (by rw[ho];simp) hs cv ?_ h2 h3;unfold execOp;simp only[ho];rw[Sem.run_bind,h1];rfl
 next op T x ho=>
  obtain⟨u,z,h1,h2,h3⟩:=alv (P:=P) (dp x) h;exact fx (by rw[ho];simp) hs cv (by unfold execOp;simp [ho,h1]) h2 h3
 next t u x ho=>
  obtain⟨u,z,h1,h2,h3⟩:=agd (dp x) h;exact fx (by rw[ho];simp) hs cv (by unfold execOp;simp [ho,h1]) h2 h3
 next c ho=>
  have jV:∀c,o.op≠ .defer c:=by rw[ho];simp
  split at h
  next hc=>
   split at h
   next x T h1 h2=>
    obtain⟨m,r1,r2⟩:=aeH (ty:=o.type) (dp x) h;exact fx jV hs cv (by rw[Y8 c hc h1 h2 ho,r1];rfl) (.d (.v _)) r2
   next=>exact h.elim
  next hc=>
   split at h
   next x y T U h1 h2=>
    obtain⟨hU,h⟩:=bV.1 h;obtain⟨⟨e',k'⟩,hU⟩:=Option.isSome_iff_exists.1 hU;obtain⟨p,w',G',q,h',r1,r2,r3,r4,r5,r6⟩:=alm (ty:=o.type) hs.inv (dp x) (dp y) (jN hU).1 h;exact l8 jV hs cv (by rw[BK c hc h1 h2 ho,r1];rfl) r2 r3 r4 r5 r6
   next=>exact h.elim
  next hc=>
   split at h
   next k z hf=>
    obtain⟨p1,p2⟩:=vX hs c.args;obtain⟨u,us,e1,e2⟩:=Yi (P:=P) p1 p2 hf;refine fx jV hs cv (v:= .int k z) ?_ (.d (.v _)) h;rw[afa c hc ho];unfold Builtin.max_;rw[e1];simp only[if_true]at e2;rw[e2];rfl
   next=>exact h.elim
  next hc=>
   split at h
   next k z hf=>
    obtain⟨p1,p2⟩:=vX hs c.args;obtain⟨u,us,e1,e2⟩:=Yi (P:=P) p1 p2 hf;refine fx jV hs cv (v:= .int k z) ?_ (.d (.v _)) h;rw[aaf c hc ho];unfold Builtin.min_;rw[e1];simp only[Bool.false_eq_true,if_false]at e2;rw[e2];rfl
   next=>exact h.elim
  next f hc=>
   have call:∀(g:FuncId)(dg:amT AV)(vs:Array amX),a.eval f= .func (.func g) #[] vs->vs.size=dg.length->(∀(i:Nat)(u:amX)(c:AV),vs[i]?=some u->dg[i]?=some c->aH G w u c)->
       cZ P g (c.args.toList.map (ev s)++dg) s.h (λr h'=>K ((s.wh h').put o.dst r))->o.wpIn (WF r) n P a w (iF N0 G w K) Q:=by
       intro g dg vs ea hl hr h;obtain⟨p1,p2⟩:=vX hs c.args;obtain⟨EP,jB⟩:=h;have rl:=jB G w (c.args.map a.eval++vs) hs.inv (by rw[Array.size_append,al6,p1,hl]) (λi u x hu hx=>by
        by_cases hi:i<(c.args.map a.eval).size
        ·rw[Array.getElem?_append_left hi]at hu;rw[amf (by rw[<-p1];exact hi)]at hx;exact p2 i u x hu hx
        ·rw[Array.getElem?_append_right (by omega)]at hu;rw[aml (by rw[<-p1];omega)]at hx;rw[p1]at hu;exact hr _ u x hu hx)
       refine⟨λ_ _=>trivial,?_⟩;have dK:(o.semAt (WF r).round a.eval).run P w= .ok (.enter g (c.args.map a.eval++vs)) w:=by
        rw[Oper.semAt_eq _ _ _ jV];unfold execOp;simp only[ho,resolve,hc,ea];simp [Deferred.ofValue,invoke,Km EP]
       rw[dK];refine⟨λh=>(by simp [WF,Fence.wide]at h),?_⟩;have h2:=callsIn_wide (n:=n-1).2 rl;refine CallsIn.mono (F:=WF r) h2 ?_;rintro e w' ⟨v,G',x,h',rfl,x1,x2,x3,x4,x5⟩;exact⟨G',_,x1.less cv,amn cv x2,(hs.move x1 x2 x3).put x4 o.dst,x5⟩
   have agl:∀(g:FuncId)(dg:amT AV)(vs:Array amX),a.eval f= .func (.func g) vs #[]->vs.size=dg.length->(∀(i:Nat)(u:amX)(c:AV),vs[i]?=some u->dg[i]?=some c->aH G w u c)->
       cZ P g (dg++c.args.toList.map (ev s)) s.h (λr h'=>K ((s.wh h').put o.dst r))->o.wpIn (WF r) n P a w (iF N0 G w K) Q:=by
       intro g dg vs ea hl hr h;obtain⟨p1,p2⟩:=vX hs c.args;obtain⟨EP,jB⟩:=h;have rl:=jB G w (vs++c.args.map a.eval) hs.inv (by rw[Array.size_append,al6,p1,hl]) (λi u x hu hx=>by
        by_cases hi:i<vs.size
        ·rw[Array.getElem?_append_left hi]at hu;rw[amf (by rw[<-hl];exact hi)]at hx;exact hr i u x hu hx
        ·rw[Array.getElem?_append_right (by omega)]at hu;rw[aml (by rw[<-hl];omega)]at hx;rw[hl]at hu;exact p2 _ u x hu hx)
       refine⟨λ_ _=>trivial,?_⟩;have dK:(o.semAt (WF r).round a.eval).run P w= .ok (.enter g (vs++c.args.map a.eval)) w:=by
        rw[Oper.semAt_eq _ _ _ jV];unfold execOp;simp only[ho,resolve,hc,ea];simp [Deferred.ofValue,invoke,Km EP]
       rw[dK];refine⟨λh=>(by simp [WF,Fence.wide]at h),?_⟩;have h2:=callsIn_wide (n:=n-1).2 rl;refine CallsIn.mono (F:=WF r) h2 ?_;rintro e w' ⟨v,G',x,h',rfl,x1,x2,x3,x4,x5⟩;exact⟨G',_,x1.less cv,amn cv x2,(hs.move x1 x2 x3).put x4 o.dst,x5⟩
   split at h
   next g dg hg=>
    have hf:=dp f;rw[hg]at hf;generalize ea:a.eval f=u at hf;cases hf with
    |fn _ vs _ hl hr=>exact call g dg vs ea hl hr h
   next q hg=>
    obtain⟨g,as,eq,h⟩:=h;have hf:=dp f;rw[hg]at hf;generalize ea:a.eval f=u at hf;cases hf with
    |hid hq h1=>
     cases hq with
     |d _=>simp [fp.app]at eq
     |bp _ _ _ _ _ _ _=>simp [fp.app]at eq
     |nA g0 vs cs hl hr=>
      simp only[fp.app,Option.some.injEq,Prod.mk.injEq]at eq;obtain⟨rfl,rfl⟩:=eq;exact agl _ (cs.map fp.av) vs ea (by rw[ama];exact hl) (λi u c hu hc=>by
       rw[amc]at hc;cases hx:cs[i]? with
       |none=>rw[hx]at hc;cases hc
       |some d=>rw[hx]at hc;cases hc;exact(hr i u d hu hx).av) h
     |fn g0 vs cs hl hr=>
      simp only[fp.app,Option.some.injEq,Prod.mk.injEq]at eq;obtain⟨rfl,rfl⟩:=eq;exact call _ (cs.map fp.av) vs ea (by rw[ama];exact hl) (λi u c hu hc=>by
       rw[amc]at hc;cases hx:cs[i]? with
       |none=>rw[hx]at hc;cases hc
       |some d=>rw[hx]at hc;cases hc;exact(hr i u d hu hx).av) h
   next=>exact h.elim
  next=>exact h.elim
 next op _=>
  split at h
  next x h' p hx=>exact afI hs cv hx h.1 h.2
  next=>exact h.elim
theorem Kn(hs:c8 G w a s){x:amV Operand}{d:Nat}{z:Int}(h:tw (ev s) d x=some z)(h0:0<=z):Bj a x d z.toNat:=by
 cases x with
 |none=>
  simp only[tw,Option.some.injEq]at h;subst h;show _=d;exact amw d
 |some y=>
  simp only[tw]at h;obtain⟨k,e⟩:=(hs.ev y).int h;exact⟨k,z,e,h0,rfl⟩
theorem mo{α:Type}{b:Bool}{x y:α}(h:(bif b then some x else none)=some y):b=true/\x=y:=by
 cases b with
 |true=>exact⟨rfl,amo h⟩
 |false=>cases h
theorem alL{α:Type}{b:Bool}{x:amV α}{y:α}(h:(bif b then x else none)=some y):b=true/\x=some y:=by
 cases b with
 |true=>exact⟨rfl,h⟩
 |false=>cases h
theorem W9(hs:c8 G w a s)(cv:N0<=G.N)(h:HU P o K s):o.wpIn (WF r) n P a w (iF N0 G w K) Q:=by
 obtain⟨va,x,h',p,hx,hp,hK⟩:=h;have dp:=hs.ev;unfold im at hx;split at hx
 next T y i ho=>
  split at hx
  ·next n' o' len L k z e k' i' e1 e2 e3=>
   split at hx
   ·next e4 k2 cs hn=>
    obtain⟨hb,he⟩:=mo hx;cases he
    rw[al7,beq_iff_eq,beq_iff_eq]at hb;obtain⟨rfl,rfl⟩:=hb;obtain⟨hL,h0,aN,rfl⟩:=hp;obtain⟨fJ,fZ⟩:=jN e3;obtain⟨kz,ez⟩:=(dp i).int e2;have hv:=dp y;rw[e1]at hv;have lz:=hv.tP hs.inv hn hL;obtain⟨yO,⟨A,c,q1,q2,q3,q4,q5⟩,_⟩:=lz;obtain⟨g,cap,s1,rfl,s3⟩:=q5 (by omega);have Pc:z<(len:Int):=aN;refine fx (by rw[ho];simp) hs cv (v:= .pointer (some ⟨g,o'*k2+z.toNat*k2,none⟩)) ?_ (.dD n' (o'+z.toNat) 0 L k2 (hs.inv.lt hn) ⟨_,_,rfl⟩ (by rw[(hs.inv.dk n' _ hn).1,hL];exact amg _) λ_=>⟨by omega,g,cap,s1,?_⟩) hK
    ·unfold execOp;simp [ho,q1,ez,Instr.indexAt,asIntOf,run_underlying fJ,h0,Pc,mn fZ,lQ]
    ·rw[Nat.add_mul];rfl
   ·cases hx
  ·cases hx
 next T y f ho=>
  split at hx
  ·next n' i j L k fo q g e1 hT=>
   cases hx
   have hv:=dp y;rw[e1]at hv;generalize ea:a.eval y=u at hv;cases hv with
   |dD _ _ _ _ _ nP MG hL hf=>
    obtain⟨pb,pq,rfl⟩:=MG;refine fx (by rw[ho];simp) hs cv (v:= .pointer (some ⟨pb,pq+fo,none⟩)) (by unfold execOp;simp [ho,ea,Pm hT]) (.dD n' i (j+fo) L k nP ⟨_,_,rfl⟩ hL λe=> ?_) hK;obtain⟨a1,g2,cap,a2,a3⟩:=hf e;refine⟨a1,g2,cap,a2,?_⟩;injection a3 with a3;injection a3 with a3;injection a3 with a4 a5;subst a4;subst a5;rw[Nat.add_assoc]
  ·cases hx
 next y ho=>
  split at hx
  ·next n' i j L k e1=>
   cases hx
   have hv:=dp y;rw[e1]at hv;have Sy:=hv;generalize ea:a.eval y=u at hv Sy;cases hv with
   |dD _ _ _ _ _ nP MG hL hf=>
    obtain⟨pb,pq,rfl⟩:=MG;exact fx (by rw[ho];simp) hs cv (by unfold execOp;simp [ho,ea]) Sy hK
  ·cases hx
 next t y ho=>
  split at hx
  ·next n' i j L k c e1=>
   split at hx
   ·next e k' cs z hn hz=>
    obtain⟨hb,he⟩:=mo hx;cases he
    rw[beq_iff_eq]at hb;subst hb;have hv:=dp y;rw[e1]at hv;obtain⟨u,r1,r2⟩:=ZX hs.inv hn hp.1 hp.2 hz hv;exact fx (by rw[ho];simp) hs cv (by unfold execOp;simp [ho,r1]) r2 hK
   ·cases hx
  ·cases hx
 next t y z ho=>
  split at hx
  ·next n' i j L k c cD e1=>
   split at hx
   ·next e k' cs q hn hq=>
    obtain⟨hb,he⟩:=mo hx;cases he
    simp only[al7,beq_iff_eq,dq]at hb;obtain⟨⟨⟨⟨rfl,rfl⟩,L3⟩,hj⟩,gW⟩:=hb;obtain⟨hL,hc,rfl⟩:=hp;have hv:=dp y;rw[e1]at hv;obtain⟨w',G',r1,r2,r3,r4⟩:=acx hs.inv hn hL hc hv (dp z) L3 hq hj gW;exact My (by rw[ho];simp) hs cv (by unfold execOp;simp [ho,r1]) r2 r3 r4 hK
   ·cases hx
  ·cases hx
 next T y lo hi ho=>
  split at hx
  ·next n' o' len L k e k' oo ll e1 hT=>
   split at hx
   ·next l u hl hu=>
    split at hx
    ·next e4 k2 cs hn=>
     obtain⟨hb,he⟩:=mo hx;cases he
     rw[al7,beq_iff_eq,beq_iff_eq]at hb;obtain⟨rfl,rfl⟩:=hb;obtain⟨hL,h0,hlu,huL,rfl,rfl⟩:=hp;obtain⟨fJ,fZ⟩:=jN hT;have hv:=dp y;rw[e1]at hv;have lz:=hv.tP hs.inv hn hL;obtain⟨yO,⟨A,c,q1,q2,q3,q4,q5⟩,_⟩:=lz;have hb:=DH (P:=P) (x6:=true) (Kn hs hl h0) (Kn hs hu (by omega)) (by omega) (show u.toNat<=c by omega) w;refine fx (by rw[ho];simp) hs cv (v:= .slice (if c=l.toNat then A else A.map (·.add (l.toNat*k2))) (u.toNat-l.toNat) (c-l.toNat)) ?_ (.vec n' (o'+l.toNat) (u.toNat-l.toNat) L k2 (hs.inv.lt hn) ⟨_,_,_,rfl⟩ (by rw[(hs.inv.dk n' _ hn).1,hL];exact amg _) λ_=>⟨by omega,⟨_,_,rfl,by omega,by omega,by omega,λho2=> ?_⟩,λh1 h2=> ?_⟩) hK
     ·unfold execOp;simp [ho,q1,Instr.sliceAt,Instr.slice,run_underlying fJ,hb,mn fZ]
     ·obtain⟨g,cap,s1,rfl,s3⟩:=q5 (by omega);refine⟨g,cap,s1,?_,by omega⟩;rw[if_neg (by omega)];simp [lQ,Nat.add_mul]
     ·have Z5:o'=0:=by omega
      have HT:l.toNat=0:=by omega
      subst Z5;rw[HT];rw[HT]at h2;simp only[Nat.sub_zero]at h2 ⊢;by_cases wH:L=0
      ·subst wH;have:len=0:=by omega
       subst this
       rename_i fD
       rw[<-fD rfl rfl,q1,h2];split
       ·rfl
       ·cases A<;>simp [Addr.add]
      ·obtain⟨g,cap,s1,rfl,s3⟩:=q5 (by omega);rw[s1,h2];have:c=cap:=by omega
       subst this;split<;>simp [lQ]
    ·cases hx
   ·cases hx
  ·cases hx
 next T l c ho=>
  split at hx
  ·next e k z1 z2 cs len m hT e1 e2=>
   split at hx
   ·next z dd hz pW=>
    obtain⟨hb,he⟩:=mo hx;cases he
    simp only[al7,beq_iff_eq,dq]at hb;obtain⟨⟨gW,j0⟩,_⟩:=hb;obtain⟨h0,lk,hl,hc,rfl,hm,lM⟩:=hp;obtain⟨fJ,fZ⟩:=jN hT;obtain⟨inf,i1,i2,i3⟩:=P3 fZ pW;have CA:inf.zero=some z:=by
     obtain⟨i',j1,j2⟩:=II hz;rw[i1]at j1;cases j1;exact j2
    obtain⟨k1,ez1⟩:=(dp l).int e1;obtain⟨k2,ez2⟩:=(dp c).int e2;obtain⟨u,w',G',r1,r2,r3,r4,r5⟩:=adr (kl:=k1) (kc:=k2) hs.inv fJ i1 CA i2 i3 j0 gW h0 lk hl hc hm lM;exact l8 (by rw[ho];simp) hs cv (by unfold execOp;simp [ho,ez1,ez2,r1]) r2 r3 r4 r5 hK
   ·cases hx
  ·cases hx
 next c ho=>
  have jV:∀c,o.op≠ .defer c:=by rw[ho];simp
  split at hx
  next hc=>
   split at hx
   ·next y T h1 h2=>
    split at hx
    ·next n' oo len L k e1=>
     split at hx
     ·next e4 k2 cs hn=>
      obtain⟨hb,he⟩:=mo hx;cases he
      rw[al7,beq_iff_eq]at hb;obtain⟨hT,rfl⟩:=hb;obtain⟨⟨e,q⟩,hT⟩:=Option.isSome_iff_exists.1 hT;have hv:=dp y;rw[e1]at hv;have lz:=hv.tP hs.inv hn hp;obtain⟨yO,⟨A,cc,q1,q2,q3,q4,q5⟩,_⟩:=lz;exact fx jV hs cv (v:= .int .i64 len) (by rw[Y8 c hc h1 h2 ho,q1];simp [Builtin.len_,run_underlying (jN hT).1,goInt]) (.d (.v _)) hK
     ·cases hx
    ·cases hx
   ·cases hx
  next hc=>
   split at hx
   ·next y z T U h1 h2=>
    split at hx
    ·next e k pU cD ys L' gX hT hU=>
     split at hx
     ·next z0 dd hz pW=>
      obtain⟨hb,hx⟩:=alL hx;rw[al7,beq_iff_eq,dq]at hb;obtain⟨gW,j0⟩:=hb;obtain⟨fJ,fZ⟩:=jN hT;obtain⟨inf,i1,i2,i3⟩:=P3 fZ pW;have CA:inf.zero=some z0:=by
       obtain⟨i',j1,j2⟩:=II hz;rw[i1]at j1;cases j1;exact j2
      have jE:z0.cells.size=k:=by rw[<-amC];exact j0
      obtain⟨eU,kU⟩:=pU;split at hx
      ·next n' oo len L k1 e1=>
       split at hx
       ·next e4 k2 cs hn=>
        obtain⟨hb,he⟩:=mo hx;cases he
        simp only[al7,beq_iff_eq]at hb;obtain⟨⟨rfl,rfl⟩,rfl⟩:=hb;obtain⟨hL,xb,rfl,qh⟩:=hp;obtain⟨us,hr,DZ⟩:=LY (tx:=U) hs.inv (dp z) xb gW (jN hU).1;have hv:=dp y;rw[e1]at hv;obtain⟨u,w',G',r1,r2,r3,r4,r5⟩:=ahW (ty:=o.type) hs.inv fJ i1 CA i2 i3 jE gW hn hL hv hr DZ qh;exact l8 jV hs cv (by rw[BK c hc h1 h2 ho,r1];rfl) r2 r3 r4 r5 hK
       ·cases hx
      ·next e1=>
       cases hx
       obtain⟨xb,rfl,rfl,rfl,kM,m4⟩:=hp;obtain⟨us,hr,DZ⟩:=LY (tx:=U) hs.inv (dp z) xb gW (jN hU).1;have hv:=dp y;rw[e1]at hv;have ev:=hv.val;obtain⟨u,w',G',r1,r2,r3,r4,r5⟩:=RY (ty:=o.type) (A:=none) hs.inv fJ i1 CA i2 i3 jE gW hr DZ kM m4;exact l8 jV hs cv (by rw[BK c hc h1 h2 ho,ev,r1];rfl) r2 r3 r4 r5 hK
      ·next xs e1=>
       cases hx
       obtain⟨rfl,xb,rfl,rfl,rfl,kM,m4⟩:=hp;obtain⟨us,hr,DZ⟩:=LY (tx:=U) hs.inv (dp z) xb gW (jN hU).1;have hv:=dp y;rw[e1]at hv;obtain⟨A,eA⟩:∃A,a.eval y= .slice A 0 0:=by
        generalize a.eval y=u at hv;cases hv with|full _ _ hf=>exact hf
       obtain⟨u,w',G',r1,r2,r3,r4,r5⟩:=RY (ty:=o.type) (A:=A) hs.inv fJ i1 CA i2 i3 jE gW hr DZ kM m4;exact l8 jV hs cv (by rw[BK c hc h1 h2 ho,eA,r1];rfl) r2 r3 r4 r5 hK
      ·cases hx
     ·cases hx
    ·cases hx
   ·cases hx
  next=>cases hx
 next=>cases hx
theorem ahs(hs:c8 G w a s)(cv:N0<=G.N)(h:CU P o K s):o.wpIn (WF r) n P a w (iF N0 G w K) Q:=by
 have dp:=hs.ev;unfold CU at h;split at h
 ·next op T x y U ho=>
  split at h
  ·next xs pT v1 v2 hx hy hT h1 h2=>
   obtain⟨e,k⟩:=pT;have fJ:=(jN hT).1;have hv:=dp y;rw[hy]at hv;have ey:=hv.val;obtain⟨A,b,oo,c,k',u,ex,hA,_,_,_,_,_⟩:=((dp x).list hx).oP;have hg:(eqGuard op T x y (a.eval x) (a.eval y)).run P w= .ok () w:=by rw[ex,ey];unfold eqGuard;cases op<;>simp
   have dK:(binOp op T (a.eval x) (a.eval y)).run P w= .ok (if A.isNone then v1 else v2) w:=by
    rw[ex,ey];have hq:=run_equal_slice_nil (P:=P) (w:=w) T e A xs.length c fJ;cases op<;>simp [vp]at h1 h2<;>subst h1<;>subst h2<;>simp [binOp,hq]<;>cases A<;>rfl
   have hex:(execOp a.eval o).run P w= .ok (.value (if A.isNone then v1 else v2)) w:=by
    unfold execOp;simp only[ho];rw[Sem.run_bind,Sem.run_bind,hg];simp only[Result.andThen_ok];rw[dK];rfl
   cases A with
   |none=>
    have lH:xs=[]:=Classical.byContradiction λcQ=>by have:=hA cQ;cases this
    exact fx (by rw[ho];simp) hs cv hex (.d (.v _)) (h.1 lH)
   |some ad=>exact fx (by rw[ho];simp) hs cv hex (.d (.v _)) h.2
  ·exact h.elim
 ·exact h.elim
theorem M7(hs:c8 G w a s)(cv:N0<=G.N)(h:aaB P o K s):o.wpIn (WF r) n P a w (iF N0 G w K) Q:=by
 rcases h with h|h|h
 ·exact W9 hs cv h
 ·exact ahs hs cv h
 ·exact QG hs cv h
end
end Go.Proofs.YtnnapanbbbcalaaGreatDoor
