/-
  Part 1 of the proof: AbsGlob, AbsCore, AbsOps, AbsHeap, AbsStore, AbsApp, AbsOp, AbsOp2, AbsOp3, AbsMap, AbsVec, AbsVec2, AbsOp4.
-/
import Derived.WalkKit
import Derived.Laws.Strings
import Derived.Lib.Hide
import Derived.OrdersIn
import Derived.RangeFuncIn
import Derived.RangeFuncCalls
import Derived.RangeFuncLeaves
import Derived.RangeFuncFrom
import Derived.Deep.MidRow
import Derived.Laws.AppendOwn
import Derived.Maps.OwnOps
import Derived.KernelRfl
import Derived.Deep.AppendSrc
import Derived.Deep.Upon
import Derived.Laws.BytesString
import Derived.Laws.StructEq
import Derived.Laws.MakeOwn
import Derived.Laws.Cover3
namespace Go.Proofs.YtmkmibahjanejaaGreatDoor
open Go.RowKit
abbrev apI:=@Option.bind_some
abbrev apJ:=@List.getElem?_eq_some_iff
abbrev apK:=@List.length_append
abbrev apL:=@Bool.and_eq_true
abbrev apM:=@List.length_cons
abbrev apN:=@List.getElem?_eq_getElem
abbrev apO:=@List.length_map
abbrev apP:=@List.mem_cons_self
abbrev apQ:=@List.getElem?_map
abbrev apR:=@Nat.le_of_ble_eq_true
abbrev apS:=@List.mem_cons_of_mem
abbrev apT:=@List.getElem?_append_left
abbrev apU:=@Nat.le_refl
abbrev apV:=@List.length_nil
abbrev apW:=@List.mem_of_getElem?
abbrev apX:=@Nat.eq_of_beq_eq_true
abbrev apY:=@Array.getElem?_eq_some_iff
abbrev apZ:=@List.getElem?_append_right
abbrev ap0:=@List.append_assoc
abbrev ap1:=@Nat.le_trans
abbrev ap2:=@Option.some.inj
abbrev ap3:=@Nat.zero_add
abbrev ap4:=@List.append_nil
abbrev ap5:=@Array.getElem?_eq_getElem
abbrev ap6:=@Array.getElem?_toList
abbrev ap7:=@Nat.lt_of_lt_of_le
abbrev ap8:=@List.map_cons
abbrev ap9:=@List.all_eq_true
abbrev aqa:=@Int.toNat_natCast
abbrev aqb:=@Nat.not_lt_zero
abbrev aqc:=@List.getElem?_set_self
abbrev aqd:=@List.mem_cons
abbrev aqe:=@List.map_congr_left
abbrev aqf:=@List.getElem?_eq_none
abbrev aqg:=@Array.length_toList
abbrev aqh:=@List.getElem?_set_ne
abbrev aqi:=@List.drop_zero
abbrev aqj:=@List.length_replicate
abbrev aqk:=@List.getElem?_cons_succ
abbrev aql:=@List.mem_append
abbrev aqm:=@List.take_append_drop
abbrev aqn:=@Nat.lt_irrefl
abbrev aqo:=@Nat.le_add_right
abbrev aqp:=@List.not_mem_nil
abbrev aqq:=@decide_eq_true
abbrev aqr:=@decide_eq_false
abbrev aqs:=@beq_self_eq_true
abbrev aqt:=@List.all_cons
abbrev aqu:=@List.any_cons
abbrev aqv:=@Nat.lt_succ_self
abbrev aqw:=@Bool.or_eq_false_iff
abbrev aqx:Type->Type:=List
abbrev aqy:=ByteArray
abbrev aqz:Type->Type:=Option
abbrev aqA:=Program
abbrev aqB:=Value
abbrev aqC:=World
def bL(a:aqy):aqx UInt8:=a.data.toList
theorem O3(a:aqy):a.toList=bL a:=ByteArray.toList_eq a
theorem iL{a b:aqy}(h:bL a=bL b):a=b:=by cases a;cases b;simp only[bL,Array.toList_inj]at h;rw[h]
def qm(l:aqx Nat):aqx aqB:=l.map λn=>Value.int .u8 (Int.ofNat n)
def AZ(l:aqx Nat):aqx aqB:=l.map λn=>Value.int .u64 (Int.ofNat n)
def FL:aqx Nat:=(List.range 256).map λn=>bif (Nat.ble 9 n&&Nat.ble n 13)||n==32 then 1 else 0
def II:aqx Nat:=(List.range 20).map λn=>10^n
def XP:aqx Nat:=[0,1,28,2,29,14,24,3,30,22,20,15,25,17,4,8,31,27,13,23,21,19,16,7,26,12,18,6,11,5,10,9]
def VS:aqx Nat:=[0,1,56,2,57,49,28,3,61,58,42,50,38,29,17,4,62,47,59,36,45,43,51,22,53,39,33,30,24,18,12,5,63,55,48,27,60,41,37,16,46,35,44,21,52,32,23,11,54,26,40,15,34,20,31,10,25,14,19,9,13,8,7,6]
def y5:aqx (Nat×aqx aqB):=
 (1,qm FL)::
 (0,AZ II)::
 (2,qm XP)::
 (3,qm VS)::
  []
def AN:aqx (Nat×aqx aqB)->Nat->aqz (aqx aqB)
 |[],_=>none
 |(k,l)::r,g=>bif k==g then some l else AN r g
theorem Nk:∀{t:aqx (Nat×aqx aqB)}{g:Nat}{l:aqx aqB},AN t g=some l->(g,l)∈t
 |[],g,l,h=>by cases h
 |(k,l')::r,g,l,h=>by
  unfold AN at h;cases e:k==g with
  |true=>rw[e]at h;cases h;rw[beq_iff_eq]at e;subst e;simp
  |false=>rw[e]at h;exact apS _ (Nk h)
inductive D where
 |v (u:Value)
 |sl (xs:List (List D))
inductive fp where
 |d (x:D)
 |bJ (c:List D) (off:Nat)
 |fn (f:FuncId) (cs:List fp)
 |dU (f:FuncId) (cs:List fp)
inductive AV where
 |d (x:D)
 |agg (cs:List AV)
 |bz (cs:List AV)
 |ptr (n off:Nat)
 |bJ (xs:List (List D)) (i off:Nat)
 |own (n:Nat) (xs:List (List D))
 |full (xs:List (List D))
 |row (n off len cap k:Nat)
 |fn (f:FuncId) (c7:List AV)
 |mp (n:Nat)
 |cY (n:Nat)
 |vec (n o len L k:Nat)
 |dq (n i j L k:Nat)
 |hid (c:fp)
 |dead
inductive LS where
 |ready
 |busy
 |done (c:Code)
def LS.st:LS->LoopState
 | .ready=> .ready
 | .busy=> .busy
 | .done _=> .done
def LS.pd:LS->aqz Code
 | .done c=>some c
 |_=>none
inductive an where
 |cells (cs:List AV)
 |front (e:TypeId) (k len:Nat)
 |vec (e:TypeId) (k:Nat) (cs:List (List AV))
 |map (kv:List (ByteArray×D))
 |fV (kv:List (ByteArray×D))
 |lp (ls:LS) (p:Nat) (as bd:Code) (cs:List AV)
 |it (sn:Nat×List Nat) (cs:List AV)
 |aV (T:TypeId) (cs:List AV)
 |bm (e:TypeId) (b:ByteArray)
 |gone
structure Gh where
 N:Nat
 Z:Nat->Prop
 S:Nat->Nat->Prop
 aI:Nat->Nat
 sg:Nat->Value
 ow:Nat->Option Nat
 fl:Nat->Nat
 M:Nat
inductive dn(S:Nat->Nat->Prop)(w:World):Value->D->Prop
 |v (u:Value):dn S w u (.v u)
 |sl (A:Option Addr) (b o c k:Nat) (xs:List (List D)) (u:Nat->Nat->Value)
    (hA:xs≠ []->A=some ⟨b,o,none⟩) (hc:xs.length<=c) (hm:c<=maxLen)
    (hk:∀x∈xs,x.length=k)
    (hS:∀i j,i<xs.length->j<k->S b (o+i*k+j)/\w.cell? ⟨b,o+i*k+j,none⟩=some (u i j)/\(u i j).oneCell'=true)
    (hu:∀(i j:Nat)(x:List D)(d:D),xs[i]?=some x->x[j]?=some d->dn S w (u i j) d):dn S w (.slice A xs.length c) (.sl xs)
inductive ov(S:Nat->Nat->Prop)(w:World):Value->fp->Prop
 |d {u:Value} {x:D} (h:dn S w u x):ov S w u (.d x)
 |bJ (c:List D) (off b o:Nat) (u:Nat->Value) (hS:∀j,j<c.length->S b (o+j)/\w.cell? ⟨b,o+j,none⟩=some (u j)) (hu:∀(j:Nat)(d:D),c[j]?=some d->dn S w (u j) d):ov S w (.pointer (some ⟨b,o+off,none⟩)) (.bJ c off)
 |fn (f:FuncId) (vs:Array Value) (cs:List fp) (hl:vs.size=cs.length) (h:∀(i:Nat)(u:Value)(c:fp),vs[i]?=some u->cs[i]?=some c->ov S w u c):ov S w (.func (.func f) #[] vs) (.fn f cs)
 |dU (f:FuncId) (vs:Array Value) (cs:List fp) (hl:vs.size=cs.length) (h:∀(i:Nat)(u:Value)(c:fp),vs[i]?=some u->cs[i]?=some c->ov S w u c):ov S w (.func (.func f) vs #[]) (.dU f cs)
structure TY(s u:Value)(o len L k:Nat):Prop where
 ol:o+len<=L
 sl:∃A c,u= .slice A len c/\len<=c/\c<=maxLen/\L<=c+o/\(o<L->∃g cap,s= .slice (some ⟨g,0,none⟩) L cap/\A=some ⟨g,o*k,none⟩/\o+c=cap)
 all:o=0->len=L->u=s
structure UT(s u:Value)(i j L k:Nat):Prop where
 il:i<L
 pt:∃g cap,s= .slice (some ⟨g,0,none⟩) L cap/\u= .pointer (some ⟨g,i*k+j,none⟩)
inductive aD(G:Gh)(w:World):Value->AV->Prop
 |d {u:Value} {x:D} (h:dn G.S w u x):aD G w u (.d x)
 |agg (vs:Array Value) (cs:List AV) (hl:vs.size=cs.length) (h:∀(i:Nat)(u:Value)(c:AV),vs[i]?=some u->cs[i]?=some c->aD G w u c):aD G w (.agg vs) (.agg cs)
 |bz (vs:Array Value) (cs:List AV) (hl:vs.size=cs.length) (h:∀(i:Nat)(u:Value)(c:AV),vs[i]?=some u->cs[i]?=some c->aD G w u c):aD G w (.tuple vs) (.bz cs)
 |ptr (n off:Nat) (h:n<G.N):aD G w (.pointer (some ⟨G.aI n,off,none⟩)) (.ptr n off)
 |bJ (xs:List (List D)) (i off b o:Nat) (u:Nat->Value) (x:List D) (hx:xs[i]?=some x)
  (hS:∀j,j<x.length->G.S b (o+j)/\w.cell? ⟨b,o+j,none⟩=some (u j)) (hu:∀(j:Nat)(d:D),x[j]?=some d->dn G.S w (u j) d):aD G w (.pointer (some ⟨b,o+off,none⟩)) (.bJ xs i off)
 |own {u:Value} (n:Nat) (xs:List (List D)) (h:n<G.N) (hp:dn G.S w u (.sl xs)) (hle:xs.length<=G.fl n) (hf:xs.length=G.fl n->u=G.sg n):aD G w u (.own n xs)
 |full {u:Value} (xs:List (List D)) (hp:dn G.S w u (.sl xs)) (hf:∃A,u= .slice A xs.length xs.length):aD G w u (.full xs)
 |row (n off len cap k:Nat) (h:n<G.N) (hl:len<=cap) (hm:cap<=maxLen):aD G w (.slice (some ⟨G.aI n,off,none⟩) len cap) (.row n off len cap k)
 |fn (f:FuncId) (vs:Array Value) (cs:List AV) (hl:vs.size=cs.length) (h:∀(i:Nat)(u:Value)(c:AV),vs[i]?=some u->cs[i]?=some c->aD G w u c):aD G w (.func (.func f) #[] vs) (.fn f cs)
 |mp (n:Nat) (h:n<G.N):aD G w (.map (some (G.aI n))) (.mp n)
 |cY (n:Nat) (h:n<G.N):aD G w (.func (.yield (G.aI n)) #[] #[]) (.cY n)
 |vec {u:Value} (n o len L k:Nat) (h:n<G.N) (hs:∃A l c,u= .slice A l c) (hL:L<=G.fl n) (hf:L=G.fl n->TY (G.sg n) u o len L k):aD G w u (.vec n o len L k)
 |dq {u:Value} (n i j L k:Nat) (h:n<G.N) (hs:∃b q,u= .pointer (some ⟨b,q,none⟩)) (hL:L<=G.fl n) (hf:L=G.fl n->UT (G.sg n) u i j L k):aD G w u (.dq n i j L k)
 |hid {u:Value} {c:fp} (h:ov G.S w u c) (h1:u.oneCell'=true):aD G w u (.hid c)
 |dead (u:Value):aD G w u .dead
def eN:aqx (aqy×D)->aqy->aqz D
 |[],_=>none
 |(k,d)::l,s=>bif bL k==bL s then some d else eN l s
structure o6(S:Nat->Nat->Prop)(w:World)(es:Array MapEntry)(clock:Nat)(kv:List (ByteArray×D)):Prop where
 size:es.size<=maxLen
 stamped:MapKept.Stamped es clock
 ee:∀e∈es.toList,∃s d,e.key= .string s/\eN kv s=some d/\dn S w e.val d
 all:∀s d,eN kv s=some d->∃e∈es.toList,e.key= .string s
 len:es.size<=kv.length
 born:∀(i:Nat)(e:MapEntry),es[i]?=some e->e.born=i
 A2:clock=es.size
structure wx(S:Nat->Nat->Prop)(w:World)(es:Array MapEntry)(clock:Nat)(kv:List (ByteArray×D)):Prop where
 ok:o6 S w es clock kv
 ord:∀(i:Nat)(e:MapEntry),es[i]?=some e->∃p,kv[i]?=some p/\e.key= .string p.1/\dn S w e.val p.2
 all:kv.length=es.size
def an.dA(G:Gh)(n:Nat):an->aqz Nat
 | .cells _=>some (G.aI n)
 | .front _ _ _=>G.ow n
 | .vec _ _ _=>G.ow n
 | .map _=>some (G.aI n)
 | .fV _=>some (G.aI n)
 | .lp _ _ _ _ _=>some (G.aI n)
 | .it _ _=>some (G.aI n)
 | .aV _ _=>some (G.aI n)
 | .bm _ _=>G.ow n
 | .gone=>none
def bM(h:aqx an)(G:Gh)(n:Nat):aqz Nat:=(h[n]?).bind (an.dA G n)
theorem dc{h:aqx an}{G:Gh}{n:Nat}{B:an}(e:h[n]?=some B):bM h G n=B.dA G n:=by unfold bM;rw[e];rfl
theorem wR{h:aqx an}{G:Gh}{n:Nat}(e:h[n]?=none):bM h G n=none:=by unfold bM;rw[e];rfl
theorem od{h:aqx an}{G:Gh}{n b:Nat}(e:bM h G n=some b):∃B,h[n]?=some B/\B.dA G n=some b:=by
 unfold bM at e;cases hx:h[n]? with
 |none=>rw[hx]at e;cases e
 |some B=>rw[hx]at e;exact⟨B,rfl,e⟩
def Ml(v:aqB):Prop:=v= .slice none 0 0\/∃g n cap,v= .slice (some ⟨g,0,none⟩) n cap/\cap≠0
def dD(G:Gh)(w:aqC)(n:Nat):an->Prop
 | .cells cs=>¬G.Z (G.aI n)/\(∀o,¬G.S (G.aI n) o)/\∃(vs:Array aqB)(T:TypeId),w.heap[G.aI n]?=some (.cells vs T (0,0))/\vs.size=cs.length/\∀(i:Nat)(u:aqB)(c:AV),vs[i]?=some u->cs[i]?=some c->aD G w u c
 | .front e k len=>G.fl n=len/\len<=maxLen/\((G.ow n=none/\∃A,G.sg n= .slice A len len)\/
  ∃(g cap:Nat)(cur:Array aqB),G.ow n=some g/\G.sg n= .slice (some ⟨g,0,none⟩) len cap/\¬G.Z g/\w.heap[g]?=some (.cells cur e (0,0))/\len<=cap/\cap<=maxLen/\cur.size=cap*k/\∀o,len*k<=o->¬G.S g o)
 | .vec e k cs=>G.fl n=cs.length/\cs.length<=maxLen/\(∀c∈cs,c.length=k)/\((G.ow n=none/\cs=[]/\∃A,G.sg n= .slice A 0 0)\/
  ∃(g cap:Nat)(cur:Array aqB),G.ow n=some g/\G.sg n= .slice (some ⟨g,0,none⟩) cs.length cap/\¬G.Z g/\w.heap[g]?=some (.cells cur e (0,0))/\cs.length<=cap/\cap<=maxLen/\cur.size=cap*k/\(∀o,¬G.S g o)/\
   ∀(i j:Nat)(c:aqx AV)(x:AV)(u:aqB),cs[i]?=some c->c[j]?=some x->cur[i*k+j]?=some u->aD G w u x)
 | .map kv=>¬G.Z (G.aI n)/\(∀o,¬G.S (G.aI n) o)/\∃(es:Array MapEntry)(clock:Nat),w.heap[G.aI n]?=some (.map es clock)/\o6 G.S w es clock kv
 | .fV kv=>¬G.Z (G.aI n)/\(∀o,¬G.S (G.aI n) o)/\∃(es:Array MapEntry)(clock:Nat),w.heap[G.aI n]?=some (.map es clock)/\wx G.S w es clock kv
 | .lp ls p as bd cs=>¬G.Z (G.aI n)/\(∀o,¬G.S (G.aI n) o)/\∃(fn:FuncId)(tm:Array aqB)(D:Nat),w.heap[G.aI n]?=some (.loop {state:=ls.st,pending:=ls.pd,fn:=fn,tmps:=tm,params:= #[p],assign:=as,body:=bd,defers:=D})/\tm.size=cs.length/\∀(i:Nat)(u:aqB)(c:AV),tm[i]?=some u->cs[i]?=some c->aD G w u c
 | .it sn cs=>¬G.Z (G.aI n)/\(∀o,¬G.S (G.aI n) o)/\∃(fn:Nat)(vs:Array aqB)(_:Unit),w.heap[G.aI n]?=some (.mapIter (some fn) sn.1 sn.2.toArray sn.1)/\(vs.size=cs.length/\vs= #[.map (some fn)])/\∀(i:Nat)(u:aqB)(c:AV),vs[i]?=some u->cs[i]?=some c->aD G w u c
 | .aV T cs=>¬G.Z (G.aI n)/\(∀o,¬G.S (G.aI n) o)/\∃(_:Unit)(vs:Array aqB)(p:aqB),w.heap[G.aI n]?=some (.cells (#[p]++vs) T (0,0))/\(vs.size=cs.length/\(p= .pointer none\/p= .pointer (some ⟨G.aI n,0,none⟩))/\∀v∈vs.toList,Ml v)/\∀(i:Nat)(u:aqB)(c:AV),vs[i]?=some u->cs[i]?=some c->aD G w u c
 | .bm e b=>G.fl n=b.size/\b.size<=maxLen/\((G.ow n=none/\b.size=0/\∃A,G.sg n= .slice A 0 0)\/
  ∃(g cap:Nat)(cur:Array aqB),G.ow n=some g/\G.sg n= .slice (some ⟨g,0,none⟩) b.size cap/\¬G.Z g/\w.heap[g]?=some (.cells cur e (0,0))/\b.size<=cap/\cap<=maxLen/\cur.size=cap/\(∀o,¬G.S g o)/\∀(i:Nat)(u:UInt8),(bL b)[i]?=some u->cur[i]?=some (.int .u8 u.toNat))
 | .gone=>True
def FJ(G:Gh)(w:aqC):Prop:=(∀(g:Nat)(l:aqx aqB),(g,l)∈y5->∀(j:Nat)(v:aqB),l[j]?=some v->G.S g j/\w.cell? ⟨g,j,none⟩=some v)/\G.M<=w.heap.size
structure bD(G:Gh)(w:World)(h:List an):Prop where
 len:h.length=G.N
 z:∀b,G.Z b->b<w.heap.size
 S:∀b o,G.S b o->b<w.heap.size
 cD:∀(n:Nat)(B:an),h[n]?=some B->dD G w n B
 inj:∀(m n b:Nat),bM h G m=some b->bM h G n=some b->m=n
 gl:FJ G w
structure bI(N:Nat)(G:Gh)(w:World)(G':Gh)(w':World):Prop where
 size:w.heap.size<=w'.heap.size
 S:∀b o,G.S b o->G'.S b o
 cell:∀b o,G.S b o->w'.cell? ⟨b,o,none⟩=w.cell? ⟨b,o,none⟩
 aI:∀n,n<N->G'.aI n=G.aI n
 fr:∀n,n<N->(G'.fl n=G.fl n/\G'.sg n=G.sg n)\/G.fl n<G'.fl n
 Z:((∀b,G.Z b->G'.Z b)/\∀b,G'.Z b->G.Z b\/w.heap.size<=b)/\G'.M=G.M
 old:∀b,G.Z b->w'.heap[b]?=w.heap[b]?
 os:w'.os=w.os
 tape:w'.tape=w.tape
 output:w'.output=w.output
 new:∀b o,G'.S b o->G.S b o\/¬G.Z b
theorem gp{Z Z':Nat->Prop}{m M M':Nat}(h:Z'=Z)(hM:M'=M:=by rfl):((∀b,Z b->Z' b)/\∀b,Z' b->Z b\/m<=b)/\M'=M:=⟨⟨λ_ k=>h▸k,λ_ k=> .inl (h▸k)⟩,hM⟩
theorem bI.refl(N:Nat)(G:Gh)(w:aqC):bI N G w G w:=
 ⟨apU _,λ_ _ h=>h,λ_ _ _=>rfl,λ_ _=>rfl,λ_ _=> .inl ⟨rfl,rfl⟩,gp rfl,λ_ _=>rfl,rfl,rfl,rfl,λ_ _ h=> .inl h⟩
theorem bI.trans{N:Nat}{G G1 G2:Gh}{w w1 w2:aqC}(h:bI N G w G1 w1)(k:bI N G1 w1 G2 w2):bI N G w G2 w2:=
 ⟨ap1 h.size k.size,λb o hs=>k.S b o (h.S b o hs),λb o hs=>(k.cell b o (h.S b o hs)).trans (h.cell b o hs),λn hn=>(k.aI n hn).trans (h.aI n hn),
  λn hn=>by
   rcases h.fr n hn with⟨h1,h2⟩|h1<;>rcases k.fr n hn with⟨k1,k2⟩|k1
   ·exact .inl ⟨k1.trans h1,k2.trans h2⟩
   ·exact .inr (h1▸k1)
   ·exact .inr (k1▸h1)
   ·exact .inr (Nat.lt_trans h1 k1),
  ⟨⟨λb hb=>k.Z.1.1 b (h.Z.1.1 b hb),λb hb=>(k.Z.1.2 b hb).elim (h.Z.1.2 b) λhs=> .inr (ap1 h.size hs)⟩,k.Z.2.trans h.Z.2⟩,λb hb=>(k.old b (h.Z.1.1 b hb)).trans (h.old b hb),k.os.trans h.os,k.tape.trans h.tape,k.output.trans h.output,λb o hs=>(k.new b o hs).elim (h.new b o) (λhn=> .inr λhz=>hn (h.Z.1.1 b hz))⟩
theorem bI.less{N M:Nat}{G G':Gh}{w w':aqC}(h:bI N G w G' w')(hM:M<=N):bI M G w G' w':=
 ⟨h.size,h.S,h.cell,λn hn=>h.aI n (ap7 hn hM),λn hn=>h.fr n (ap7 hn hM),h.Z,h.old,h.os,h.tape,h.output,h.new⟩
theorem bI.kY{N:Nat}{G G':Gh}{w w':aqC}(h:bI N G w G' w'){b:Nat}(hb:b<w.heap.size)(hz:¬G.Z b):¬G'.Z b:=λk=>(h.Z.1.2 b k).elim hz λhs=>aqn _ (ap7 hb hs)
def se(G:Gh)(w:aqC)(ds:aqx Deferred):Prop:=∃l:aqx Nat,l.Nodup/\ds=l.map (λD=>{target:= .collected D,args:= #[]})/\∀D∈l,G.M<=D/\G.Z D/\w.heap[D]?=some (.deferred (some []))
theorem se.nil(G:Gh)(w:aqC):se G w []:=⟨[],List.nodup_nil,rfl,λ_ h=>absurd h aqp⟩
theorem se.aT{N:Nat}{G G':Gh}{w w':aqC}{ds:aqx Deferred}(h:se G w ds)(hE:bI N G w G' w'):se G' w' ds:=
 let ⟨l,h1,h2,h3⟩:=h
 ⟨l,h1,h2,λD hD=>⟨hE.Z.2▸(h3 D hD).1,hE.Z.1.1 D (h3 D hD).2.1,(hE.old D (h3 D hD).2.1).trans (h3 D hD).2.2⟩⟩
theorem FJ.aT{N:Nat}{G G':Gh}{w w':aqC}(h:FJ G w)(hE:bI N G w G' w'):FJ G' w':=⟨λg l hm j v hv=>
 ⟨hE.S _ _ (h.1 g l hm j v hv).1,(hE.cell _ _ (h.1 g l hm j v hv).1).trans (h.1 g l hm j v hv).2⟩,by rw[hE.Z.2];exact ap1 h.2 hE.size⟩
theorem dn.aT{S S':Nat->Nat->Prop}{w w':aqC}(hS:∀b o,S b o->S' b o)(hc:∀b o,S b o->w'.cell? ⟨b,o,none⟩=w.cell? ⟨b,o,none⟩){u:aqB}{x:D}(h:dn S w u x):dn S' w' u x:=by
 induction h with
 |v u=>exact .v u
 |sl A b o c k xs u hA ir hm hk rk _ ih=>
  exact .sl A b o c k xs u hA ir hm hk (λi j hi hj=>⟨hS _ _ (rk i j hi hj).1,(hc _ _ (rk i j hi hj).1).trans (rk i j hi hj).2.1,(rk i j hi hj).2.2⟩) ih
theorem ov.aT{S S':Nat->Nat->Prop}{w w':aqC}(hS:∀b o,S b o->S' b o)(hc:∀b o,S b o->w'.cell? ⟨b,o,none⟩=w.cell? ⟨b,o,none⟩){u:aqB}{x:fp}(h:ov S w u x):ov S' w' u x:=by
 induction h with
 |d h=>exact .d (h.aT hS hc)
 |bJ c off b o u h1 h2=>exact .bJ c off b o u (λj hj=>⟨hS _ _ (h1 j hj).1,(hc _ _ (h1 j hj).1).trans (h1 j hj).2⟩) (λj d hd=>(h2 j d hd).aT hS hc)
 |fn f vs cs hl _ ih=>exact .fn f vs cs hl ih
 |dU f vs cs hl _ ih=>exact .dU f vs cs hl ih
theorem aD.aT{G G':Gh}{w w':aqC}(hE:bI G.N G w G' w')(hN:G.N<=G'.N){u:aqB}{x:AV}(h:aD G w u x):aD G' w' u x:=by
 induction h with
 |d h=>exact .d (h.aT hE.S hE.cell)
 |agg vs cs hl _ ih=>exact .agg vs cs hl ih
 |bz vs cs hl _ ih=>exact .bz vs cs hl ih
 |ptr n off h=>rw[<-hE.aI n h];exact .ptr n off (ap7 h hN)
 |bJ xs i off b o u x hx hS hu=>exact .bJ xs i off b o u x hx (λj hj=>⟨hE.S _ _ (hS j hj).1,(hE.cell _ _ (hS j hj).1).trans (hS j hj).2⟩) (λj d hd=>(hu j d hd).aT hE.S hE.cell)
 |own n xs h hp hle hf=>
  refine .own n xs (ap7 h hN) (hp.aT hE.S hE.cell) ?_ ?_
  ·rcases hE.fr n h with⟨h1,_⟩|h1
   ·omega
   ·omega
  ·intro e;rcases hE.fr n h with⟨h1,h2⟩|h1
   ·rw[h2];exact hf (e.trans h1)
   ·omega
 |full xs hp hf=>exact .full xs (hp.aT hE.S hE.cell) hf
 |row n off len cap k h hl hm=>rw[<-hE.aI n h];exact .row n off len cap k (ap7 h hN) hl hm
 |fn f vs cs hl _ ih=>exact .fn f vs cs hl ih
 |mp n h=>rw[<-hE.aI n h];exact .mp n (ap7 h hN)
 |cY n h=>rw[<-hE.aI n h];exact .cY n (ap7 h hN)
 |vec n o len L k h hs hL hf=>
  refine .vec n o len L k (ap7 h hN) hs ?_ ?_
  ·rcases hE.fr n h with⟨h1,_⟩|h1<;>omega
  ·intro e;rcases hE.fr n h with⟨h1,h2⟩|h1
   ·rw[h2];exact hf (e.trans h1)
   ·omega
 |dq n i j L k h hs hL hf=>
  refine .dq n i j L k (ap7 h hN) hs ?_ ?_
  ·rcases hE.fr n h with⟨h1,_⟩|h1<;>omega
  ·intro e;rcases hE.fr n h with⟨h1,h2⟩|h1
   ·rw[h2];exact hf (e.trans h1)
   ·omega
 |hid h h1=>exact .hid (h.aT hE.S hE.cell) h1
 |dead u=>exact .dead u
structure St where
 n:Nat
 t:List (Nat×AV)
 h:List an
def bC:aqx (Nat×AV)->Nat->AV
 |[],_=> .dead
 |(k,x)::l,i=>bif i==k then x else bC l i
theorem nq(k:Nat)(x:AV)(l:aqx (Nat×AV))(i:Nat):bC ((k,x)::l) i=if i=k then x else bC l i:=by
 simp only[bC,cond_eq_ite,beq_iff_eq]
def gJ(b:Bool)(p:Prop):Prop:=cond b p False
theorem bS{b:Bool}{p:Prop}:gJ b p↔b=true/\p:=by cases b<;>simp [gJ]
def cn(a b:Nat):Bool:=a-b==0
theorem dI{a b:Nat}:cn a b=true↔a<=b:=by simp [cn];omega
def kNo:IntKind->Nat
 | .i8=>0| .i16=>1| .i32=>2| .i64=>3| .u8=>4| .u16=>5| .u32=>6| .u64=>7
def xt(a b:IntKind):Bool:=kNo a==kNo b
theorem No{a b:IntKind}:xt a b=true↔a=b:=by cases a<;>cases b<;>decide
def St.put(s:St)(dst:aqz Nat)(x:AV):St:=
 match dst with
 |none=>s
 |some d=>bif s.n-d==0 then s else{s with t:=(d,x)::s.t}
theorem rp{s:St}{d:Nat}(h:d<s.n)(x:AV):s.put (some d) x={s with t:=(d,x)::s.t}:=by
 have:(s.n-d==0)=false:=by simp;omega
 simp only[St.put,this,cond_false]
theorem DR{s:St}{d:Nat}(h:¬d<s.n)(x:AV):s.put (some d) x=s:=by
 have:(s.n-d==0)=true:=by simp;omega
 simp only[St.put,this,cond_true]
def St.wh(s:St)(h:aqx an):St:={s with h:=h}
def NN:aqB->AV
 | .agg vs=> .agg (vs.toList.map λu=> .d (.v u))
 | .tuple vs=> .bz (vs.toList.map λu=> .d (.v u))
 |u=> .d (.v u)
def ev(s:St):Operand->AV
 | .tmp t=>bC s.t t
 | .const v=>NN v
 | .func f=> .fn f []
 | .global g=>match AN y5 g with
   |some l=> .bJ [l.map .v] 0 0
   |none=> .dead
def AV.kE:AV->Bool
 | .d (.v u)=>u.oneCell'
 | .d (.sl _)| .ptr .. | .bJ .. | .own .. | .full _| .row .. | .fn .. | .mp _| .cY _| .hid _| .vec .. | .dq .. =>true
 | .agg _| .bz _| .dead=>false
def AV.cells:AV->aqx AV
 | .agg cs=>cs
 |x=>[x]
def AV.jJ:AV->Bool
 | .agg cs=>cs.all AV.kE
 |x=>x.kE
def D.Ag:D->D
 | .v (.slice none 0 0)=> .sl []
 |x=>x
def AV.yp:AV->aqz D
 | .d x=>some x.Ag
 | .own _ xs=>some (.sl xs)
 | .full xs=>some (.sl xs)
 |_=>none
def AV.fM:AV->aqz (aqx (aqx D))
 | .d (.sl xs)=>some xs
 | .own _ xs=>some xs
 | .full xs=>some xs
 | .d (.v (.slice none 0 0))=>some []
 |_=>none
def AV.int?:AV->aqz Int
 | .d (.v (.int _ n))=>some n
 |_=>none
def fp.av:fp->AV
 | .d x=> .d x
 | .bJ c off=> .bJ [c] 0 off
 | .fn f cs=> .hid (.fn f cs)
 | .dU f cs=> .hid (.dU f cs)
def fp.app(as:aqx AV):fp->aqz (FuncId×aqx AV)
 | .fn g cs=>some (g,as++cs.map fp.av)
 | .dU g cs=>some (g,cs.map fp.av++as)
 |_=>none
mutual
def AV.cap:AV->aqz fp
 | .d x=>some (.d x)
 | .own _ xs=>some (.d (.sl xs))
 | .full xs=>some (.d (.sl xs))
 | .bJ xs i off=>match xs[i]? with
   |some c=>some (.bJ c off)
   |none=>none
 | .fn f cs=>match AV.x9 cs with
   |some l=>some (.fn f l)
   |none=>none
 | .hid c=>some c
 |_=>none
def AV.x9:aqx AV->aqz (aqx fp)
 |[]=>some []
 |x::l=>match x.cap,AV.x9 l with
  |some c,some l=>some (c::l)
  |_,_=>none
end
def Qv(f:FuncId)(first c7:aqx AV):aqz AV:=
 match first with
 |[]=>some (.fn f c7)
 |l=>match AV.x9 l,c7 with
  |some cs,[]=>some (.hid (.dU f cs))
  |_,_=>none
def fW(P:aqA)(t:TypeId):aqz Nat:=(P.info? t).map (·.size)
def ml(P:aqA)(t:TypeId):aqz Bool:=(P.underlying t).map fun| .struct _=>true| .array .. =>true|_=>false
def tt(P:aqA)(t:TypeId)(i:Nat):aqz (Nat×Nat×Bool):=
 match P.underlying t with
 |some (.struct fs)=>match fs[i]? with
  |some f=>match fW P f.type,ml P f.type with
   |some (k+1),some g=>some (f.offset,k+1,g)
   |_,_=>none
  |none=>none
 |_=>none
def eJ(P:aqA)(t:TypeId):aqz (TypeId×Nat):=
 match P.underlying t with
 |some (.slice e)=>(fW P e).map λk=>(e,k)
 |_=>none
def uB(P:aqA)(t:TypeId):aqz (Nat×TypeId×Nat):=
 match P.underlying t with
 |some (.array n e)=>(fW P e).map λk=>(n,e,k)
 |_=>none
def ia(P:aqA)(t:TypeId):Bool:=match P.underlying t with|some .string=>true|_=>false
def Bk(P:aqA)(t:TypeId):Bool:=match P.underlying t with|some .bool=>true|_=>false
def qR(P:aqA)(t:TypeId):aqz IntKind:=match P.underlying t with|some (.int k)=>some k|_=>none
def CP(P:aqA)(t:TypeId):Bool:=match P.underlying t with|some (.int .u8)=>true|_=>false
def iu(P:aqA)(t:TypeId):aqz aqB:=(P.info? t).bind (·.zero)
def qF(P:aqA)(t:TypeId):aqz Nat:=(P.info? t).map (·.bytes)
def Q2(op:BinOp)(k:IntKind)(a b:Int):aqz aqB:=
 match op with
 | .add=>some (.int k (k.wrap (a+b)))
 | .sub=>some (.int k (k.wrap (a-b)))
 | .mul=>some (.int k (k.wrap (a*b)))
 | .eql=>some (.bool (a==b))
 | .neq=>some (.bool (a !=b))
 | .lss=>some (.bool (a<b))
 | .leq=>some (.bool (a<=b))
 | .gtr=>some (.bool (a>b))
 | .geq=>some (.bool (a>=b))
 | .and=>some (.int k (k.wrap (BitVec.ofInt k.bits a&&&BitVec.ofInt k.bits b).toNat))
 | .or=>some (.int k (k.wrap (BitVec.ofInt k.bits a|||BitVec.ofInt k.bits b).toNat))
 | .xor=>some (.int k (k.wrap (BitVec.ofInt k.bits a^^^BitVec.ofInt k.bits b).toNat))
 | .andNot=>some (.int k (k.wrap (BitVec.ofInt k.bits a&&& ~~~BitVec.ofInt k.bits b).toNat))
 |_=>none
def NQ(op:BinOp)(a b:aqy):aqz aqB:=
 match op with
 | .eql=>some (.bool (bL a==bL b))
 | .neq=>some (.bool (!(bL a==bL b)))
 | .lss=>some (.bool (Op.bytesLess (bL a) (bL b)))
 | .leq=>some (.bool (Op.bytesLess (bL a) (bL b)||bL a==bL b))
 | .gtr=>some (.bool (!(Op.bytesLess (bL a) (bL b)||bL a==bL b)))
 | .geq=>some (.bool (!Op.bytesLess (bL a) (bL b)))
 |_=>none
def P1(op:BinOp)(a b:Bool):aqz aqB:=
 match op with
 | .eql=>some (.bool (a==b))
 | .neq=>some (.bool (!(a==b)))
 |_=>none
def R3(op:BinOp)(k:IntKind)(a b:Int):aqz aqB:=
 match op with
 | .quo=>some (.int k (k.wrap (a.tdiv b)))
 | .rem=>some (.int k (a.tmod b))
 |_=>none
def RO(op:BinOp)(k:IntKind)(a b:Int):aqz aqB:=
 match op with
 | .shl=>some (.int k (k.wrap (a*2^(min b.toNat k.bits))))
 | .shr=>some (.int k (a.fdiv (2^(min b.toNat k.bits))))
 |_=>none
def Jm(op:UnOp)(x:aqB):aqz aqB:=
 match op,x with
 | .not, .bool b=>some (.bool (!b))
 | .neg, .int k n=>some (.int k (k.wrap (0-n)))
 | .xor, .int k n=>some (.int k (k.wrap (BitVec.ofInt k.bits (if k.signed then-1 else k.max)^^^BitVec.ofInt k.bits n).toNat))
 |_,_=>none
def jm(cs:aqx AV)(off:Nat)(ys:aqx AV):aqx AV:=cs.take off++ys++cs.drop (off+ys.length)
def oI(k:Nat):Nat->aqx D->aqx (aqx D)
 |0,_=>[]
 |n+1,l=>l.take k::oI k n (l.drop k)
def pH(places:aqx (Nat×Nat)):aqx AV->aqx (Nat×AV)->aqz (aqx AV)
 |cs,[]=>some cs
 |cs,(i,x)::r=>
  match places[i]? with
  |some (off,k)=>bif x.cells.length==k&&cn (off+k) cs.length then pH places (jm cs off x.cells) r else none
  |none=>none
def nX:aqx AV->aqz (aqx D)
 |[]=>some []
 |x::r=>match x.yp,nX r with
  |some d,some l=>some (d::l)
  |_,_=>none
def Ep(P:aqA)(fs:aqx Field):aqz (aqx (Nat×Nat)):=fs.mapM λf=>(fW P f.type).map λk=>(f.offset,k)
def Et(P:aqA)(f:FuncId):Bool:=
 match P.funcs[f]? with
 |some fn=>fn.body.isSome&& !(fn.name== "runtime.NumGoroutine")
 |none=>false
def cF(P:aqA)(f:FuncId)(args:aqx AV)(h:aqx an)(K:AV->aqx an->Prop):Prop:=
 Et P f=true/\∀(G:Gh)(w:aqC)(vs:Array aqB),bD G w h->vs.size=args.length->(∀(i:Nat)(u:aqB)(c:AV),vs[i]?=some u->args[i]?=some c->aD G w u c)->
  Calls P f vs w λe w'=>∃v G' r h',e= .returned v/\bI G.N G w G' w'/\G.N<=G'.N/\bD G' w' h'/\aD G' w' v r/\K r h'
theorem cF.mono{P:aqA}{f:FuncId}{args:aqx AV}{h:aqx an}{K K':AV->aqx an->Prop}(hc:cF P f args h K)(hk:∀r h',K r h'->K' r h'):cF P f args h K':=
 ⟨hc.1,λG w vs hi hl hr=>(hc.2 G w vs hi hl hr).mono λ_ _ ⟨v,G',r,h',e,x1,x2,x3,x4,x5⟩=>⟨v,G',r,h',e,x1,x2,x3,x4,hk _ _ x5⟩⟩
def s8(h:aqx an)(p:AV)(K:aqx AV->Nat->Prop):Prop:=
 match p with
 | .ptr n off=>match h[n]? with
   |some (.cells cs)=>K cs off
   |_=>False
 | .bJ xs i off=>match xs[i]? with
   |some cs=>K (cs.map .d) off
   |none=>False
 |_=>False
def oK(P:aqA)(t:TypeId)(h:aqx an)(p:AV)(K:AV->Prop):Prop:=
 s8 h p λcs off=>match ml P t,fW P t with
  |some true,some k=>gJ (cn (off+k) cs.length) (K (.agg ((cs.drop off).take k)))
  |some false,some _=>match cs[off]? with
   |some c=>K c
   |none=>False
  |_,_=>False
def xJ(P:aqA)(t:TypeId)(h:aqx an)(p x:AV)(K:aqx an->Prop):Prop:=
 match p with
 | .ptr n off=>match h[n]? with
   |some (.cells cs)=>match fW P t with
    |some k=>gJ (k==x.cells.length&&x.jJ&&cn (off+x.cells.length) cs.length) (K (h.set n (.cells (jm cs off x.cells))))
    |none=>False
   |_=>False
 |_=>False
def tX(P:aqA)(T:TypeId)(x i:AV)(K:AV->Prop):Prop:=
 match eJ P T with
 |some (_,k)=>
  match x with
  | .row n off len _ k'=>match i.int? with
    |some z=>gJ (k'==k) (0<=z/\z<len/\K (.ptr n (off+z.toNat*k)))
    |none=>False
  |_=>match x.fM,i.int? with
   |some xs,some z=>0<=z/\(match xs[z.toNat]? with|some c=>c.length=k/\K (.bJ [c] 0 0)|none=>False)
   |_,_=>False
 |none=>match uB P T,x,i.int? with
  |some (n,_,k), .ptr b off,some z=>0<=z/\z<n/\K (.ptr b (off+z.toNat*k))
  |some (n,_,k), .bJ xs i off,some z=>gJ (k==1) (0<=z/\z<n/\(match xs[i]? with|some c=>(match c[off+z.toNat]? with|some d=>K (.bJ [[d]] 0 0)|none=>False)|none=>False))
  |_,_,_=>False
def sH(P:aqA)(T:TypeId)(x:AV)(K:Nat->Prop):Prop:=
 match x with
 | .d (.v (.string s))=>gJ (ia P T) (K s.size)
 | .row _ _ len _ _=>gJ (eJ P T).isSome (K len)
 |x=>match x.fM with
  |some xs=>gJ (eJ P T).isSome (K xs.length)
  |none=>False
def j0(ρ:Operand->AV)(x:aqz Operand)(agi:Nat)(K:Nat->Prop):Prop:=
 match x with
 |none=>K agi
 |some y=>match (ρ y).int? with
  |some z=>0<=z/\K z.toNat
  |none=>False
def vn(P:aqA)(T:TypeId)(ρ:Operand->AV)(x:AV)(lo hi mx:aqz Operand)(K:AV->Prop):Prop:=
 match mx with
 |none=>
  match x with
  | .d (.v (.string b))=>gJ (ia P T) (j0 ρ hi b.size λh=>h<=b.size/\j0 ρ lo 0 λl=>l<=h/\K (.d (.v (.string (b.extract l h)))))
  | .ptr n off=>match uB P T with
    |some (m,_,k)=>gJ (cn m 4096) (j0 ρ hi m λh=>gJ (cn h m) (j0 ρ lo 0 λl=>gJ (cn l h&& !cn m l) (K (.row n (off+l*k) (h-l) (m-l) k))))
    |none=>False
  |x=>match x.fM,eJ P T with
   |some xs,some (_,k)=>(∀c∈xs,c.length=k)/\j0 ρ hi xs.length λh=>h<=xs.length/\j0 ρ lo 0 λl=>l<=h/\K (.d (.sl ((xs.take h).drop l)))
   |_,_=>False
 |some m=>match lo,hi with
  |none,some y=>match x.fM,eJ P T with
   |some xs,some (_,k)=>(∀c∈xs,c.length=k)/\j0 ρ (some m) 0 λc=>c<=xs.length/\j0 ρ (some y) 0 λh=>h=c/\K (.full (xs.take h))
   |_,_=>False
  |_,_=>False
def vC(h:aqx an)(k:Nat)(x:AV)(K:aqx (aqx D)->Prop):Prop:=
 match x with
 | .row n off len _ k'=>match h[n]? with
   |some (.cells cs)=>match nX ((cs.drop off).take (len*k))with
    |some ds=>gJ (k'==k&&cn (off+len*k) cs.length&&((cs.drop off).take (len*k)).all AV.kE) (K (oI k len ds))
    |none=>False
   |_=>False
 |x=>match x.fM with
  |some ys=>(∀c∈ys,c.length=k)/\K ys
  |none=>False
def wj(P:aqA)(T:TypeId)(h:aqx an)(x y:AV)(K:AV->aqx an->Prop):Prop:=
 match eJ P T with
 |some (e,k)=>match iu P e,qF P e with
  |some z,some da=>gJ (cn 1 k&&z.cells.toList.length==k)<|vC h k y λys=>
   match x with
   | .own n xs=>match h[n]? with
     |some (.front e' k' len)=>gJ (e'==e&&k'==k)<|len=xs.length/\(∀c∈xs,c.length=k)/\xs.length+ys.length<=maxLen/\(xs.length+ys.length)*da<=140737488355328/\K (.own n (xs++ys)) (h.set n (.front e k (xs.length+ys.length)))
     |_=>False
   | .d (.v (.slice none 0 0))=>ys.length<=maxLen/\ys.length*da<=140737488355328/\K (.own h.length ys) (h++[.front e k ys.length])
   | .full xs=>(∀c∈xs,c.length=k)/\xs.length+ys.length<=maxLen/\(xs.length+ys.length)*da<=140737488355328/\K (.own h.length (xs++ys)) (h++[.front e k (xs.length+ys.length)])
   |_=>False
  |_,_=>False
 |none=>False
def NJ(P:aqA)(T:TypeId):aqz (aqx (Nat×Nat)):=
 match P.underlying T with
 |some (.struct fs)=>Ep P fs.toList
 |_=>none
def yC(P:aqA)(T:TypeId)(ps:aqx (Nat×AV))(K:AV->Prop):Prop:=
 match NJ P T,iu P T with
 |some places,some z=>match pH places (z.cells.toList.map λu=> .d (.v u)) ps with
  |some cs=>gJ ((ps.all λp=>p.2.jJ)&&z.cells.toList.all Value.oneCell') (K (.agg cs))
  |none=>False
 |_,_=>False
def vz(k:Nat):Nat->Nat->aqx (Nat×Nat)
 |_,0=>[]
 |o,n+1=>(o,k)::vz k (o+k) n
def tH:Nat->aqx AV->aqx AV
 |0,_=>[]
 |n+1,l=>l++tH n l
def yM(P:aqA)(T:TypeId)(len:Nat)(ps:aqx (Nat×AV))(K:AV->Prop):Prop:=
 match eJ P T with
 |some (e,k)=>match iu P e with
  |some z=>match pH (vz k 0 len) (tH len (z.cells.toList.map λu=> .d (.v u))) ps with
   |some cs=>match nX cs with
    |some ds=>gJ (cn 1 k&&cn (len*k) 16777216&&z.cells.toList.length==k&&z.cells.toList.all Value.oneCell'&&(ps.all λp=>p.2.jJ)) (K (.full (oI k len ds)))
    |none=>False
   |none=>False
  |none=>False
 |none=>False
def Gj(P:aqA)(t:TypeId)(x y:AV):aqz Bool:=
 match x,y with
 | .d (.v (.int k a)), .d (.v (.int k' b))=>bif xt k k'&&(qR P t).isSome then some (a==b)else none
 | .d (.v (.string a)), .d (.v (.string b))=>bif ia P t then some (bL a==bL b)else none
 | .d (.v (.bool a)), .d (.v (.bool b))=>bif Bk P t then some (a==b)else none
 |_,_=>none
def AM(P:aqA)(sub:TypeId->aqx AV->aqx AV->aqz Bool):aqx Field->aqx AV->aqx AV->aqz Bool
 |[],_,_=>some true
 |f::fs,xs,ys=>bif f.name== "_" then none else
  match ml P f.type with
  |some false=>match xs[f.offset]?,ys[f.offset]? with
   |some x,some y=>match Gj P f.type x y,AM P sub fs xs ys with
    |some a,some b=>some (a&&b)
    |_,_=>none
   |_,_=>none
  |some true=>match fW P f.type with
   |some k=>bif cn (f.offset+k) xs.length&&cn (f.offset+k) ys.length then match sub f.type ((xs.drop f.offset).take k) ((ys.drop f.offset).take k),AM P sub fs xs ys with
    |some a,some b=>some (a&&b)
    |_,_=>none
    else none
   |none=>none
  |none=>none
def HP(P:aqA):Nat->TypeId->aqx AV->aqx AV->aqz Bool
 |0=>λ_ _ _=>none
 |d+1=>λT xs ys=>match P.underlying T with
  |some (.struct fs)=>bif P.stoodInHeld T then none else AM P (HP P d) fs.toList xs ys
  |_=>none
def Hu(P:aqA)(T:TypeId)(xs ys:aqx AV):aqz Bool:=
 match P.underlying T with
 |some (.struct fs)=>bif P.stoodInHeld T||P.eqGuardType P.depth T then none else AM P (HP P 4) fs.toList xs ys
 |_=>none
def yd(op:BinOp)(b:Bool):aqz aqB:=
 match op with
 | .eql=>some (.bool b)
 | .neq=>some (.bool (!b))
 |_=>none
def x6(P:aqA)(T:TypeId)(op:BinOp)(x y:AV)(K:AV->Prop):Prop:=
 match x,y with
 | .d (.v (.int k a)), .d (.v (.int k' b))=>
   match R3 op k a b with
   |some v=>gJ (xt k k') (b≠0/\K (.d (.v v)))
   |none=>match RO op k a b with
    |some v=>0<=b/\K (.d (.v v))
    |none=>match Q2 op k a b with
     |some v=>gJ (xt k k') (K (.d (.v v)))
     |none=>False
 | .d (.v (.string a)), .d (.v (.string b))=>match NQ op a b with
   |some v=>K (.d (.v v))
   |none=>match op with
    | .add=>a.size+b.size<=maxLen/\K (.d (.v (.string (a++b))))
    |_=>False
 | .d (.v (.bool a)), .d (.v (.bool b))=>match P1 op a b with
   |some v=>gJ (Bk P T) (K (.d (.v v)))
   |none=>False
 | .agg xs, .agg ys=>match Hu P T xs ys with
   |some b=>match yd op b with
    |some v=>K (.d (.v v))
    |none=>False
   |none=>False
 |_,_=>False
def xv(op:UnOp)(x:AV)(K:AV->Prop):Prop:=
 match x with
 | .d (.v u)=>match Jm op u with
   |some v=>K (.d (.v v))
   |none=>False
 |_=>False
def yH(P:aqA)(src dst:TypeId)(x:AV)(K:AV->Prop):Prop:=
 match x with
 | .d (.v (.int _ n))=>match qR P src,qR P dst with
   |some _,some k=>K (.d (.v (.int k (k.wrap n))))
   |_,_=>False
 | .d (.v (.string b))=>gJ (ia P src&&ia P dst) (K (.d (.v (.string b))))
 |x=>match x.fM,eJ P src with
  |some xs,some (e,_)=>gJ (CP P e&&ia P dst) (∃ns:aqx Int,xs=ns.map (λn=>[.v (.int .u8 n)])/\K (.d (.v (.string ⟨(ns.map λn=>UInt8.ofNat n.toNat).toArray⟩))))
  |_,_=>False
def xO(P:aqA)(T:TypeId)(x:AV)(f:Nat)(K:AV->Prop):Prop:=
 match tt P T f,x with
 |some (off,k,true), .agg cs=>gJ (cn (off+k) cs.length) (K (.agg ((cs.drop off).take k)))
 |some (off,_,false), .agg cs=>match cs[off]? with
  |some c=>K c
  |none=>False
 |_,_=>False
def sw(P:aqA)(T:TypeId):aqz (TypeId×TypeId):=
 match P.underlying T with
 |some (.map k e)=>some (k,e)
 |_=>none
inductive Sd
 |no
 |lt (n:Nat)
def Sd.ok:Sd->Prop
 | .no=>True
 | .lt n=>n<maxLen
def vy(UY:Bool)(z:aqB):aqz D->AV
 |some d=>bif UY then .bz [.d d, .d (.v (.bool true))]else .d d
 |none=>bif UY then .bz [.d (.v z), .d (.v (.bool false))]else .d (.v z)
def qd(P:aqA)(op:Op)(ρ:Operand->AV)(h:aqx an):aqz (AV×aqx an×Sd):=
 match op with
 | .makeMap T none=>match sw P T with
   |some _=>some (.mp h.length,h++[.map []], .no)
   |none=>none
 | .lookup T m i ok=>match sw P T with
   |some (k,e)=>match iu P e with
    |some z=>match ρ m,ρ i with
     | .mp n, .d (.v (.string s))=>match h[n]? with
       |some (.map kv)=>bif ia P k&&z.oneCell' then some (vy ok z (eN kv s),h, .no)else none
       |_=>none
     |_,_=>none
    |none=>none
   |none=>none
 | .mapUpdate T m i x=>match sw P T with
   |some (k,_)=>match ρ m,ρ i,(ρ x).yp with
    | .mp n, .d (.v (.string s)),some d=>match h[n]? with
      |some (.map kv)=>bif ia P k then some (.d (.v undef),h.set n (.map ((s,d)::kv)), .lt kv.length)else none
      |_=>none
    |_,_,_=>none
   |none=>none
 |_=>none
inductive VA
 |no
 |el (c:List AV)
 |st (c:List AV) (cs:List (List AV))
 |mk (cs:List (List AV)) (len m:Nat)
 |ap (cs ys:List (List AV)) (L len:Nat)
 |ix (i:Nat)
 |ol (o len:Nat)
def Tq(P:aqA)(t:TypeId)(c:aqx AV)(j:Nat):aqz AV:=
 match ml P t,fW P t with
 |some true,some k=>bif cn (j+k) c.length then some (.agg ((c.drop j).take k))else none
 |some false,some _=>c[j]?
 |_,_=>none
def cP(xs:aqx (aqx D)):aqx (aqx AV):=xs.map λc=>c.map AV.d
def Cw(h:aqx an)(k:Nat)(y:AV)(ys:aqx (aqx AV)):Prop:=
 (∃xs,y.fM=some xs/\(∀c∈xs,c.length=k)/\ys=cP xs)\/(∃n o len L e cs,y= .vec n o len L k/\h[n]?=some (.vec e k cs)/\cs.length=L/\ys=(cs.drop o).take len/\∀c∈ys,c.all AV.kE=true)
def vx(ρ:Operand->AV)(d:Int):aqz Operand->aqz Int
 |none=>some d
 |some y=>(ρ y).int?
def iq(P:aqA)(op:Op)(ρ:Operand->AV)(h:aqx an)(a:VA):aqz (AV×aqx an×Prop):=
 match op with
 | .indexAddr T x i=>match ρ x,(ρ i).int?,eJ P T,a with
   | .vec n o len L k,some z,some (_,k'), .ix i'=>match h[n]? with
     |some (.vec _ k2 cs)=>bif k'==k&&k2==k then some (.dq n i' 0 L k,h,cs.length=L/\0<=z/\z<len/\i'=o+z.toNat)else none
     |_=>none
   |_,_,_,_=>none
 | .fieldAddr S x f=>match ρ x,tt P S f with
   | .dq n i j L k,some (fo,_,_)=>some (.dq n i (j+fo) L k,h,True)
   |_,_=>none
 | .nilCheck x=>match ρ x with
   | .dq n i j L k=>some (.dq n i j L k,h,True)
   |_=>none
 | .load t p=>match ρ p,a with
   | .dq n i j L k, .el c=>match h[n]?,Tq P t c j with
     |some (.vec _ k' cs),some x=>bif k'==k then some (x,h,cs.length=L/\cs[i]?=some c)else none
     |_,_=>none
   |_,_=>none
 | .store t p x=>match ρ p,a with
   | .dq n i j L k, .st c bP=>match h[n]?,fW P t with
     |some (.vec e k' cs),some q=>bif k'==k&&q==(ρ x).cells.length&&(ρ x).jJ&&cn (j+(ρ x).cells.length) k&&cn 1 k then some (.d (.v undef),h.set n (.vec e k bP),cs.length=L/\cs[i]?=some c/\bP=cs.set i (jm c j (ρ x).cells))else none
     |_,_=>none
   |_,_=>none
 | .slice T x lo hi none=>match ρ x,eJ P T,a with
   | .vec n o len L k,some (_,k'), .ol o' gS=>match vx ρ 0 lo,vx ρ len hi with
     |some l,some u=>match h[n]? with
      |some (.vec _ k2 cs)=>bif k'==k&&k2==k then some (.vec n o' gS L k,h,cs.length=L/\0<=l/\l<=u/\u<=(L:Int)-o/\o'=o+l.toNat/\gS=u.toNat-l.toNat)else none
      |_=>none
     |_,_=>none
   |_,_,_=>none
 | .makeSlice T l c=>match eJ P T,(ρ l).int?,(ρ c).int?,a with
   |some (e,k),some l,some c, .mk cs len m=>match iu P e,qF P e with
    |some z,some da=>bif cn 1 k&&z.cells.toList.length==k&&z.cells.toList.all Value.oneCell' then some (.vec h.length 0 len m k,h++[.vec e k cs],0<=l/\l<=c/\l.toNat=len/\c.toNat=m/\cs=List.replicate m (z.cells.toList.map λu=> .d (.v u))/\m<=maxLen/\da*m<=281474976710656)else none
    |_,_=>none
   |_,_,_,_=>none
 | .call c=>match c.callee with
   | .builtin .len=>match c.args.toList,c.argTypes.toList with
     |[x],[T]=>match ρ x with
      | .vec n _ len L k=>match h[n]? with
        |some (.vec _ k2 cs)=>bif (eJ P T).isSome&&k2==k then some (.d (.v (.int .i64 len)),h,cs.length=L)else none
        |_=>none
      |_=>none
     |_,_=>none
   | .builtin .append=>match c.args.toList,c.argTypes.toList with
     |[x,y],[T,U]=>match eJ P T,eJ P U,a with
      |some (e,k),some _, .ap bP ys L' gS=>match iu P e,qF P e with
       |some z,some da=>bif cn 1 k&&z.cells.toList.length==k then
        match ρ x with
        | .vec n o len L k1=>match h[n]? with
          |some (.vec e1 k2 cs)=>bif k1==k&&k2==k&&e1==e then some (.vec n o gS L' k,h.set n (.vec e k bP),cs.length=L/\Cw h k (ρ y) ys/\gS=len+ys.length/\
           ((o+len+ys.length<=L/\L'=L/\bP=cs.take (o+len)++ys++cs.drop (o+len+ys.length))\/(o=0/\len=L/\L'=L+ys.length/\bP=cs++ys/\L'<=maxLen/\L'*da<=140737488355328)))else none
          |_=>none
        | .d (.v (.slice none 0 0))=>some (.vec h.length 0 gS L' k,h++[.vec e k bP],Cw h k (ρ y) ys/\bP=ys/\gS=ys.length/\L'=ys.length/\L'<=maxLen/\L'*da<=140737488355328)
        | .full xs=>some (.vec h.length 0 gS L' k,h++[.vec e k bP],xs=[]/\Cw h k (ρ y) ys/\bP=ys/\gS=ys.length/\L'=ys.length/\L'<=maxLen/\L'*da<=140737488355328)
        |_=>none
       else none
       |_,_=>none
      |_,_,_=>none
     |_,_=>none
   |_=>none
 |_=>none
def Mo(mx:Bool)(k:IntKind):Int->aqx AV->aqz (IntKind×Int)
 |a,[]=>some (k,a)
 |a, .d (.v (.int _ b))::l=>Mo mx k (bif mx then(if b>a then b else a)else(if b<a then b else a)) l
 |_,_=>none
def BR(mx:Bool):aqx AV->aqz (IntKind×Int)
 | .d (.v (.int k a))::l=>Mo mx k a l
 |_=>none
def cz(P:aqA)(o:Oper)(ρ:Operand->AV)(h:aqx an)(C:AV->aqx an->Prop):Prop:=
 match o.op with
 | .move x| .assign x=>C (ρ x) h
 | .pick c a b=>match ρ c with
   | .d (.v (.bool t))=>(t=true->C (ρ a) h)/\(t=false->C (ρ b) h)
   |_=>False
 | .alloc e=>match iu P e with
   |some z=>C (.ptr h.length 0) (h++[an.cells (z.cells.toList.map λu=> .d (.v u))])
   |none=>False
 | .box _ x=>gJ (ρ x).jJ<|C (.ptr h.length 0) (h++[an.cells (ρ x).cells])
 | .load t a=>oK P t h (ρ a) λx=>C x h
 | .store t a x=>xJ P t h (ρ a) (ρ x) λh'=>C (.d (.v undef)) h'
 | .nilCheck x=>match ρ x with
   | .ptr n off=>C (.ptr n off) h
   | .bJ xs i off=>C (.bJ xs i off) h
   | .fn f cs=>C (.fn f cs) h
   |_=>False
 | .fieldAddr S x f=>match tt P S f with
   |some (fo,_,_)=>match ρ x with
    | .ptr n off=>C (.ptr n (off+fo)) h
    | .bJ xs i off=>C (.bJ xs i (off+fo)) h
    |_=>False
   |none=>False
 | .field T x f=>xO P T (ρ x) f λy=>C y h
 | .indexAddr T x i=>tX P T (ρ x) (ρ i) λy=>C y h
 | .index T x i=>match ρ x,(ρ i).int? with
   | .d (.v (.string b)),some z=>gJ (ia P T) (0<=z/\(match b[z.toNat]? with|some c=>C (.d (.v (.int .u8 c.toNat))) h|none=>False))
   |_,_=>False
 | .build T ps=>yC P T (ps.toList.map λp=>(p.1,ρ p.2)) λy=>C y h
 | .buildSlice T len ps=>yM P T len (ps.toList.map λp=>(p.1,ρ p.2)) λy=>C y h
 | .slice T x lo hi mx=>vn P T ρ (ρ x) lo hi mx λy=>C y h
 | .extract x i=>match ρ x with
   | .bz cs=>match cs[i]? with
     |some c=>C c h
     |none=>False
   |_=>False
 | .makeFunc (.func f) first c7=>match Qv f (first.toList.map ρ) (c7.toList.map ρ)with
   |some x=>C x h
   |none=>False
 | .binOp op T x y _=>x6 P T op (ρ x) (ρ y) λv=>C v h
 | .unOp op _ x=>xv op (ρ x) λv=>C v h
 | .convert a b x=>yH P a b (ρ x) λv=>C v h
 | .call c=>match c.callee with
   | .builtin .len=>match c.args.toList,c.argTypes.toList with
     |[x],[T]=>sH P T (ρ x) λn=>C (.d (.v (.int .i64 n))) h
     |_,_=>False
   | .builtin .append=>match c.args.toList,c.argTypes.toList with
     |[x,y],[T,U]=>gJ (eJ P U).isSome<|wj P T h (ρ x) (ρ y) λv h'=>C v h'
     |_,_=>False
   | .builtin .max=>match BR true (c.args.toList.map ρ)with
     |some (k,a)=>C (.d (.v (.int k a))) h
     |none=>False
   | .builtin .min=>match BR false (c.args.toList.map ρ)with
     |some (k,a)=>C (.d (.v (.int k a))) h
     |none=>False
   | .value f=>match ρ f with
     | .fn g c7=>cF P g (c.args.toList.map ρ++c7) h λr h'=>C r h'
     | .hid q=>∃g as,q.app (c.args.toList.map ρ)=some (g,as)/\cF P g as h λr h'=>C r h'
     |_=>False
   |_=>False
 |op=>match qd P op ρ h with
  |some (x,h',p)=>p.ok/\C x h'
  |none=>False
def FE(P:aqA)(o:Oper)(K:St->Prop)(s:St):Prop:=
 match o.op with
 | .binOp op T x y _=>match (ev s x).fM,ev s y,eJ P T,yd op true,yd op false with
   |some xs, .d (.v (.slice none 0 0)),some _,some v1,some v2=>(xs=[]->K (s.put o.dst (.d (.v v1))))/\K (s.put o.dst (.d (.v v2)))
   |_,_,_,_,_=>False
 |_=>False
def G9(P:aqA)(o:Oper)(K:St->Prop)(s:St):Prop:=∃a x h' p,iq P o.op (ev s) s.h a=some (x,h',p)/\p/\K ((s.wh h').put o.dst x)
def qG(P:aqA)(o:Oper)(K:St->Prop)(s:St):Prop:=cz P o (ev s) s.h λx h=>K ((s.wh h).put o.dst x)
def ahB(P:aqA)(o:Oper)(K:St->Prop)(s:St):Prop:=G9 P o K s\/FE P o K s\/qG P o K s
theorem lC(b o n:Nat):(⟨b,o,none⟩:Addr).add n=⟨b,o+n,none⟩:=by unfold Addr.add;split<;>simp_all
structure cG(G:Gh)(w:World)(a:Act)(s:St):Prop where
 size:a.tmps.size=s.n
 tmp:∀i,aD G w (a.tmps.getD i undef) (bC s.t i)
 inv:bD G w s.h
 df:se G w a.defers
theorem ov.av{G:Gh}{w:aqC}{u:aqB}{c:fp}(h:ov G.S w u c):aD G w u c.av:=by
 cases h with
 |d h=>exact .d h
 |bJ c off b o u h1 h2=>exact .bJ [c] 0 off b o u c rfl h1 h2
 |fn f vs cs hl h=>exact .hid (.fn f vs cs hl h) rfl
 |dU f vs cs hl h=>exact .hid (.dU f vs cs hl h) rfl
theorem aD.kE{G:Gh}{w:aqC}{u:aqB}{x:AV}(h:aD G w u x)(hb:x.kE=true):u.oneCell'=true:=by
 cases h with
 |d hp=>cases hp with
  |v u=>exact hb
  |sl=>rfl
 |agg=>simp [AV.kE]at hb
 |bz=>simp [AV.kE]at hb
 |own n xs _ hp=>cases hp;rfl
 |vec n o len L k _ hs=>obtain⟨A,l,c,rfl⟩:=hs;rfl
 |dq n i j L k _ hs=>obtain⟨b,q,rfl⟩:=hs;rfl
 |full xs hp=>cases hp;rfl
 |hid h h1=>exact h1
 |dead=>simp [AV.kE]at hb
 |_=>rfl
theorem aD.cells{G:Gh}{w:aqC}{u:aqB}{x:AV}(h:aD G w u x)(hb:x.jJ=true):
 u.cells.size=x.cells.length/\∀(i:Nat)(v:aqB)(c:AV),u.cells[i]?=some v->x.cells[i]?=some c->aD G w v c/\v.oneCell'=true:=by
 have one:x.kE=true->x.cells=[x]->u.cells.size=x.cells.length/\∀(i:Nat)(v:aqB)(c:AV),u.cells[i]?=some v->x.cells[i]?=some c->aD G w v c/\v.oneCell'=true:=by
  intro hc hx;have ho:=h.kE hc;have hu:u.cells= #[u]:=by cases u<;>simp_all [Value.cells,Value.oneCell']
  rw[hu,hx];refine⟨rfl,λi v c h1 h2=> ?_⟩
  match i with
  |0=>simp at h1 h2;subst h1;subst h2;exact⟨h,ho⟩
  |i+1=>simp at h2
 cases x with
 |agg cs=>
  cases h with
  |agg vs cs hl hr=>
   refine⟨hl,λi v c h1 h2=> ?_⟩;have hv:=hr i v c h1 h2;refine⟨hv,hv.kE ?_⟩;simp only[AV.jJ,ap9]at hb;exact hb c (apW h2)
 |bz cs=>simp [AV.jJ,AV.kE]at hb
 |dead=>simp [AV.jJ,AV.kE]at hb
 |_=>exact one hb rfl
theorem bD.lt{G:Gh}{w:aqC}{h:aqx an}(hi:bD G w h){n:Nat}{B:an}(hb:h[n]?=some B):n<G.N:=by
 rw[<-hi.len];exact(apJ.1 hb).1
theorem bD.gw{G:Gh}{w:aqC}{h:aqx an}(hi:bD G w h){n b:Nat}(hb:bM h G n=some b):b<w.heap.size:=by
 obtain⟨B,hB,hb⟩:=od hb;have hr:=hi.cD n B hB;cases B with
 |gone=>cases hb
 |cells cs=>
  obtain⟨_,_,vs,T,hh,_⟩:=hr;cases hb
  exact(apY.1 hh).1
 |lp ls p as bd cs=>
  obtain⟨_,_,fn,vs,T,hh,_⟩:=hr;cases hb
  exact(apY.1 hh).1
 |it sn cs=>
  obtain⟨_,_,fn,vs,T,hh,_⟩:=hr;cases hb
  exact(apY.1 hh).1
 |aV T0 cs=>
  obtain⟨_,_,fn,vs,T,hh,_⟩:=hr;cases hb
  exact(apY.1 hh).1
 |map kv=>
  obtain⟨_,_,es,c,hh,_⟩:=hr;cases hb
  exact(apY.1 hh).1
 |fV kv=>
  obtain⟨_,_,es,c,hh,_⟩:=hr;cases hb
  exact(apY.1 hh).1
 |front e k len=>
  have hb:G.ow n=some b:=hb;obtain⟨_,_,h1|⟨g,cap,cur,h1,_,_,hh,_⟩⟩:=hr
  ·rw[h1.1]at hb;cases hb
  ·rw[h1]at hb;cases hb;exact(apY.1 hh).1
 |bm e b2=>
  have hb:G.ow n=some b:=hb;obtain⟨_,_,h1|⟨g,cap,cur,h1,_,_,hh,_⟩⟩:=hr
  ·rw[h1.1]at hb;cases hb
  ·rw[h1]at hb;cases hb;exact(apY.1 hh).1
 |vec e k cs=>
  have hb:G.ow n=some b:=hb;obtain⟨_,_,_,h1|⟨g,cap,cur,h1,_,_,hh,_⟩⟩:=hr
  ·rw[h1.1]at hb;cases hb
  ·rw[h1]at hb;cases hb;exact(apY.1 hh).1
theorem dD.kY{G:Gh}{w:aqC}{n b:Nat}{B:an}(hr:dD G w n B)(hb:B.dA G n=some b):¬G.Z b:=by
 cases B with
 |gone=>cases hb
 |cells cs=>cases hb;exact hr.1
 |lp ls p as bd cs=>cases hb;exact hr.1
 |it sn cs=>cases hb;exact hr.1
 |aV T0 cs=>cases hb;exact hr.1
 |map kv=>cases hb;exact hr.1
 |fV kv=>cases hb;exact hr.1
 |front e k len=>
  have hb:G.ow n=some b:=hb;obtain⟨_,_,h1|⟨g,cap,cur,h1,_,hz,_⟩⟩:=hr
  ·rw[h1.1]at hb;cases hb
  ·rw[h1]at hb;cases hb;exact hz
 |bm e b2=>
  have hb:G.ow n=some b:=hb;obtain⟨_,_,h1|⟨g,cap,cur,h1,_,hz,_⟩⟩:=hr
  ·rw[h1.1]at hb;cases hb
  ·rw[h1]at hb;cases hb;exact hz
 |vec e k cs=>
  have hb:G.ow n=some b:=hb;obtain⟨_,_,_,h1|⟨g,cap,cur,h1,_,hz,_⟩⟩:=hr
  ·rw[h1.1]at hb;cases hb
  ·rw[h1]at hb;cases hb;exact hz
theorem o6.aT{S S':Nat->Nat->Prop}{w w':aqC}{es:Array MapEntry}{c:Nat}{kv:aqx (aqy×D)}(h:o6 S w es c kv)(hS:∀b o,S b o->S' b o)(hc:∀b o,S b o->w'.cell? ⟨b,o,none⟩=w.cell? ⟨b,o,none⟩):o6 S' w' es c kv:=
 ⟨h.size,h.stamped,λe he=>let ⟨s,d,h1,h2,h3⟩:=h.ee e he;⟨s,d,h1,h2,h3.aT hS hc⟩,h.all,h.len,h.born,h.A2⟩
theorem wx.aT{S S':Nat->Nat->Prop}{w w':aqC}{es:Array MapEntry}{c:Nat}{kv:aqx (aqy×D)}(h:wx S w es c kv)(hS:∀b o,S b o->S' b o)(hc:∀b o,S b o->w'.cell? ⟨b,o,none⟩=w.cell? ⟨b,o,none⟩):wx S' w' es c kv:=
 ⟨h.ok.aT hS hc,λi e he=>let ⟨p,h1,h2,h3⟩:=h.ord i e he;⟨p,h1,h2,h3.aT hS hc⟩,h.all⟩
theorem dD.aT{G G':Gh}{w w':aqC}{n:Nat}(hn:n<G.N)(hE:bI G.N G w G' w')(hN:G.N<=G'.N){B:an}
 (hg:G'.fl n=G.fl n/\G'.sg n=G.sg n/\G'.ow n=G.ow n)
 (ho:∀b,B.dA G n=some b->w'.heap[b]?=w.heap[b]?/\∀o,¬G.S b o->¬G'.S b o)
 (h:dD G w n B):dD G' w' n B:=by
 obtain⟨f1,f2,f3⟩:=hg;cases B with
 |gone=>trivial
 |cells cs=>
  obtain⟨h1,h2,vs,T,h3,h4,h5⟩:=h;obtain⟨c2,c1⟩:=ho _ rfl;refine⟨by rw[hE.aI n hn];exact hE.kY (apY.1 h3).1 h1,by rw[hE.aI n hn];exact λo=>c1 o (h2 o),vs,T,by rw[hE.aI n hn,c2];exact h3,h4,λi u c hu hc=>(h5 i u c hu hc).aT hE hN⟩
 |lp ls p as bd cs=>
  obtain⟨h1,h2,fn,vs,T,h3,h4,h5⟩:=h;obtain⟨c2,c1⟩:=ho _ rfl;refine⟨by rw[hE.aI n hn];exact hE.kY (apY.1 h3).1 h1,by rw[hE.aI n hn];exact λo=>c1 o (h2 o),fn,vs,T,by rw[hE.aI n hn,c2];exact h3,h4,λi u c hu hc=>(h5 i u c hu hc).aT hE hN⟩
 |it sn cs=>
  obtain⟨h1,h2,fn,vs,T,h3,h4,h5⟩:=h;obtain⟨c2,c1⟩:=ho _ rfl;refine⟨by rw[hE.aI n hn];exact hE.kY (apY.1 h3).1 h1,by rw[hE.aI n hn];exact λo=>c1 o (h2 o),fn,vs,T,by rw[hE.aI n hn,c2];exact h3,h4,λi u c hu hc=>(h5 i u c hu hc).aT hE hN⟩
 |aV T0 cs=>
  obtain⟨h1,h2,fn,vs,T,h3,h4,h5⟩:=h;obtain⟨c2,c1⟩:=ho _ rfl;refine⟨by rw[hE.aI n hn];exact hE.kY (apY.1 h3).1 h1,by rw[hE.aI n hn];exact λo=>c1 o (h2 o),fn,vs,T,by rw[hE.aI n hn,c2];exact h3,by rw[hE.aI n hn];exact h4,λi u c hu hc=>(h5 i u c hu hc).aT hE hN⟩
 |map kv=>
  obtain⟨h1,h2,es,c,h3,h4⟩:=h;obtain⟨c2,c1⟩:=ho _ rfl;exact⟨by rw[hE.aI n hn];exact hE.kY (apY.1 h3).1 h1,by rw[hE.aI n hn];exact λo=>c1 o (h2 o),es,c,by rw[hE.aI n hn,c2];exact h3,h4.aT hE.S hE.cell⟩
 |fV kv=>
  obtain⟨h1,h2,es,c,h3,h4⟩:=h;obtain⟨c2,c1⟩:=ho _ rfl;exact⟨by rw[hE.aI n hn];exact hE.kY (apY.1 h3).1 h1,by rw[hE.aI n hn];exact λo=>c1 o (h2 o),es,c,by rw[hE.aI n hn,c2];exact h3,h4.aT hE.S hE.cell⟩
 |bm e b=>
  obtain⟨h1,hm,h2⟩:=h;refine⟨f1.trans h1,hm,?_⟩;rcases h2 with⟨h2,h0,A,h3⟩|⟨g,cap,cur,h2,h3,h4,h5,h6,h7,h8,h9,aU⟩
  ·exact .inl ⟨f3.trans h2,h0,A,f2.trans h3⟩
  ·obtain⟨f5,f6⟩:=ho g h2;exact .inr ⟨g,cap,cur,f3.trans h2,f2.trans h3,hE.kY (apY.1 h5).1 h4,f5.trans h5,h6,h7,h8,λo=>f6 o (h9 o),aU⟩
 |front e k len=>
  obtain⟨h1,hm,h2⟩:=h;refine⟨f1.trans h1,hm,?_⟩;rcases h2 with⟨h2,A,h3⟩|⟨g,cap,cur,h2,h3,h4,h5,h6,h7,h8,h9⟩
  ·exact .inl ⟨f3.trans h2,A,f2.trans h3⟩
  ·obtain⟨f5,f6⟩:=ho g h2;exact .inr ⟨g,cap,cur,f3.trans h2,f2.trans h3,hE.kY (apY.1 h5).1 h4,f5.trans h5,h6,h7,h8,λo ho=>f6 o (h9 o ho)⟩
 |vec e k cs=>
  obtain⟨h1,hm,hk,h2⟩:=h;refine⟨f1.trans h1,hm,hk,?_⟩;rcases h2 with⟨h2,e2,A,h3⟩|⟨g,cap,cur,h2,h3,h4,h5,h6,h7,h8,h9,aU⟩
  ·exact .inl ⟨f3.trans h2,e2,A,f2.trans h3⟩
  ·obtain⟨f5,f6⟩:=ho g h2;exact .inr ⟨g,cap,cur,f3.trans h2,f2.trans h3,hE.kY (apY.1 h5).1 h4,f5.trans h5,h6,h7,h8,λo=>f6 o (h9 o),λi j c x u hc hx hu=>(aU i j c x u hc hx hu).aT hE hN⟩
theorem cG.put{G:Gh}{w:aqC}{a:Act}{s:St}(h:cG G w a s){v:aqB}{x:AV}(hv:aD G w v x)(dst:aqz Nat):cG G w (a.put dst v) (s.put dst x):=by
 cases dst with
 |none=>exact h
 |some d=>
  by_cases hd:d<s.n
  ·have e1:s.put (some d) x={s with t:=(d,x)::s.t}:=rp hd x;rw[e1];refine⟨by simp [Act.put,h.size],λi=> ?_,h.inv,h.df⟩;by_cases hi:i=d
   ·subst hi;have:(a.tmps.setIfInBounds i v).getD i undef=v:=by simp [Array.getD,h.size,hd]
    simp only[Act.put,this,nq,if_true];exact hv
   ·have:(a.tmps.setIfInBounds d v).getD i undef=a.tmps.getD i undef:=by simp [Array.getElem?_setIfInBounds_ne (Ne.symm hi)]
    simp only[Act.put,this,nq,if_neg hi];exact h.tmp i
  ·have e1:s.put (some d) x=s:=DR hd x;have e2:a.put (some d) v=a:=by
    have:a.tmps.setIfInBounds d v=a.tmps:=Array.setIfInBounds_eq_of_size_le (by rw[h.size];omega);simp [Act.put,this]
   rw[e1,e2];exact h
theorem cG.move{G G':Gh}{w w':aqC}{a:Act}{s:St}(h:cG G w a s)(hE:bI G.N G w G' w')(hN:G.N<=G'.N){h':aqx an}(hi:bD G' w' h'):cG G' w' a {s with h:=h'}:=
 ⟨h.size,λi=>(h.tmp i).aT hE hN,hi,h.df.aT hE⟩
theorem cG.ev{G:Gh}{w:aqC}{a:Act}{s:St}(h:cG G w a s)(x:Operand):aD G w (a.eval x) (ev s x):=by
 cases x with
 |tmp t=>exact h.tmp t
 |const v=>
  show aD G w v (NN v);unfold NN;split
  ·rename_i vs
   exact .agg vs _ (by simp) λi u c hu hc=>by
    simp only[apQ,ap6,hu,Option.map_some,Option.some.injEq]at hc;subst hc;exact .d (.v u)
  ·rename_i vs
   exact .bz vs _ (by simp) λi u c hu hc=>by
    simp only[apQ,ap6,hu,Option.map_some,Option.some.injEq]at hc;subst hc;exact .d (.v u)
  ·exact .d (.v v)
 |global g=>
  show aD G w (.pointer (some ⟨g,0,none⟩)) (match AN y5 g with|some l=> .bJ [l.map .v] 0 0|none=> .dead);split
  ·next l hl=>
   have hg:=h.inv.gl.1 g l (Nk hl);have:=aD.bJ (G:=G) (w:=w) [l.map .v] 0 0 g 0 (λj=>l.getD j undef) (l.map .v) rfl (λj hj=> ?_) (λj d hd=> ?_)
   ·exact this
   ·rw[apO]at hj;have e:l[j]?=some l[j]:=apN hj;rw[ap3];refine⟨(hg j _ e).1,?_⟩;rw[(hg j _ e).2];simp [hj]
   ·rw[apQ]at hd;cases e:l[j]? with
    |none=>rw[e]at hd;cases hd
    |some v=>
     rw[e]at hd;cases hd
     have:l.getD j undef=v:=by simp [List.getD,e]
     rw[this];exact .v v
  ·exact .dead _
 |func f=>exact .fn f #[] [] rfl λi u c hu=>by simp at hu
def Gh.cT(G:Gh)(b:Nat):Gh:={G with N:=G.N+1,aI:=λn=>if n=G.N then b else G.aI n}
theorem tu(G:Gh)(w:aqC)(hz:∀b,G.Z b->b<w.heap.size)(hS:∀b o,G.S b o->b<w.heap.size)(o:Obj):bI G.N G w (G.cT w.heap.size) (w.alloc o):=
 ⟨by simp,λ_ _ h=>h,λb _ h=>World.cell?_alloc_lt _ _ _ (hS _ _ h),λn hn=>by simp [Gh.cT,Nat.ne_of_lt hn],λ_ _=> .inl ⟨rfl,rfl⟩,gp rfl,
  λb hb=>Below.heap_alloc w o b (hz b hb),rfl,rfl,rfl,λ_ _ h=> .inl h⟩
theorem ZC{G:Gh}{w:aqC}{h:aqx an}(hi:bD G w h)(vs:Array aqB)(T:TypeId)(cs:aqx AV)(hl:vs.size=cs.length)
 (hr:∀(i:Nat)(u:aqB)(c:AV),vs[i]?=some u->cs[i]?=some c->aD G w u c):
 bD (G.cT w.heap.size) (w.alloc (.cells vs T)) (h++[.cells cs])/\aD (G.cT w.heap.size) (w.alloc (.cells vs T)) (.pointer (some ⟨w.heap.size,0,none⟩)) (.ptr h.length 0):=by
 have hE:=tu G w hi.z hi.S (.cells vs T);have hN:G.N<=(G.cT w.heap.size).N:=Nat.le_succ _;have fY:(G.cT w.heap.size).aI h.length=w.heap.size:=by simp [Gh.cT,hi.len]
 have lz:∀n(B:an),n<G.N->B.dA (G.cT w.heap.size) n=B.dA G n:=λn B hn=>by
  cases B<;>simp [an.dA,Gh.cT,Nat.ne_of_lt hn]
 have fq:∀n,n<G.N->bM (h++[.cells cs]) (G.cT w.heap.size) n=bM h G n:=λn hn=>by
  have aH:n<h.length:=by rw[hi.len];exact hn
  unfold bM;rw[apT aH,apN aH];exact lz n _ hn
 have tS:bM (h++[.cells cs]) (G.cT w.heap.size) h.length=some w.heap.size:=by
  rw[dc (B:= .cells cs) (by simp)];exact congrArg some fY
 refine⟨⟨by simp [Gh.cT,hi.len],λb hb=>ap7 (hi.z b hb) hE.size,λb o hs=>ap7 (hi.S b o hs) hE.size,λn B hB=> ?_,λm n b hm hn=> ?_,hi.gl.aT hE⟩,?_⟩
 ·by_cases hn:n<h.length
  ·rw[apT hn]at hB;have eE:n<G.N:=hi.len▸hn;exact dD.aT eE hE hN ⟨rfl,rfl,rfl⟩ (λb hb=>⟨Below.heap_alloc w _ _ (hi.gw (n:=n) ((dc hB).trans hb)),λo h=>h⟩) (hi.cD n B hB)
  ·have j6:n=h.length:=by
    have:=(apJ.1 hB).1;simp at this;omega
   subst j6;simp at hB;subst hB;exact⟨by rw[fY];exact λhz=>aqn _ (hi.z _ hz),λo hs=>by rw[fY]at hs;exact aqn _ (hi.S _ _ hs),vs,T,by rw[fY];exact World.alloc_heap_new w _,hl,λi u c hu hc=>(hr i u c hu hc).aT hE hN⟩
 ·have key:∀n b,bM (h++[.cells cs]) (G.cT w.heap.size) n=some b->(n<G.N/\bM h G n=some b)\/(n=h.length/\b=w.heap.size):=λn b hn=>by
   by_cases aH:n<G.N
   ·exact .inl ⟨aH,by rw[<-fq n aH];exact hn⟩
   ·by_cases e:n=h.length
    ·subst e;rw[tS]at hn;cases hn;exact .inr ⟨rfl,rfl⟩
    ·rw[wR (aqf (by simp;have:=hi.len;omega))]at hn;cases hn
  rcases key m b hm with⟨_,jf⟩|⟨rfl,rfl⟩<;>rcases key n _ hn with⟨_,eE⟩|⟨rfl,hb⟩
  ·exact hi.inj m n b jf eE
  ·have:=hi.gw jf;omega
  ·have:=hi.gw eE;omega
  ·rfl
 ·have:=aD.ptr (G:=G.cT w.heap.size) (w:=w.alloc (.cells vs T)) h.length 0 (by simp [Gh.cT,hi.len])
  rwa [fY]at this
theorem MX(w:aqC)(g:Nat)(cs:Array aqB):(w.setRow g cs).heap.size=w.heap.size:=by simp [World.setRow]
theorem akL(w:aqC)(g:Nat)(cs:Array aqB)(b o:Nat)(h:b≠g):(w.setRow g cs).cell? ⟨b,o,none⟩=w.cell? ⟨b,o,none⟩:=World.cell?_of_block (setRow_other w g b cs h)
theorem amz{G:Gh}{w:aqC}{g:Nat}(cs:Array aqB)(hg:¬G.Z g)(hS:∀b o,G.S b o->(w.setRow g cs).cell? ⟨b,o,none⟩=w.cell? ⟨b,o,none⟩):bI G.N G w G (w.setRow g cs):=
 ⟨by rw[MX];exact apU _,λ_ _ h=>h,hS,λ_ _=>rfl,λ_ _=> .inl ⟨rfl,rfl⟩,gp rfl,λb hb=>setRow_other w g b cs (λe=>hg (e▸hb)),rfl,rfl,rfl,λ_ _ h=> .inl h⟩
theorem GM(cs ys:aqx AV)(off:Nat)(h:off+ys.length<=cs.length):(jm cs off ys).length=cs.length:=by
 simp [jm];omega
theorem alS{R:aqB->AV->Prop}(vs us:Array aqB)(cs ys:aqx AV)(off:Nat)(hl:vs.size=cs.length)(hu:us.size=ys.length)(hb:off+ys.length<=cs.length)
 (hr:∀(i:Nat)(u:aqB)(c:AV),vs[i]?=some u->cs[i]?=some c->R u c) (ql:∀(i:Nat)(u:aqB)(c:AV),us[i]?=some u->ys[i]?=some c->R u c):
 ∀(i:Nat)(u:aqB)(c:AV),(vs.toList.take off++us.toList++vs.toList.drop (off+us.toList.length)).toArray[i]?=some u->(jm cs off ys)[i]?=some c->R u c:=by
 intro i u c h1 h2;have pe:us.toList.length=ys.length:=by rw[aqg,hu]
 rw[pe]at h1;rw[List.getElem?_toArray]at h1;unfold jm at h2;simp only[ap0]at h1 h2;have yR:vs.toList.length=cs.length:=by rw[aqg,hl]
 by_cases h:i<off
 ·rw[apT (by simp;omega),List.getElem?_take_of_lt h]at h1;rw[apT (by simp;omega),List.getElem?_take_of_lt h]at h2;exact hr i u c (by rw[<-ap6];exact h1) h2
 ·rw[apZ (by simp;omega)]at h1 h2;simp only[List.length_take,yR]at h1 h2;rw[Nat.min_eq_left (by omega)]at h1 h2;by_cases h':i-off<ys.length
  ·rw[apT (by rw[pe];exact h')]at h1;rw[apT h']at h2;exact ql (i-off) u c (by rw[<-ap6];exact h1) h2
  ·rw[apZ (by rw[pe];omega),List.getElem?_drop]at h1;rw[apZ (by omega),List.getElem?_drop]at h2;rw[pe]at h1;rw[show off+ys.length+(i-off-ys.length)=i by omega]at h1 h2;exact hr i u c (by rw[<-ap6];exact h1) h2
theorem aoM{P:aqA}{G:Gh}{w:aqC}{h:aqx an}(hi:bD G w h){n off:Nat}{cs:aqx AV}(hn:h[n]?=some (.cells cs)){t:TypeId}{v:aqB}{x:AV}
 (hv:aD G w v x) (hb:x.jJ=true) (ht:fW P t=some x.cells.length) (ho:off+x.cells.length<=cs.length):
 ∃w',(storeVar t ⟨G.aI n,off,none⟩ v).run P w= .ok () w'/\bI G.N G w G w'/\bD G w' (h.set n (.cells (jm cs off x.cells))):=by
 obtain⟨hz,hS,vs,T,hh,hl,hr⟩:=hi.cD n _ hn;obtain⟨AP,Yb⟩:=hv.cells hb;obtain⟨i,jT,kS⟩:∃i,P.info? t=some i/\i.size=x.cells.length:=by
  unfold fW at ht;cases hq:P.info? t with
  |none=>rw[hq]at ht;cases ht
  |some i=>rw[hq]at ht;exact⟨i,rfl,by simpa using ht⟩
 have l0:=run_storeCells_at P (G.aI n) off T v.cells.toList 0 vs w hh (by rw[aqg,AP,hl];simpa using ho) (λu hu=>by
  obtain⟨j,hj⟩:=List.mem_iff_getElem?.1 hu;have iC:v.cells[j]?=some u:=by rw[<-ap6];exact hj
  have AF:j<x.cells.length:=by rw[<-AP];exact(apY.1 iC).1
  exact(Yb j u _ iC (apN AF)).2)
 simp only[Nat.add_zero]at l0;obtain⟨w',eQ⟩:∃w',w'=w.setRow (G.aI n) (vs.toList.take off++v.cells.toList++vs.toList.drop (off+v.cells.toList.length)).toArray:=⟨_,rfl⟩;rw[<-eQ]at l0;have hE:bI G.N G w G w':=by
  rw[eQ];exact amz _ hz λb o hs=>akL w _ _ b o (λe=>hS o (e▸hs))
 have eC:∀m,m≠n->(h.set n (.cells (jm cs off x.cells)))[m]?=h[m]?:=λm hm=>by rw[aqh (Ne.symm hm)]
 have kO:(h.set n (.cells (jm cs off x.cells)))[n]?=some (.cells (jm cs off x.cells)):=by
  rw[aqc (apJ.1 hn).1]
 have dS:∀m,bM (h.set n (.cells (jm cs off x.cells))) G m=bM h G m:=λm=>by
  by_cases e:m=n
  ·subst e;rw[dc kO,dc hn];rfl
  ·unfold bM;rw[eC m e]
 have kK:bM h G n=some (G.aI n):=dc hn;refine⟨w',?_,hE,⟨by rw[List.length_set];exact hi.len,λb hb=>ap7 (hi.z b hb) hE.size,λb o hs=>ap7 (hi.S b o hs) hE.size,λm B hB=> ?_,λm m' b h1 h2=>hi.inj m m' b (by rw[<-dS];exact h1) (by rw[<-dS];exact h2),hi.gl.aT hE⟩⟩
 ·unfold storeVar;simp only[sizeOf,typeInfo,Sem.run_bind,AP];simp [jT,kS,l0]
 ·by_cases e:m=n
  ·subst e;rw[kO]at hB;cases hB
   refine⟨hz,hS,_,T,by rw[eQ];exact setRow_heap w _ vs _ T _ hh,?_,λi u c hu hc=> ?_⟩
   ·rw[GM _ _ _ ho];have:v.cells.toList.length=x.cells.length:=by rw[aqg];exact AP
    simp only[List.size_toArray,apK,List.length_take,List.length_drop,aqg,hl,AP];omega
   ·exact(alS (R:=aD G w) vs v.cells cs x.cells off hl AP ho hr (λi u c h1 h2=>(Yb i u c h1 h2).1) i u c hu hc).aT hE (apU _)
  ·rw[eC m e]at hB;have cy:∀b,bM h G m=some b->b≠G.aI n:=λb hb eb=>e (hi.inj m n b hb (by rw[eb];exact kK));refine dD.aT (hi.lt hB) hE (apU _) ⟨rfl,rfl,rfl⟩ (λb hb=>⟨?_,λo h=>h⟩) (hi.cD m B hB);rw[eQ];exact setRow_other w _ _ _ (cy _ ((dc hB).trans hb))
theorem dn.pY{S:Nat->Nat->Prop}{w:aqC}{v:aqB}{xs:aqx (aqx D)}(h:dn S w v (.sl xs)):
 ∃(A:aqz Addr)(b o c k:Nat)(u:Nat->Nat->aqB),v= .slice A xs.length c/\(xs≠ []->A=some ⟨b,o,none⟩)/\xs.length<=c/\c<=maxLen/\(∀x∈xs,x.length=k)/\
  (∀i j,i<xs.length->j<k->S b (o+i*k+j)/\w.cell? ⟨b,o+i*k+j,none⟩=some (u i j)/\(u i j).oneCell'=true)/\
  (∀(i j:Nat)(x:aqx D)(d:D),xs[i]?=some x->x[j]?=some d->dn S w (u i j) d):=by
 cases h with
 |sl A b o c k xs u hA hc hm hk hS hu=>exact⟨A,b,o,c,k,u,rfl,hA,hc,hm,hk,hS,hu⟩
structure Rd(S:Nat->Nat->Prop)(w:World)(k:Nat)(xs:List (List D))(us:List Value):Prop where
 len:us.length=xs.length*k
 wid:∀x∈xs,x.length=k
 one:∀u∈us,u.oneCell'=true
 rel:∀(i j:Nat)(x:List D)(d:D),xs[i]?=some x->x[j]?=some d->∃u,us[i*k+j]?=some u/\dn S w u d
theorem Rd.aT{S S':Nat->Nat->Prop}{w w':aqC}{k:Nat}{xs:aqx (aqx D)}{us:aqx aqB}(h:Rd S w k xs us)(hS:∀b o,S b o->S' b o)(hc:∀b o,S b o->w'.cell? ⟨b,o,none⟩=w.cell? ⟨b,o,none⟩):Rd S' w' k xs us:=
 ⟨h.len,h.wid,h.one,λi j x d hx hd=>let ⟨u,h1,h2⟩:=h.rel i j x d hx hd;⟨u,h1,h2.aT hS hc⟩⟩
theorem Rd.append{S:Nat->Nat->Prop}{w:aqC}{k:Nat}{xs ys:aqx (aqx D)}{us vs:aqx aqB}(h:Rd S w k xs us)(h':Rd S w k ys vs):Rd S w k (xs++ys) (us++vs):=by
 refine⟨by rw[apK,apK,h.len,h'.len,Nat.add_mul],λx hx=> ?_,λu hu=> ?_,λi j x d hx hd=> ?_⟩
 ·rcases aql.1 hx with hx|hx
  ·exact h.wid x hx
  ·exact h'.wid x hx
 ·rcases aql.1 hu with hu|hu
  ·exact h.one u hu
  ·exact h'.one u hu
 ·by_cases hi:i<xs.length
  ·rw[apT hi]at hx;obtain⟨u,h1,h2⟩:=h.rel i j x d hx hd;exact⟨u,by rw[apT (apJ.1 h1).1];exact h1,h2⟩
  ·rw[apZ (by omega)]at hx;obtain⟨u,h1,h2⟩:=h'.rel (i-xs.length) j x d hx hd;refine⟨u,?_,h2⟩;have e:i*k+j=xs.length*k+((i-xs.length)*k+j):=by rw[Nat.sub_mul];have:=Nat.mul_le_mul_right k (Nat.le_of_not_lt hi);omega
   rw[e,apZ (by rw[h.len];omega),h.len,Nat.add_sub_cancel_left];exact h1
theorem Rd.GU{S:Nat->Nat->Prop}{w:aqC}{k:Nat}{xs:aqx (aqx D)}{us:aqx aqB}(h:Rd S w k xs us)(b c:Nat)(hc:xs.length<=c)(hm:c<=maxLen)
 (hS:∀o,o<xs.length*k->S b o) (gD:∀(o:Nat)(u:aqB),us[o]?=some u->w.cell? ⟨b,o,none⟩=some u):dn S w (.slice (some ⟨b,0,none⟩) xs.length c) (.sl xs):=by
 refine .sl _ b 0 c k xs (λi j=>us.getD (i*k+j) undef) (λ_=>rfl) hc hm h.wid (λi j hi hj=> ?_) (λi j x d hx hd=> ?_)
 ·have aH:i*k+j<xs.length*k:=by
   have:(i+1)*k<=xs.length*k:=Nat.mul_le_mul_right k hi;rw[Nat.add_mul]at this;omega
  have hg:us[i*k+j]?=some (us[i*k+j]'(by rw[h.len];exact aH)):=apN (by rw[h.len];exact aH);rw[ap3];refine⟨hS _ aH,?_,?_⟩
  ·rw[gD _ _ hg];simp [hg]
  ·simp only[List.getD_eq_getElem?_getD,hg,Option.getD_some];exact h.one _ (List.getElem_mem _)
 ·obtain⟨u,h1,h2⟩:=h.rel i j x d hx hd;simp only[List.getD_eq_getElem?_getD,h1,Option.getD_some];exact h2
theorem dn.rd{S:Nat->Nat->Prop}{w:aqC}{v:aqB}{xs:aqx (aqx D)}{k:Nat}(h:dn S w v (.sl xs))(gQ:0<k)(hk:∀x∈xs,x.length=k):
 ∃us,Rd S w k xs us/\∃A c,v= .slice A xs.length c/\xs.length<=c/\c<=maxLen/\(xs≠ []->∃b o,A=some ⟨b,o,none⟩/\∀(j:Nat)(u:aqB),us[j]?=some u->S b (o+j)/\w.cell? ⟨b,o+j,none⟩=some u):=by
 obtain⟨A,b,o,c,k',u,rfl,hA,hc,hm,lA,hS,hu⟩:=h.pY;by_cases hx:xs=[]
 ·subst hx;exact⟨[],⟨by simp,(λ_ h=>by cases h),(λ_ h=>by cases h),λi j x d hx=>by simp at hx⟩,A,c,rfl,hc,hm,λh=>absurd rfl h⟩
 ·have ek:k'=k:=by
   obtain⟨x,px⟩:=List.exists_mem_of_ne_nil xs hx;rw[<-lA x px,hk x px]
  subst ek;refine⟨(List.range (xs.length*k')).map λt=>u (t / k') (t%k'),⟨by simp,hk,λv hv=> ?_,λi j x d hx hd=> ?_⟩,A,c,rfl,hc,hm,λcy=>⟨b,o,hA cy,λj v hv=> ?_⟩⟩
  ·obtain⟨t,ht,rfl⟩:=List.mem_map.1 hv;have rV:=List.mem_range.1 ht;exact(hS (t / k') (t%k') (Nat.div_lt_of_lt_mul (by rw[Nat.mul_comm];exact rV)) (Nat.mod_lt _ gQ)).2.2
  ·have hj:j<k':=by rw[<-hk x (apW hx)];exact(apJ.1 hd).1
   have hi:i<xs.length:=(apJ.1 hx).1;refine⟨u i j,?_,hu i j x d hx hd⟩;have aH:i*k'+j<xs.length*k':=by
    have:(i+1)*k'<=xs.length*k':=Nat.mul_le_mul_right k' hi;rw[Nat.add_mul]at this;omega
   rw[apQ,List.getElem?_range aH];simp only[Option.map_some,Option.some.injEq];rw[show(i*k'+j)/ k'=i by rw[Nat.add_comm,Nat.add_mul_div_right _ _ gQ,Nat.div_eq_of_lt hj,ap3],show(i*k'+j)%k'=j by rw[Nat.add_comm,Nat.add_mul_mod_self_right,Nat.mod_eq_of_lt hj]]
  ·rw[apQ]at hv;by_cases hj:j<xs.length*k'
   ·rw[List.getElem?_range hj]at hv;simp only[Option.map_some,Option.some.injEq]at hv;subst hv;have:=hS (j / k') (j%k') (Nat.div_lt_of_lt_mul (by rw[Nat.mul_comm];exact hj)) (Nat.mod_lt _ gQ);have e:o+j / k'*k'+j%k'=o+j:=by have:=Nat.div_add_mod j k';rw[Nat.mul_comm]at this;omega
    rw[e]at this;exact⟨this.1,this.2.1⟩
   ·rw[aqf (by simp;omega)]at hv;cases hv
theorem dn.src{P:aqA}{S:Nat->Nat->Prop}{w:aqC}{v:aqB}{xs:aqx (aqx D)}{k:Nat}(h:dn S w v (.sl xs))(gQ:0<k)(hk:∀x∈xs,x.length=k){tx e':TypeId}(ht:P.underlying tx=some (.slice e')):
 ∃us,Rd S w k xs us/\Src P k tx v xs.length us w:=by
 obtain⟨us,hr,A,c,rfl,_,_,hA⟩:=h.rd gQ hk;refine⟨us,hr,?_⟩;by_cases hx:xs=[]
 ·subst hx;have mq:us=[]:=List.eq_nil_of_length_eq_zero (by rw[hr.len];simp);subst mq;cases A with
  |none=>exact Src.ofNil w ht c
  |some a=>exact Src.ofSlice w ht a 0 c [] (by simp) (λj u hu=>by simp at hu) (λu hu=>by cases hu)
 ·obtain⟨b,o,rfl,hc⟩:=hA hx;exact Src.ofSlice w ht _ _ c us hr.len (λj u hu=>by rw[lC];exact(hc j u hu).2) hr.one
def Gh.im(G:Gh)(v:aqB)(len:Nat):Gh:=
 {G with N:=G.N+1,sg:=λn=>if n=G.N then v else G.sg n,fl:=λn=>if n=G.N then len else G.fl n,ow:=λn=>if n=G.N then none else G.ow n}
theorem M1{G:Gh}{w:aqC}{h:aqx an}(hi:bD G w h){v:aqB}{xs:aqx (aqx D)}(hv:dn G.S w v (.sl xs))(hf:∃A,v= .slice A xs.length xs.length)(e:TypeId)(k:Nat):
 bI G.N G w (G.im v xs.length) w/\G.N<=(G.im v xs.length).N/\bD (G.im v xs.length) w (h++[.front e k xs.length])/\aD (G.im v xs.length) w v (.own h.length xs):=by
 have cy:∀n,n<G.N->n≠G.N:=λn hn=>Nat.ne_of_lt hn;have hE:bI G.N G w (G.im v xs.length) w:=⟨apU _,λ_ _ h=>h,λ_ _ _=>rfl,λ_ _=>rfl,λn hn=> .inl ⟨by simp [Gh.im,cy n hn],by simp [Gh.im,cy n hn]⟩,gp rfl,λ_ _=>rfl,rfl,rfl,rfl,λ_ _ h=> .inl h⟩;have hN:G.N<=(G.im v xs.length).N:=Nat.le_succ _;have Ud:xs.length<=maxLen:=by
  obtain⟨A,b,o,c,k',u,_,_,h1,h2,_⟩:=hv.pY;exact ap1 h1 h2
 have lz:∀n(B:an),n<G.N->B.dA (G.im v xs.length) n=B.dA G n:=λn B hn=>by
  cases B<;>simp [an.dA,Gh.im,Nat.ne_of_lt hn]
 have hold:∀n b,bM (h++[.front e k xs.length]) (G.im v xs.length) n=some b->bM h G n=some b:=λn b hb=>by
  by_cases hn:n<h.length
  ·unfold bM at hb ⊢;rw[apT hn,apN hn]at hb;rw[apN hn];rw[<-hb];exact(lz n _ (hi.len▸hn)).symm
  ·by_cases en:n=h.length
   ·subst en;rw[dc (B:= .front e k xs.length) (by simp)]at hb;simp [an.dA,Gh.im,hi.len]at hb
   ·rw[wR (aqf (by simp;omega))]at hb;cases hb
 refine⟨hE,hN,⟨by simp [Gh.im,hi.len],hi.z,hi.S,λn B hB=> ?_,λm n b hm hn=>hi.inj m n b (hold m b hm) (hold n b hn),hi.gl.aT hE⟩,?_⟩
 ·by_cases hn:n<h.length
  ·rw[apT hn]at hB;have eE:n<G.N:=hi.len▸hn;exact dD.aT eE hE hN ⟨by simp [Gh.im,cy n eE],by simp [Gh.im,cy n eE],by simp [Gh.im,cy n eE]⟩ (λb hb=>⟨rfl,λo h=>h⟩) (hi.cD n B hB)
  ·have j6:n=h.length:=by
    have:=(apJ.1 hB).1;simp at this;omega
   subst j6;simp at hB;subst hB;obtain⟨A,hA⟩:=hf;exact⟨by simp [Gh.im,hi.len],Ud, .inl ⟨by simp [Gh.im,hi.len],A,by simp [Gh.im,hi.len,hA]⟩⟩
 ·exact .own h.length xs (by simp [Gh.im,hi.len]) hv (by simp [Gh.im,hi.len]) (λ_=>by simp [Gh.im,hi.len])
theorem Pr{P:aqA}{e k b:Nat}(hk:fW P e=some k)(hb:qF P e=some b):∃i,P.info? e=some i/\i.size=k/\i.bytes=b:=by
 unfold fW at hk;unfold qF at hb;cases hq:P.info? e with
 |none=>rw[hq]at hk;cases hk
 |some i=>rw[hq]at hk hb;exact⟨i,rfl,by simpa using hk,by simpa using hb⟩
def Gh.grow(G:Gh)(n:Nat)(S:Nat->Nat->Prop)(v:aqB)(len:Nat)(ow:aqz Nat):Gh:=
 {G with S:=S,sg:=λm=>if m=n then v else G.sg m,fl:=λm=>if m=n then len else G.fl m,ow:=λm=>if m=n then ow else G.ow m}
theorem Vq{G:Gh}{w w':aqC}{h:aqx an}(hi:bD G w h){n e k len gS:Nat}(hn:h[n]?=some (.front e k len))(S:Nat->Nat->Prop)(v:aqB)(g:Nat)
 (hE:bI G.N G w (G.grow n S v gS (some g)) w') (hg:g=w.heap.size\/G.ow n=some g) (hgw:g<w'.heap.size)
 (hS:∀b o,S b o->G.S b o\/b=g) (iQ:∀b,b<w.heap.size->b≠g->w'.heap[b]?=w.heap[b]?)
 (hB:dD (G.grow n S v gS (some g)) w' n (.front e k gS)):bD (G.grow n S v gS (some g)) w' (h.set n (.front e k gS)):=by
 have eC:∀m,m≠n->(h.set n (.front e k gS))[m]?=h[m]?:=λm hm=>by rw[aqh (Ne.symm hm)]
 have kO:(h.set n (.front e k gS))[n]?=some (.front e k gS):=by rw[aqc (apJ.1 hn).1]
 have lz:∀m(B:an),m≠n->B.dA (G.grow n S v gS (some g)) m=B.dA G m:=λm B hm=>by
  cases B<;>simp [an.dA,Gh.grow,hm]
 have dS:∀m,m≠n->bM (h.set n (.front e k gS)) (G.grow n S v gS (some g)) m=bM h G m:=λm hm=>by
  unfold bM;rw[eC m hm];cases h[m]? with
  |none=>rfl
  |some B=>exact lz m B hm
 have yu:∀m,m≠n->bM h G m≠some g:=λm hm hb=>by
  rcases hg with hg|hg
  ·have:=hi.gw hb;omega
  ·exact hm (hi.inj m n g hb ((dc hn).trans hg))
 refine⟨by rw[List.length_set];exact hi.len,λb hb=>ap7 (hi.z b hb) hE.size,λb o hs=> ?_,λm B hm=> ?_,λm m' b h1 h2=> ?_,hi.gl.aT hE⟩
 ·rcases hS b o hs with hs|hs
  ·exact ap7 (hi.S b o hs) hE.size
  ·rw[hs];exact hgw
 ·by_cases em:m=n
  ·subst em;rw[kO]at hm;cases hm;exact hB
  ·rw[eC m em]at hm;refine dD.aT (hi.lt hm) hE (apU _) ⟨by simp [Gh.grow,em],by simp [Gh.grow,em],by simp [Gh.grow,em]⟩ (λb hb=> ?_) (hi.cD m B hm);have hr:bM h G m=some b:=(dc hm).trans hb;have cy:b≠g:=λe'=>yu m em (by rw[hr,e']);refine⟨iQ _ (hi.gw hr) cy,λo js hs=> ?_⟩;rcases hS _ o hs with hs|hs
   ·exact js hs
   ·exact cy hs
 ·by_cases e1:m=n<;>by_cases e2:m'=n
  ·rw[e1,e2]
  ·subst e1;rw[dS m' e2]at h2;have:bM (h.set m (.front e k gS)) (G.grow m S v gS (some g)) m=some g:=by rw[dc kO];simp [an.dA,Gh.grow]
   rw[this]at h1;cases h1;exact absurd h2 (yu m' e2)
  ·subst e2;rw[dS m e1]at h1;have:bM (h.set m' (.front e k gS)) (G.grow m' S v gS (some g)) m'=some g:=by rw[dc kO];simp [an.dA,Gh.grow]
   rw[this]at h2;cases h2;exact absurd h1 (yu m e1)
  ·rw[dS m e1]at h1;rw[dS m' e2]at h2;exact hi.inj m m' b h1 h2
set_option maxHeartbeats 1000000 in
theorem Za{P:aqA}{G:Gh}{w:aqC}{h:aqx an}(hi:bD G w h){T tx ty e k da:Nat}{i:TypeInfo}{z:aqB}(hT:P.underlying T=some (.slice e))(lf:P.info? e=some i)(hz:i.zero=some z)(nZ:i.size=k)(xX:i.bytes=da)(kr:z.cells.size=k)
 (gQ:0<k) {n:Nat} {xs ys:aqx (aqx D)} (hn:h[n]?=some (.front e k xs.length)) {u v:aqB} (hu:aD G w u (.own n xs)) (om:∀x∈xs,x.length=k)
 {us:aqx aqB} (hr:Rd G.S w k ys us) (hs:Src P k tx v ys.length us w) (yk:xs.length+ys.length<=maxLen) (pR:(xs.length+ys.length)*da<=140737488355328):
 ∃r w' G',(Builtin.append_ #[T,tx] ty #[u,v]).run P w= .ok r w'/\bI G.N G w G' w'/\G.N<=G'.N/\bD G' w' (h.set n (.front e k (xs.length+ys.length)))/\aD G' w' r (.own n (xs++ys)):=by
 subst nZ;subst xX;have o0:=hi.lt hn;obtain⟨me,Ud,hbr⟩:=hi.cD n _ hn;obtain⟨hp,XA⟩:dn G.S w u (.sl xs)/\u=G.sg n:=by
  cases hu with
  |own _ _ _ hp hle hf=>exact⟨hp,hf me.symm⟩
 obtain⟨olds,zY,A,c,AJ,lD,yy,hA⟩:=hp.rd gQ om;have R0:h.set n (.front e i.size (xs.length+0))=h:=by
  rw[Nat.add_zero];refine List.ext_getElem? λm=> ?_;by_cases em:m=n
  ·subst em;rw[aqc (apJ.1 hn).1,hn]
  ·rw[aqh (Ne.symm em)]
 by_cases hy:ys.length=0
 ·have lq:ys=[]:=List.eq_nil_of_length_eq_zero hy;subst lq;have mq:us=[]:=List.eq_nil_of_length_eq_zero (by rw[hr.len];simp);subst mq;have:=run_append_nothing (P:=P) w T tx ty e i hT lf A xs.length c lD v hs;refine⟨u,w,G,by rw[AJ];exact this,bI.refl _ _ _,apU _,?_,by rw[ap4];exact hu⟩;simp only[apV];rw[R0];exact hi
 ·have hy0:0<ys.length:=Nat.pos_of_ne_zero hy;have Rr:xs.length+ys.length<=9223372036854775807:=by simp only[maxLen]at yk;omega
  have Sq:Rd G.S w i.size (xs++ys) (olds++us):=zY.append hr;have grow:c<xs.length+ys.length->∃r w' G',(Builtin.append_ #[T,tx] ty #[u,v]).run P w= .ok r w'/\bI G.N G w G' w'/\G.N<=G'.N/\bD G' w' (h.set n (.front e i.size (xs.length+ys.length)))/\aD G' w' r (.own n (xs++ys)):=by
   intro hg;have hold:(Builtin.firstCells i.size xs.length (.slice A xs.length c)).run P w.drew= .ok olds.toArray w.drew:=by
    by_cases hx:xs=[]
    ·subst hx;have:olds=[]:=List.eq_nil_of_length_eq_zero (by rw[zY.len];simp);subst this;cases A with
     |none=>exact run_firstCells_none _ _ _ _ _
     |some a=>exact run_firstCells_some _ _ _ _ _ _ [] (by simp) (λj u hu=>by simp at hu)
    ·obtain⟨b,o,rfl,hc⟩:=hA hx;exact run_firstCells_some _ _ _ _ _ _ olds zY.len (λj u hu=>by rw[lC];exact(hc j u hu).2)
   have dp:=run_append_grow_src (P:=P) w T tx ty e i z hT lf hz A xs.length c olds hold v ys.length us hs hg (by omega) (growslice_fits hg pR);obtain⟨cap,j8⟩:∃cap,cap=grownCap w (xs.length+ys.length) c e:=⟨_,rfl⟩;have jU:xs.length+ys.length<=cap:=by rw[j8];exact grownCap_ge _ _ _ _
   have hle:cap<=maxLen:=by rw[j8];exact grownCap_le_maxLen _ _ _ _ yk
   rw[<-j8]at dp;obtain⟨cur,kx⟩:∃cur,cur=(olds++us).toArray++Builtin.zeroCells z.cells (cap-(xs.length+ys.length)):=⟨_,rfl⟩;rw[<-kx]at dp;obtain⟨w',eQ⟩:∃w',w'=w.drew.alloc (.cells cur e):=⟨_,rfl⟩;rw[<-eQ]at dp;have gj:cur.size=cap*i.size:=by
     have:=size_zeroCells z.cells (cap-(xs.length+ys.length));rw[kx,Array.size_append,this,List.size_toArray,Sq.len,kr,apK,<-Nat.add_mul]
     congr 1
     omega
   have fq:w'.heap[w.heap.size]?=some (.cells cur e (0,0)):=by rw[eQ];exact World.alloc_heap_new w.drew _
   have Pw:∀b,b<w.heap.size->w'.heap[b]?=w.heap[b]?:=λb hb=>by rw[eQ];exact Below.heap_alloc w.drew _ b hb
   have eY:w'.heap.size=w.heap.size+1:=by rw[eQ];simp
   obtain⟨S,hS⟩:∃S:Nat->Nat->Prop,S=λb o=>G.S b o\/(b=w.heap.size/\o<(xs.length+ys.length)*i.size):=⟨_,rfl⟩;have gD:∀b o,G.S b o->w'.cell? ⟨b,o,none⟩=w.cell? ⟨b,o,none⟩:=λb o hs=>World.cell?_of_block (Pw b (hi.S b o hs));have hE:bI G.N G w (G.grow n S (.slice (some ⟨w.heap.size,0,none⟩) (xs.length+ys.length) cap) (xs.length+ys.length) (some w.heap.size)) w':=
    ⟨by rw[eY];exact Nat.le_succ _,λb o h=>by show S b o;rw[hS];exact .inl h,gD,λ_ _=>rfl,
     λm _=>by
      by_cases em:m=n
      ·right;subst em;simp only[Gh.grow,if_true,me];omega
      ·left;exact⟨by simp [Gh.grow,em],by simp [Gh.grow,em]⟩,
     gp rfl,λb hb=>Pw b (hi.z b hb),by rw[eQ];rfl,by rw[eQ];rfl,by rw[eQ];rfl,λb o hs=>by
      have ct:S b o:=hs;rw[hS]at ct;rcases ct with h|⟨rfl,_⟩
      ·exact .inl h
      ·exact .inr λhz=>aqn _ (hi.z _ hz)⟩
   have hP:dn S w' (.slice (some ⟨w.heap.size,0,none⟩) (xs++ys).length cap) (.sl (xs++ys)):=by
    refine(Sq.aT (S':=S) (w':=w') (λb o h=>by rw[hS];exact .inl h) gD).GU w.heap.size cap (by rw[apK];exact jU) hle (λo ho=>by rw[hS];exact .inr ⟨rfl,by rw[apK]at ho;exact ho⟩) (λo x ho=> ?_);rw[cell_of_row w' w.heap.size o cur e (0,0) fq,kx,Array.getElem?_append_left (by simp only[List.size_toArray];exact(apJ.1 ho).1),List.getElem?_toArray];exact ho
   rw[apK]at hP;refine⟨_,w',_,by rw[AJ];exact dp,hE,apU _,Vq hi hn S _ w.heap.size hE (.inl rfl) (by rw[eY];exact aqv _) (λb o hs=> ?_) (λb hb _=>Pw b hb) ?_,?_⟩
   ·rw[hS]at hs;exact hs.imp id And.left
   ·refine⟨by simp [Gh.grow],yk, .inr ⟨w.heap.size,cap,cur,by simp [Gh.grow],by simp [Gh.grow],λhz=>aqn _ (hi.z _ hz),fq,jU,hle,gj,λo ho hs=> ?_⟩⟩;have ct:S w.heap.size o:=hs;rw[hS]at ct;rcases ct with ct|⟨_,ct⟩
    ·have:=hi.S _ _ ct;omega
    ·omega
   ·exact .own n (xs++ys) o0 hP (by simp [Gh.grow]) (λ_=>by simp [Gh.grow])
  rcases hbr with⟨iP,A',jR⟩|⟨g,cap,cur,iP,jR,pJ,rM,R9,Og,YY,hb8⟩
  ·refine grow ?_;rw[XA,jR]at AJ;cases AJ
   omega
  ·have UG:=AJ;rw[XA,jR]at UG;injection UG with eA0 _ e1;have e2:=e1.symm;subst e2;subst eA0;by_cases oy:xs.length+ys.length<=c
   ·
    have mh:xs.length*i.size+us.length<=cur.size:=by rw[hr.len,YY,<-Nat.add_mul];exact Nat.mul_le_mul_right _ oy
    have F4:∀o,w.cell? ⟨g,o,none⟩=cur[o]?:=λo=>cell_of_row w g o cur e (0,0) rM;have zQ:∀j,j<us.length->(w.cell? ⟨g,0+xs.length*i.size+j,none⟩).isSome=true:=λj hj=>by
     rw[F4,ap3,ap5 (by omega)];rfl
    have dp:=run_append_room_src (P:=P) w T tx ty e i hT lf g 0 xs.length c v ys.length us hs oy zQ
     (λj hj=>by unfold World.frozen?;rw[rM];simp)
    rw[ap3]at dp zQ;obtain⟨w',eQ⟩:∃w',w'=w.setCells g (xs.length*i.size) us:=⟨_,rfl⟩;rw[<-eQ]at dp;have aes:g<w.heap.size:=(apY.1 rM).1;have l0:=run_storeCells_at P g (xs.length*i.size) e us 0 cur w rM (by simpa using mh) hs.one;have xW:=run_storeCells_cells (P:=P) g (xs.length*i.size) us 0 w (by simpa using zQ) (λj hj=>by unfold World.frozen?;rw[rM];simp) hs.one;simp only[Nat.add_zero]at l0 xW;rw[l0]at xW;have yZ:w'=w.setRow g (cur.toList.take (xs.length*i.size)++us++cur.toList.drop (xs.length*i.size+us.length)).toArray:=by
      rw[eQ];injection xW with _ e2;exact e2.symm
    obtain⟨lg,RV⟩:∃lg:Array aqB,lg=(cur.toList.take (xs.length*i.size)++us++cur.toList.drop (xs.length*i.size+us.length)).toArray:=⟨_,rfl⟩;rw[<-RV]at yZ;have mv:w'.heap[g]?=some (.cells lg e (0,0)):=by rw[yZ];exact setRow_heap w g cur lg e _ rM
    have iQ:∀b,b≠g->w'.heap[b]?=w.heap[b]?:=λb hb=>by rw[yZ];exact setRow_other w g b lg hb
    have eY:w'.heap.size=w.heap.size:=by rw[yZ];exact MX w g lg
    have ir:∀o,lg[o]?=if o<xs.length*i.size then cur[o]? else if o<xs.length*i.size+us.length then us[o-xs.length*i.size]? else cur[o]?:=λo=>by
     rw[RV,List.getElem?_toArray,ap0];have hl:cur.toList.length=cur.size:=aqg;by_cases h1:o<xs.length*i.size
     ·rw[if_pos h1,apT (by simp;omega),List.getElem?_take_of_lt h1,ap6]
     ·rw[if_neg h1,apZ (by simp;omega)];simp only[List.length_take,hl];rw[Nat.min_eq_left (by omega)];by_cases h2:o<xs.length*i.size+us.length
      ·rw[if_pos h2,apT (by omega)]
      ·rw[if_neg h2,apZ (by omega),List.getElem?_drop,show xs.length*i.size+us.length+(o-xs.length*i.size-us.length)=o by omega,ap6]
    have ae8:lg.size=cur.size:=by
     rw[RV];simp only[List.size_toArray,apK,List.length_take,List.length_drop,aqg];omega
    have gD:∀b o,G.S b o->w'.cell? ⟨b,o,none⟩=w.cell? ⟨b,o,none⟩:=λb o hs=>by
     by_cases eb:b=g
     ·subst eb;have ho:o<xs.length*i.size:=Nat.lt_of_not_le λhle=>hb8 o hle hs;rw[F4,cell_of_row w' b o lg e (0,0) mv,ir,if_pos ho]
     ·exact World.cell?_of_block (iQ b eb)
    obtain⟨S,hS⟩:∃S:Nat->Nat->Prop,S=λb o=>G.S b o\/(b=g/\o<(xs.length+ys.length)*i.size):=⟨_,rfl⟩;have hE:bI G.N G w (G.grow n S (.slice (some ⟨g,0,none⟩) (xs.length+ys.length) c) (xs.length+ys.length) (some g)) w':=
     ⟨by rw[eY];exact apU _,λb o h=>by show S b o;rw[hS];exact .inl h,gD,λ_ _=>rfl,
      λm _=>by
       by_cases em:m=n
       ·right;subst em;simp only[Gh.grow,if_true,me];omega
       ·left;exact⟨by simp [Gh.grow,em],by simp [Gh.grow,em]⟩,
      gp rfl,λb hb=>iQ b (λe=>pJ (e▸hb)),by rw[yZ];rfl,by rw[yZ];rfl,by rw[yZ];rfl,λb o hs=>by
       have ct:S b o:=hs;rw[hS]at ct;rcases ct with h|⟨rfl,_⟩
       ·exact .inl h
       ·exact .inr pJ⟩
    have hP:dn S w' (.slice (some ⟨g,0,none⟩) (xs++ys).length c) (.sl (xs++ys)):=by
     refine(Sq.aT (S':=S) (w':=w') (λb o h=>by rw[hS];exact .inl h) gD).GU g c (by rw[apK];exact oy) Og (λo ho=>by rw[hS];exact .inr ⟨rfl,by rw[apK]at ho;exact ho⟩) (λo x ho=> ?_);rw[cell_of_row w' g o lg e (0,0) mv,ir];have kp:olds.length=xs.length*i.size:=zY.len;by_cases h1:o<xs.length*i.size
     ·rw[if_pos h1];rw[apT (by omega)]at ho;have hx:xs≠ []:=λe=>by subst e;simp at h1
      obtain⟨b,o',eA,hc⟩:=hA hx;cases eA
      have:=(hc o x ho).2;rw[ap3,F4]at this;exact this
     ·rw[if_neg h1];rw[apZ (by omega),kp]at ho;have:=(apJ.1 ho).1;rw[if_pos (by omega)];exact ho
    rw[apK]at hP;refine⟨_,w',_,by rw[AJ];exact dp,hE,apU _,Vq hi hn S _ g hE (.inr iP) (by rw[eY];exact aes) (λb o hs=> ?_) (λb _ hb=>iQ b hb) ?_,?_⟩
    ·rw[hS]at hs;exact hs.imp id And.left
    ·refine⟨by simp [Gh.grow],yk, .inr ⟨g,c,lg,by simp [Gh.grow],by simp [Gh.grow],pJ,mv,oy,Og,by rw[ae8,YY],λo ho hs=> ?_⟩⟩;have ct:S g o:=hs;rw[hS]at ct;rcases ct with ct|⟨_,ct⟩
     ·exact hb8 o (ap1 (Nat.mul_le_mul_right _ (aqo _ _)) ho) ct
     ·omega
    ·exact .own n (xs++ys) o0 hP (by simp [Gh.grow]) (λ_=>by simp [Gh.grow])
   ·exact grow (by omega)
def WF(r:aqz Nat):Fence:={Fence.wide with round:=r}
def iN(N0:Nat)(G:Gh)(w:aqC)(K:St->Prop)(a':Act)(w':aqC):Prop:=∃G' s',bI N0 G w G' w'/\N0<=G'.N/\cG G' w' a' s'/\K s'
section
variable {P:aqA} {r:aqz Nat} {n N0:Nat} {G:Gh} {w:aqC} {a:Act} {s:St} {o:Oper} {K:St->Prop} {Q:Exit->Act->aqC->Prop}
theorem mm(hop:∀c,o.op≠ .defer c)(hs:cG G w a s)(cm:N0<=G.N){v:aqB}{x:AV}{w':aqC}{G':Gh}{h':aqx an}(hr:(execOp a.eval o).run P w= .ok (.value v) w')
 (hE:bI G.N G w G' w') (hN:G.N<=G'.N) (hi:bD G' w' h') (hv:aD G' w' v x) (hK:K ((s.wh h').put o.dst x)):o.wpIn (WF r) n P a w (iN N0 G w K) Q:=by
 refine⟨λ_ _=>trivial,?_⟩;rw[Oper.semAt_eq _ _ _ hop,hr];exact⟨G',_,hE.less cm,ap1 cm hN,((hs.move hE hN hi).put hv o.dst),hK⟩
theorem fy(hop:∀c,o.op≠ .defer c)(hs:cG G w a s)(cm:N0<=G.N){v:aqB}{x:AV}(hr:(execOp a.eval o).run P w= .ok (.value v) w)(hv:aD G w v x)(hK:K (s.put o.dst x)):
 o.wpIn (WF r) n P a w (iN N0 G w K) Q:=
 mm hop hs cm hr (bI.refl _ _ _) (apU _) hs.inv hv hK
theorem Sn(hop:∀c,o.op≠ .defer c)(hs:cG G w a s)(cm:N0<=G.N){w':aqC}{G':Gh}{h':aqx an}(hr:(execOp a.eval o).run P w= .ok .skip w')
 (hE:bI G.N G w G' w') (hN:G.N<=G'.N) (hi:bD G' w' h') (hK:K ((s.wh h').put o.dst (.d (.v undef)))):o.wpIn (WF r) n P a w (iN N0 G w K) Q:=by
 refine⟨λ_ _=>trivial,?_⟩;rw[Oper.semAt_eq _ _ _ hop,hr];exact⟨G',_,hE.less cm,ap1 cm hN,((hs.move hE hN hi).put (.d (.v undef)) o.dst),hK⟩
theorem TZ{t k:Nat}(h:fW P t=some k):∃i,P.info? t=some i/\i.size=k:=by
 unfold fW at h;cases hq:P.info? t with
 |none=>rw[hq]at h;cases h
 |some i=>rw[hq]at h;exact⟨i,rfl,by simpa using h⟩
theorem JE{t:Nat}{z:aqB}(h:iu P t=some z):∃i,P.info? t=some i/\i.zero=some z:=by
 unfold iu at h;cases hq:P.info? t with
 |none=>rw[hq]at h;cases h
 |some i=>rw[hq]at h;exact⟨i,rfl,by simpa using h⟩
theorem Gz{t:Nat}{z:aqB}(h:iu P t=some z)(w:aqC):(zeroValue t).run P w= .ok z w:=by
 obtain⟨i,h1,h2⟩:=JE h;simp [zeroValue,typeInfo,h1,h2]
theorem mr{t k:Nat}(h:fW P t=some k)(w:aqC):(sizeOf t).run P w= .ok k w:=by
 obtain⟨i,h1,h2⟩:=TZ h;simp [sizeOf,typeInfo,h1,h2]
theorem DO{t:Nat}{g:Bool}(h:ml P t=some g)(w:aqC):(isAgg t).run P w= .ok g w:=by
 unfold ml at h;cases hq:P.underlying t with
 |none=>rw[hq]at h;cases h
 |some d=>
  rw[hq]at h;unfold isAgg;rw[Sem.run_bind,run_underlying hq w];simp only[Option.map_some,Option.some.injEq]at h;subst h;cases d<;>rfl
theorem aet{t:Nat}(h:ml P t=some true):∃d,P.underlying t=some d/\d.isRow=true:=by
 unfold ml at h;cases hq:P.underlying t with
 |none=>rw[hq]at h;cases h
 |some d=>rw[hq]at h;refine⟨d,rfl,?_⟩;cases d<;>simp_all [TypeDesc.isRow]
theorem Vx{t:Nat}{C:AV->Prop}:∀(b o:Nat)(cs:aqx AV)(off:Nat)(us:Nat->aqB),(∀j,j<cs.length->w.cell? ⟨b,o+j,none⟩=some (us j))->(∀(j:Nat)(c:AV),cs[j]?=some c->aD G w (us j) c)->
 (match ml P t,fW P t with
  |some true,some k=>gJ (cn (off+k) cs.length) (C (.agg ((cs.drop off).take k)))
  |some false,some _=>match cs[off]? with
   |some c=>C c
   |none=>False
  |_,_=>False)->∃u x,(loadVar t ⟨b,o+off,none⟩).run P w= .ok u w/\aD G w u x/\C x:=by
 intro b o cs off us h1 h2 h3;split at h3
 ·rename_i k hg hk
  obtain⟨hlen,hC⟩:=bS.1 h3;rw[dI]at hlen;obtain⟨d,Es,mR⟩:=aet hg;have HC:((List.range k).map λj=>us (off+j)).length=k:=by simp
  have dp:=run_loadVar_mid (P:=P) w b (o+off) t ((List.range k).map λj=>us (off+j)) d (λj u hu=>by
   rw[apQ]at hu;by_cases hj:j<k
   ·rw[List.getElem?_range hj]at hu;simp only[Option.map_some,Option.some.injEq]at hu;subst hu;have:=h1 (off+j) (by omega)
    rwa [<-Nat.add_assoc]at this
   ·rw[aqf (by simp;omega)]at hu;cases hu) Es mR (by rw[HC];exact hk)
  refine⟨_,_,dp, .agg _ _ (by simp;omega) λi u c hu hc=> ?_,hC⟩;rw[List.getElem?_toArray,apQ]at hu;rw[List.getElem?_take]at hc;split at hc
  ·rename_i nZ
   rw[List.getElem?_range nZ]at hu;simp only[Option.map_some,Option.some.injEq]at hu;subst hu;rw[List.getElem?_drop]at hc;exact h2 (off+i) c hc
  ·cases hc
 ·rename_i k hg hk
  split at h3
  ·rename_i c hc
   refine⟨us off,c,?_,h2 off c hc,h3⟩;unfold loadVar;rw[Sem.run_bind,DO hg w];simp only[Result.andThen_ok,Bool.false_eq_true,if_false];unfold load;simp only[Sem.run,h1 off (apJ.1 hc).1]
  ·exact h3.elim
 ·exact h3.elim
theorem aa3{t:Nat}{p:AV}{v:aqB}{C:AV->Prop}(hi:bD G w s.h)(hv:aD G w v p)(h:oK P t s.h p C):∃u x,(Instr.loadAt t v).run P w= .ok u w/\aD G w u x/\C x:=by
 have key:=Vx (P:=P) (G:=G) (w:=w) (t:=t) (C:=C);unfold oK s8 at h;cases p with
 |ptr m off=>
  simp only at h;split at h
  ·rename_i cs hm
   obtain⟨_,_,vs,T,hh,hl,hr⟩:=hi.cD m _ hm;cases hv with
   |ptr _ _ xG=>
    obtain⟨u,x,h1,h2,h3⟩:=key (G.aI m) 0 cs off (λj=>vs.getD j undef) (λj hj=>by
     have iC:j<vs.size:=by rw[hl];exact hj
     rw[ap3,cell_of_row w (G.aI m) j vs T (0,0) hh];simp [Array.getD,iC]) (λj c hc=>by
     have iC:j<vs.size:=by rw[hl];exact(apJ.1 hc).1
     exact hr j _ c (by simp [Array.getD,iC]) hc) h
    rw[ap3]at h1;exact⟨u,x,by simp [Instr.loadAt,Instr.sureAddr,h1],h2,h3⟩
  ·exact h.elim
 |bJ xs i off=>
  simp only at h;split at h
  ·rename_i cs gj
   cases hv with
   |bJ _ _ _ b o us x hx hS hu=>
    rw[hx]at gj;cases gj
    obtain⟨u,y,h1,h2,h3⟩:=key b o (cs.map .d) off us (λj hj=>(hS j (by simpa using hj)).2) (λj c hc=>by
     rw[apQ]at hc;cases hd:cs[j]? with
     |none=>rw[hd]at hc;cases hc
     |some d=>rw[hd]at hc;cases hc;exact .d (hu j d hd)) h
    exact⟨u,y,by simp [Instr.loadAt,Instr.sureAddr,h1],h2,h3⟩
  ·exact h.elim
 |_=>exact h.elim
theorem aD.list{u:aqB}{x:AV}{xs:aqx (aqx D)}(h:aD G w u x)(hx:x.fM=some xs):dn G.S w u (.sl xs):=by
 unfold AV.fM at hx;split at hx
 ·cases hx;cases h with|d h=>exact h
 ·cases hx;cases h with|own _ _ _ h=>exact h
 ·cases hx;cases h with|full _ h=>exact h
 ·cases hx
  cases h with
  |d h=>
   cases h with
   |v=>exact .sl none 0 0 0 0 [] (λ_ _=>undef) (λh=>absurd rfl h) (apU _) (by simp) (λ_ h=>by cases h) (λi j hi=>by simp at hi) (λi j x d hx=>by simp at hx)
 ·cases hx
theorem aD.int{u:aqB}{x:AV}{z:Int}(h:aD G w u x)(hx:x.int?=some z):∃k,u= .int k z:=by
 unfold AV.int? at hx;split at hx
 ·rename_i k m
  cases hx
  cases h with
  |d h=>cases h with|v=>exact⟨k,rfl⟩
 ·cases hx
theorem aD.bool{u:aqB}{t:Bool}(h:aD G w u (.d (.v (.bool t)))):u= .bool t:=by
 cases h with|d h=>cases h with|v=>rfl
theorem aD.val{u v:aqB}(h:aD G w u (.d (.v v))):u=v:=by
 cases h with|d h=>cases h with|v=>rfl
theorem j5{T e k:Nat}(h:eJ P T=some (e,k)):P.underlying T=some (.slice e)/\fW P e=some k:=by
 unfold eJ at h;split at h
 ·rename_i e' he
  cases hq:fW P e' with
  |none=>rw[hq]at h;cases h
  |some k'=>rw[hq]at h;simp at h;obtain⟨rfl,rfl⟩:=h;exact⟨he,hq⟩
 ·cases h
theorem PX{T m e k:Nat}(h:uB P T=some (m,e,k)):P.underlying T=some (.array m e)/\fW P e=some k:=by
 unfold uB at h;split at h
 ·rename_i m' e' he
  cases hq:fW P e' with
  |none=>rw[hq]at h;cases h
  |some k'=>rw[hq]at h;simp at h;obtain⟨rfl,rfl,rfl⟩:=h;exact⟨he,hq⟩
 ·cases h
theorem anc{T:Nat}{x i:AV}{u v:aqB}{C:AV->Prop}(hu:aD G w u x)(hv:aD G w v i)(h:tX P T x i C):∃p y,(Instr.indexAt T u v).run P w= .ok p w/\aD G w p y/\C y:=by
 unfold tX at h;split at h
 ·rename_i e k hT
  obtain⟨eR,fR⟩:=j5 hT;split at h
  ·rename_i m off len cap k'
   split at h
   ·rename_i z hz
    obtain⟨uJ,h0,aH,hC⟩:=bS.1 h;rw[beq_iff_eq]at uJ;subst uJ;obtain⟨kz,rfl⟩:=hv.int hz;cases hu with
    |row _ _ _ _ _ hm hl pL=>
     have hN:(z.toNat:Int)=z:=Int.toNat_of_nonneg h0;refine⟨_,_,?_, .ptr m (off+z.toNat*k') hm,hC⟩;simp [Instr.indexAt,asIntOf,run_underlying eR,h0,aH,mr fR,lC]
   ·exact h.elim
  ·split at h
   ·rename_i xs z lW hz
    obtain⟨h0,h⟩:=h;obtain⟨kz,rfl⟩:=hv.int hz;split at h
    ·rename_i c hc
     obtain⟨hk,hC⟩:=h;obtain⟨A,b,o,cc,k',us,rfl,hA,lD,yy,lA,hS,mq⟩:=(hu.list lW).pY;have aH:z.toNat<xs.length:=(apJ.1 hc).1;have cy:xs≠ []:=λe=>by subst e;simp at aH
     have ek:k'=k:=by rw[<-lA c (apW hc),hk]
     subst ek;rw[hA cy];have uD:z<(xs.length:Int):=by omega
     refine⟨_, .bJ [c] 0 0,?_, .bJ [c] 0 0 b (o+z.toNat*k') (us z.toNat) c rfl (λj hj=> ?_) (λj d hd=>mq _ _ _ _ hc hd),hC⟩
     ·simp [Instr.indexAt,asIntOf,run_underlying eR,h0,uD,mr fR,lC]
     ·have:=hS z.toNat j aH (by rw[hk]at hj;exact hj);exact⟨this.1,this.2.1⟩
    ·exact h.elim
   ·exact h.elim
 ·split at h
  ·rename_i m e k b off z hT hz
   obtain⟨h0,aH,hC⟩:=h;obtain⟨eR,fR⟩:=PX hT;obtain⟨kz,rfl⟩:=hv.int hz;cases hu with
   |ptr _ _ hb=>
    refine⟨_,_,?_, .ptr b (off+z.toNat*k) hb,hC⟩;simp [Instr.indexAt,Instr.sureAddr,asIntOf,run_underlying eR,h0,aH,mr fR,lC]
  ·rename_i m e k xs i' off z hT hz
   obtain⟨wo,h0,aH,h9⟩:=bS.1 h;rw[beq_iff_eq]at wo;subst wo;obtain⟨eR,fR⟩:=PX hT;obtain⟨kz,rfl⟩:=hv.int hz;split at h9
   ·rename_i c hc
    split at h9
    ·rename_i d hd
     cases hu with
     |bJ _ _ _ b o us c' ir hS mq=>
      rw[hc]at ir;cases ir
      have aop:=(apJ.1 hd).1;refine⟨_, .bJ [[d]] 0 0,?_, .bJ [[d]] 0 0 b (o+(off+z.toNat)) (λ_=>us (off+z.toNat)) [d] rfl (λj hj=> ?_) (λj d' gz=> ?_),h9⟩
      ·simp [Instr.indexAt,Instr.sureAddr,asIntOf,run_underlying eR,h0,aH,mr fR,lC,Nat.add_assoc]
      ·simp at hj;subst hj;exact hS _ aop
      ·match j with
       |0=>simp at gz;subst gz;exact mq _ _ hd
       |j+1=>simp at gz
    ·exact h9.elim
   ·exact h9.elim
  ·exact h.elim
theorem uc{T:Nat}(h:ia P T=true):P.underlying T=some .string:=by
 unfold ia at h;split at h
 ·assumption
 ·cases h
theorem afV{T:Nat}{x:AV}{u:aqB}{ty:Nat}{C:Nat->Prop}(hu:aD G w u x)(h:sH P T x C):∃m:Nat,(Builtin.len_ #[T] ty #[u]).run P w= .ok (.int .i64 m) w/\C m:=by
 have yN:∀(A:aqz Addr)(l c:Nat),(eJ P T).isSome=true->(Builtin.len_ #[T] ty #[.slice A l c]).run P w= .ok (.int .i64 l) w:=by
  intro A l c hT;obtain⟨⟨e,k⟩,hT⟩:=Option.isSome_iff_exists.1 hT;simp [Builtin.len_,run_underlying (j5 hT).1,goInt]
 unfold sH at h;split at h
 ·rename_i b
  have:=hu.val;subst this;obtain⟨hT,hC⟩:=bS.1 h;exact⟨b.size,by simp [Builtin.len_,run_underlying (uc hT),goInt],hC⟩
 ·cases hu with
  |row=>exact⟨_,yN _ _ _ (bS.1 h).1,(bS.1 h).2⟩
 ·split at h
  ·rename_i xs lW
   obtain⟨A,b,o,c,k,us,rfl,_⟩:=(hu.list lW).pY;exact⟨_,yN _ _ _ (bS.1 h).1,(bS.1 h).2⟩
  ·exact h.elim
def BS(a:Act)(x:aqz Operand)(d m:Nat):Prop:=match x with|none=>m=d|some y=>∃k z,a.eval y= .int k z/\0<=z/\m=z.toNat
theorem uR{x:aqz Operand}{d:Nat}{C:Nat->Prop}(hs:cG G w a s)(h:j0 (ev s) x d C):∃m,C m/\BS a x d m:=by
 cases x with
 |none=>exact⟨_,h,rfl⟩
 |some y=>
  unfold j0 at h;simp only at h;split at h
  ·rename_i z hz
   obtain⟨k,hk⟩:=(hs.ev y).int hz;exact⟨_,h.2,k,z,hk,h.1,rfl⟩
  ·exact h.elim
theorem A9{k:IntKind}{z:Int}{y:Nat}{code:BoundsCode}(h0:0<=z)(h:z.toNat<=y)(w:aqC):(Instr.sliceBound (.int k z) y code).run P w= .ok z.toNat w:=by
 have:z<=(y:Int):=by omega
 simp [Instr.sliceBound,asIntOf,h0,this]
theorem Ed{lo hi:aqz Operand}{len cap l h:Nat}{Bl:Bool}(kp:BS a lo 0 l)(qD:BS a hi len h)(hl:l<=h)(hh:h<=cap)(w:aqC):
 (Instr.sliceBounds Bl len cap (lo.map a.eval) (hi.map a.eval) none).run P w= .ok (l,h,cap) w:=by
 unfold BS at kp qD;cases lo with
 |none=>
  subst kp;cases hi with
  |none=>subst qD;simp [Instr.sliceBounds]
  |some y=>
   obtain⟨k,z,e,h0,rfl⟩:=qD;simp [Instr.sliceBounds,e,A9 h0 hh]
 |some x=>
  obtain⟨k',z',e',Vr,rfl⟩:=kp;cases hi with
  |none=>subst qD;simp [Instr.sliceBounds,e',A9 Vr hl]
  |some y=>
   obtain⟨k,z,e,h0,rfl⟩:=qD;simp [Instr.sliceBounds,e,e',A9 h0 hh,A9 Vr hl]
theorem dn.part{S:Nat->Nat->Prop}{v:aqB}{xs:aqx (aqx D)}{k:Nat}(hp:dn S w v (.sl xs))(hk:∀c∈xs,c.length=k){l h:Nat}(hl:l<=h)(hh:h<=xs.length):
 ∃A c,v= .slice A xs.length c/\xs.length<=c/\dn S w (.slice (if c=l then A else A.map (·.add (l*k))) (h-l) (c-l)) (.sl ((xs.take h).drop l)):=by
 obtain⟨A,b,o,c,k',us,rfl,hA,lD,yy,lA,hS,mq⟩:=hp.pY;refine⟨A,c,rfl,lD,?_⟩;have hlen:((xs.take h).drop l).length=h-l:=by simp;omega
 rw[<-hlen];by_cases hx:xs=[]
 ·subst hx;have e:((([]:aqx (aqx D)).take h).drop l)=[]:=by simp
  rw[e];exact .sl _ 0 0 (c-l) 0 [] (λ_ _=>undef) (λh=>absurd rfl h) (Nat.zero_le _) (by omega) (λ_ h=>by cases h) (λi j hi=>by simp at hi) (λi j x d hx=>by simp at hx)
 ·have ek:k'=k:=by
   obtain⟨x,px⟩:=List.exists_mem_of_ne_nil xs hx;rw[<-lA x px,hk x px]
  subst ek;have eC:∀i,i<h-l->((xs.take h).drop l)[i]?=xs[l+i]?:=λi hi=>by
   rw[List.getElem?_drop,List.getElem?_take_of_lt (by omega)]
  refine .sl _ b (o+l*k') (c-l) k' _ (λi j=>us (l+i) j) (λcy=> ?_) (by rw[hlen];omega) (by omega) (λx hx=>hk x (List.mem_of_mem_take (List.mem_of_mem_drop hx))) (λi j hi hj=> ?_) (λi j x d hx hd=> ?_)
  ·have Oz:0<((xs.take h).drop l).length:=List.length_pos_iff.2 cy;rw[hlen]at Oz;rw[if_neg (by omega),hA hx];simp [lC]
  ·rw[hlen]at hi;have:=hS (l+i) j (by omega) hj;rw[Nat.add_mul,<-Nat.add_assoc]at this;exact this
  ·have hi:=(apJ.1 hx).1;rw[hlen]at hi;rw[eC i hi]at hx;exact mq _ _ _ _ hx hd
theorem amI{T:Nat}{x:AV}{u:aqB}{lo hi mx:aqz Operand}{C:AV->Prop}(hs:cG G w a s)(hu:aD G w u x)(h:vn P T (ev s) x lo hi mx C):
 ∃p y,(Instr.sliceAt T u (lo.map a.eval) (hi.map a.eval) (mx.map a.eval)).run P w= .ok p w/\aD G w p y/\C y:=by
 unfold vn at h;split at h
 ·split at h
  ·rename_i b
   obtain⟨hT,h⟩:=bS.1 h;have hT:=uc hT;have:=hu.val;subst this;obtain⟨m,h,hm⟩:=uR hs h;obtain⟨xo,h⟩:=h;obtain⟨l,h,hl⟩:=uR hs h;obtain⟨sT,h⟩:=h;refine⟨_,_,?_, .d (.v _),h⟩;have hb:=Ed (P:=P) (Bl:=false) hl hm sT xo w;simp [Instr.sliceAt,Instr.slice,run_underlying hT,hb]
  ·rename_i m off
   split at h
   ·rename_i c e k hT
    rw[bS,dI]at h;obtain⟨yy,h⟩:=h;have yy:c<=maxLen:=by unfold maxLen;omega
    obtain⟨eR,fR⟩:=PX hT;obtain⟨hh,h,hm⟩:=uR hs h;obtain⟨xo,h⟩:=bS.1 h;rw[dI]at xo;obtain⟨l,h,hl⟩:=uR hs h;obtain⟨sT,h⟩:=bS.1 h;simp only[apL,dI,Bool.not_eq_true',<-Bool.not_eq_true,Nat.not_le]at sT;obtain⟨sT,lD⟩:=sT;have hb:=Ed (P:=P) (Bl:=false) hl hm sT xo w;cases hu with
    |ptr _ _ xG=>
     refine⟨_,_,?_, .row m (off+l*k) (hh-l) (c-l) k xG (by omega) (by omega),h⟩;simp [Instr.sliceAt,Instr.sureAddr,run_underlying eR,hb,mr fR,lC,Nat.ne_of_gt lD]
   ·exact h.elim
  ·split at h
   ·rename_i xs e k lW hT
    obtain⟨hk,h⟩:=h;obtain⟨eR,fR⟩:=j5 hT;obtain⟨hh,h,hm⟩:=uR hs h;obtain⟨xo,h⟩:=h;obtain⟨l,h,hl⟩:=uR hs h;obtain⟨sT,h⟩:=h;obtain⟨A,c,rfl,lD,hp⟩:=(hu.list lW).part hk sT xo;have hb:=Ed (P:=P) (Bl:=true) hl hm sT (ap1 xo lD) w;refine⟨_,_,?_, .d hp,h⟩;simp [Instr.sliceAt,Instr.slice,run_underlying eR,hb,mr fR]
   ·exact h.elim
 ·rename_i y
  split at h
  case h_2=>exact h.elim
  rename_i yh
  split at h
  ·rename_i xs e k lW hT
   obtain⟨hk,h⟩:=h;obtain⟨eR,fR⟩:=j5 hT;obtain⟨c',h3,hc⟩:=uR hs h;obtain⟨gn,h3⟩:=h3;obtain⟨hh,h4,hm⟩:=uR hs h3;obtain⟨rfl,h5⟩:=h4;clear h h3;obtain⟨k1,z1,e1,p1,q1⟩:=hc;obtain⟨k2,z2,e2,p2,q2⟩:=hm;obtain⟨A,c,rfl,lD,hp⟩:=(hu.list lW).part hk (Nat.zero_le hh) gn;have N7:dn G.S w (.slice A hh hh) (.sl (xs.take hh)):=by
    have h1:(if c=0 then A else A.map (·.add (0*k)))=A:=by
     split
     ·rfl
     ·cases A<;>simp [Addr.add]
    rw[h1,aqi]at hp;obtain⟨A',b,o,c2,k',us,e,r1,r2,r3,r4,r5,r6⟩:=hp.pY;have hl:(xs.take hh).length=hh:=by simp;omega
    injection e with eA e3 e4;subst eA;have:=dn.sl (S:=G.S) (w:=w) A b o hh k' (xs.take hh) us r1 (by omega) (by omega) r4 r5 r6
    rwa [hl]at this
   refine⟨.slice A hh hh, .full (xs.take hh),?_, .full _ N7 ⟨A,by simp;omega⟩,h5⟩;have b1:(Instr.sliceBound (.int k1 z1) c .slice3Acap).run P w= .ok hh w:=by rw[A9 p1 (by omega),q1]
   have b2:(Instr.sliceBound (.int k2 z2) hh .slice3B).run P w= .ok hh w:=by rw[A9 p2 (by omega),<-q2]
   simp only[Option.map_some,Option.map_none,e1,e2];have hA:A.map (·.add 0)=A:=by cases A<;>simp [Addr.add]
   simp [Instr.sliceAt,Instr.slice,Instr.sliceBounds,run_underlying eR,b1,b2,mr fR,hA]
  ·exact h.elim
theorem Nn:∀{cs:aqx AV}{ds:aqx D},nX cs=some ds->ds.length=cs.length/\∀(i:Nat)(c:AV)(d:D),cs[i]?=some c->ds[i]?=some d->c.yp=some d
 |[],ds,h=>by simp [nX]at h;subst h;simp
 |c::cs,ds,h=>by
  unfold nX at h;split at h
  ·rename_i d l hd hl
   cases h
   obtain⟨h1,h2⟩:=Nn hl;refine⟨by simp [h1],λi c' d' hc gz=> ?_⟩
   match i with
   |0=>simp at hc gz;subst hc;subst gz;exact hd
   |i+1=>exact h2 i c' d' (by simpa using hc) (by simpa using gz)
  ·cases h
theorem dn.Ag{S:Nat->Nat->Prop}{w:aqC}{u:aqB}{x:D}(h:dn S w u x):dn S w u x.Ag:=by
 unfold D.Ag;split
 ·cases h with
  |v=>exact .sl none 0 0 0 0 [] (λ_ _=>undef) (λh=>absurd rfl h) (apU _) (Nat.zero_le _) (λ_ h=>absurd h aqp) (λi j hi=>absurd hi (aqb _)) (λi j x d hx=>by simp at hx)
 ·exact h
theorem aD.OI{u:aqB}{x:AV}{d:D}(h:aD G w u x)(hx:x.yp=some d):dn G.S w u d:=by
 unfold AV.yp at hx;split at hx
 ·cases hx;cases h with|d h=>exact h.Ag
 ·cases hx;cases h with|own _ _ _ h=>exact h
 ·cases hx;cases h with|full _ h=>exact h
 ·cases hx
theorem ua(k:Nat):∀(m:Nat)(l:aqx D),(oI k m l).length=m
 |0,_=>rfl
 |m+1,l=>by simp [oI,ua k m]
theorem RX(k:Nat):∀(m:Nat)(l:aqx D)(i:Nat),i<m->(oI k m l)[i]?=some ((l.drop (i*k)).take k)
 |0,_,_,h=>by omega
 |m+1,l,0,_=>by simp [oI]
 |m+1,l,i+1,h=>by
  have:=RX k m (l.drop k) i (by omega);rw[oI,aqk,this,List.drop_drop,Nat.add_mul,Nat.one_mul,Nat.add_comm k]
theorem abh{k m:Nat}{us:aqx aqB}{ds:aqx D}(hl:ds.length=m*k)(hu:us.length=m*k)(h1:∀u∈us,u.oneCell'=true)
 (hr:∀(i:Nat)(u:aqB)(d:D),us[i]?=some u->ds[i]?=some d->dn G.S w u d):Rd G.S w k (oI k m ds) us:=by
 have hb:∀i,i<m->(i+1)*k<=m*k:=λi hi=>Nat.mul_le_mul_right k hi;refine⟨by rw[ua,hu],λx hx=> ?_,h1,λi j x d hx hd=> ?_⟩
 ·obtain⟨i,hi⟩:=List.mem_iff_getElem?.1 hx;have KR:i<m:=by have:=(apJ.1 hi).1;rwa [ua]at this
  rw[RX k m ds i KR]at hi;cases hi
  have:=hb i KR;rw[Nat.add_mul]at this;simp;omega
 ·have KR:i<m:=by have:=(apJ.1 hx).1;rwa [ua]at this
  rw[RX k m ds i KR]at hx;cases hx
  rw[List.getElem?_take]at hd;split at hd
  ·rw[List.getElem?_drop]at hd;have:=(apJ.1 hd).1;have aH:i*k+j<us.length:=by omega
   exact⟨us[i*k+j],apN aH,hr _ _ _ (apN aH) hd⟩
  ·cases hd
theorem ahn{k U e':Nat}{y:AV}{v:aqB}{C:aqx (aqx D)->Prop}(hi:bD G w s.h)(hv:aD G w v y)(hk:0<k)(hU:P.underlying U=some (.slice e'))(h:vC s.h k y C):
 ∃ys us,Rd G.S w k ys us/\Src P k U v ys.length us w/\C ys:=by
 unfold vC at h;split at h
 ·rename_i m off len cap k'
  split at h
  ·rename_i cs hm
   split at h
   ·rename_i ds tG
    obtain⟨eW,hC⟩:=bS.1 h;simp only[apL,beq_iff_eq,dI]at eW;obtain⟨⟨rfl,hlen⟩,jb⟩:=eW;obtain⟨h1,h2⟩:=Nn tG;obtain⟨_,_,vs,T,hh,hl,hr⟩:=hi.cD m _ hm;cases hv with
    |row _ _ _ _ _ xG lD pL=>
     have hdl:ds.length=len*k':=by rw[h1];simp;omega
     have pe:((vs.toList.drop off).take (len*k')).length=len*k':=by simp;omega
     have BE:∀(i:Nat)(u:aqB)(c:AV),((vs.toList.drop off).take (len*k'))[i]?=some u->((cs.drop off).take (len*k'))[i]?=some c->aD G w u c:=λi u c hu hc=>by
      rw[List.getElem?_take]at hu hc;split at hu
      ·rename_i nZ
       rw[if_pos nZ]at hc;rw[List.getElem?_drop]at hu hc;exact hr _ u c (by rw[<-ap6];exact hu) hc
      ·cases hu
     have gn:((cs.drop off).take (len*k')).length=len*k':=by simp;omega
     have Z8:∀u∈(vs.toList.drop off).take (len*k'),u.oneCell'=true:=λu hu=>by
      obtain⟨i,hi⟩:=List.mem_iff_getElem?.1 hu;have ko:i<len*k':=by rw[<-pe];exact(apJ.1 hi).1
      have DH:=apN (l:=(cs.drop off).take (len*k')) (i:=i) (by rw[gn];exact ko);exact(BE i u _ hi DH).kE (ap9.1 jb _ (apW DH))
     have El:=abh (G:=G) (w:=w) (k:=k') (m:=len) hdl pe Z8 (λi u d hu hd=>by
      have ko:i<len*k':=by rw[<-pe];exact(apJ.1 hu).1
      have DH:=apN (l:=(cs.drop off).take (len*k')) (i:=i) (by rw[gn];exact ko);exact(BE i u _ hu DH).OI (h2 i _ d DH hd))
     refine⟨_,_,El,?_,hC⟩;rw[ua];refine Src.ofSlice w hU _ len cap _ pe (λj u hu=> ?_) Z8;rw[List.getElem?_take]at hu;split at hu
     ·rw[List.getElem?_drop,ap6]at hu;rw[lC,cell_of_row w _ _ vs T (0,0) hh];exact hu
     ·cases hu
   ·exact h.elim
  ·exact h.elim
 ·split at h
  ·rename_i ys lq
   obtain⟨us,h1,h2⟩:=(hv.list lq).src (P:=P) hk h.1 hU;exact⟨ys,us,h1,h2,h.2⟩
  ·exact h.elim
theorem Gt:dn G.S w (.slice none 0 0) (.sl []):=
 .sl none 0 0 0 0 [] (λ_ _=>undef) (λh=>absurd rfl h) (apU _) (by simp) (λ_ h=>by cases h) (λi j hi=>by simp at hi) (λi j x d hx=>by simp at hx)
theorem anz(h:aqx an)(x y:an):(h++[x]).set h.length y=h++[y]:=by simp
theorem alP{T U ty e':Nat}{x y:AV}{u v:aqB}{C:AV->aqx an->Prop}(hi:bD G w s.h)(hu:aD G w u x)(hv:aD G w v y)(hU:P.underlying U=some (.slice e'))(h:wj P T s.h x y C):
 ∃p w' G' q h',(Builtin.append_ #[T,U] ty #[u,v]).run P w= .ok p w'/\bI G.N G w G' w'/\G.N<=G'.N/\bD G' w' h'/\aD G' w' p q/\C q h':=by
 unfold wj at h;split at h
 ·rename_i e k hT
  obtain⟨eR,fR⟩:=j5 hT;split at h
  ·rename_i z da hz pR
   obtain⟨eW,h⟩:=bS.1 h;simp only[apL,beq_iff_eq,dI,aqg]at eW;obtain⟨hk,kr⟩:=eW;obtain⟨i,jT,kS,K5⟩:=Pr fR pR;have Xc:i.zero=some z:=by
    obtain⟨i',h1,h2⟩:=JE hz;rw[jT]at h1;cases h1;exact h2
   obtain⟨ys,us,hr,hs,h2⟩:=ahn hi hv hk hU h;clear h;have fresh:∀(xs:aqx (aqx D)),dn G.S w u (.sl xs)->(∃A,u= .slice A xs.length xs.length)->(∀c∈xs,c.length=k)->xs.length+ys.length<=maxLen->(xs.length+ys.length)*da<=140737488355328->
    C (.own s.h.length (xs++ys)) (s.h++[.front e k (xs.length+ys.length)])->
    ∃p w' G' q h',(Builtin.append_ #[T,U] ty #[u,v]).run P w= .ok p w'/\bI G.N G w G' w'/\G.N<=G'.N/\bD G' w' h'/\aD G' w' p q/\C q h':=by
    intro xs hp hf om hm hb hC;obtain⟨a1,a2,a3,a4⟩:=M1 hi hp hf e k;obtain⟨p,w',G',r1,r2,r3,r4,r5⟩:=Za (P:=P) (ty:=ty) a3 eR jT Xc kS K5 kr hk (n:=s.h.length) (xs:=xs) (ys:=ys) (by simp) a4 om (hr.aT a1.S a1.cell) hs hm hb;rw[anz]at r4;exact⟨p,w',G',_,_,r1,a1.trans (r2.less a2),ap1 a2 r3,r4,r5,hC⟩
   split at h2
   ·rename_i m xs
    split at h2
    ·rename_i e2 k2 len hm
     obtain⟨eW,rfl,om,pL,hb,hC⟩:=bS.1 h2;simp only[apL,beq_iff_eq]at eW;obtain⟨rfl,rfl⟩:=eW;obtain⟨p,w',G',r1,r2,r3,r4,r5⟩:=Za (P:=P) (ty:=ty) hi eR jT Xc kS K5 kr hk hm hu om hr hs pL hb;exact⟨p,w',G',_,_,r1,r2,r3,r4,r5,hC⟩
    ·exact h2.elim
   ·have:=hu.val;subst this;obtain⟨pL,hb,hC⟩:=h2;exact fresh [] Gt ⟨none,rfl⟩ (λ_ h=>by cases h) (by simpa using pL) (by simpa using hb) (by simpa using hC)
   ·rename_i xs
    obtain⟨om,pL,hb,hC⟩:=h2;cases hu with
    |full _ hp hf=>exact fresh xs hp hf om pL hb hC
   ·exact h2.elim
  ·exact h.elim
 ·exact h.elim
end
theorem Ym(off:Nat):∀(l:aqx aqB)(k:Nat)(cs:Array aqB),((l.zipIdx k).foldl (λcs(p:aqB×Nat)=>cs.setIfInBounds (off+p.2) p.1) cs).size=cs.size/\
 ∀i,off+k+l.length<=cs.size->((l.zipIdx k).foldl (λcs(p:aqB×Nat)=>cs.setIfInBounds (off+p.2) p.1) cs)[i]?=if off+k<=i/\i<off+k+l.length then l[i-(off+k)]? else cs[i]?
 |[],k,cs=>⟨rfl,λi _=>by
    have h:¬(off+k<=i/\i<off+k+([]:aqx aqB).length):=by simp
    rw[if_neg h];rfl⟩
 |u::l,k,cs=>by
  obtain⟨h1,h2⟩:=Ym off l (k+1) (cs.setIfInBounds (off+k) u);simp only[List.zipIdx_cons,List.foldl_cons];refine⟨by rw[h1];simp,λi hi=> ?_⟩;simp only[apM]at hi ⊢;rw[h2 i (by simp;omega)];by_cases ha:off+(k+1)<=i/\i<off+(k+1)+l.length
  ·rw[if_pos ha,if_pos ⟨by omega,by omega⟩];rw[show i-(off+k)=i-(off+(k+1))+1 by omega,aqk]
  ·rw[if_neg ha];by_cases hb:i=off+k
   ·subst hb;rw[if_pos ⟨apU _,by omega⟩,Nat.sub_self,List.getElem?_cons_zero,Array.getElem?_setIfInBounds_self_of_lt (by omega)]
   ·rw[if_neg (by omega),Array.getElem?_setIfInBounds_ne (Ne.symm hb)]
section
variable {P:aqA} {G:Gh} {w:aqC}
structure Row(G:Gh)(w:World)(vs:Array Value)(cs:List AV):Prop where
 len:vs.size=cs.length
 rel:∀(i:Nat)(u:Value)(c:AV),vs[i]?=some u->cs[i]?=some c->aD G w u c
 one:∀(i:Nat)(u:Value),vs[i]?=some u->u.oneCell'=true
theorem ae0{vs us:Array aqB}{cs ys:aqx AV}(h:Row G w vs cs)(h':Row G w us ys){off:Nat}(hb:off+ys.length<=cs.length):
 Row G w (us.zipIdx.foldl (λcs(p:aqB×Nat)=>cs.setIfInBounds (off+p.2) p.1) vs) (jm cs off ys):=by
 have e:us.zipIdx.foldl (λcs(p:aqB×Nat)=>cs.setIfInBounds (off+p.2) p.1) vs=(us.toList.zipIdx 0).foldl (λcs(p:aqB×Nat)=>cs.setIfInBounds (off+p.2) p.1) vs:=by
  rw[<-Array.foldl_toList,Array.toList_zipIdx]
 obtain⟨h1,h2⟩:=Ym off us.toList 0 vs;rw[<-e]at h1 h2;have hl:us.toList.length=ys.length:=by rw[aqg,h'.len]
 have hle:off+0+us.toList.length<=vs.size:=by rw[hl,h.len];omega
 have hs:∀i,(jm cs off ys)[i]?=if off+0<=i/\i<off+0+us.toList.length then ys[i-off]? else cs[i]?:=λi=>by
  unfold jm;rw[ap0];by_cases ha:i<off
  ·rw[apT (by simp;omega),List.getElem?_take_of_lt ha,if_neg (by omega)]
  ·rw[apZ (by simp;omega)];simp only[List.length_take];rw[Nat.min_eq_left (by omega)];by_cases hb:i-off<ys.length
   ·rw[apT hb,if_pos (by omega)]
   ·rw[apZ (by omega),List.getElem?_drop,if_neg (by omega),show off+ys.length+(i-off-ys.length)=i by omega]
 refine⟨by rw[h1,GM _ _ _ hb,h.len],λi u c hu hc=> ?_,λi u hu=> ?_⟩
 ·rw[h2 i hle]at hu;rw[hs]at hc;split at hu
  ·rename_i hp
   rw[if_pos hp]at hc;exact h'.rel _ _ _ (by rw[<-ap6];exact hu) hc
  ·rename_i hp
   rw[if_neg hp]at hc;exact h.rel _ _ _ hu hc
 ·rw[h2 i hle]at hu;split at hu
  ·exact h'.one _ _ (by rw[<-ap6];exact hu)
  ·exact h.one _ _ hu
theorem aD.Uh{u:aqB}{x:AV}(h:aD G w u x)(hb:x.jJ=true):Row G w u.cells x.cells:=by
 obtain⟨h1,h2⟩:=h.cells hb;refine⟨h1,λi v c hv hc=>(h2 i v c hv hc).1,λi v hv=> ?_⟩;have aH:i<x.cells.length:=by rw[<-h1];exact(apY.1 hv).1
 exact(h2 i v _ hv (apN aH)).2
theorem RG(place:Nat->aqz (Nat×Nat))(places:aqx (Nat×Nat))(hp:∀i pl,places[i]?=some pl->place i=some pl):∀(ps:aqx (Nat×AV))(qs:aqx (Nat×aqB))(cs bP:aqx AV)(vs:Array aqB),Row G w vs cs->
 qs.length=ps.length->(∀(i:Nat)(p:Nat×AV)(q:Nat×aqB),ps[i]?=some p->qs[i]?=some q->q.1=p.1/\aD G w q.2 p.2)->(ps.all λp=>p.2.jJ)=true->pH places cs ps=some bP->
 ∃ej,Instr.fill place vs qs=some ej/\Row G w ej bP
 |[],[],cs,bP,vs,h,_,_,_,hf=>by
  simp only[pH,Option.some.injEq]at hf;subst hf;exact⟨vs,rfl,h⟩
 |[],_::_,_,_,_,_,hl,_,_,_=>by simp at hl
 |_::_,[],_,_,_,_,hl,_,_,_=>by simp at hl
 |(j,x)::ps,(j',u)::qs,cs,bP,vs,h,hl,hr,hb,hf=>by
  obtain⟨e1,e2⟩:=hr 0 (j,x) (j',u) rfl rfl;simp only at e1 e2;subst e1;simp only[aqt,apL]at hb;unfold pH at hf;split at hf
  ·rename_i off k Ds
   rw[cond_eq_ite]at hf;split at hf
   ·rename_i hc
    simp only[apL,beq_iff_eq,dI]at hc;have mv:=e2.Uh hb.1;obtain⟨ej,h1,h2⟩:=RG place places hp ps qs _ bP _ (ae0 h mv (by rw[hc.1];exact hc.2)) (by simpa using hl) (λi p q hp hq=>hr (i+1) p q (by simpa using hp) (by simpa using hq)) hb.2 hf;refine⟨ej,?_,h2⟩;unfold Instr.fill;rw[hp _ _ Ds];have h3:¬(u.cells.size≠k||decide (off+u.cells.size>vs.size))=true:=by
     rw[mv.len,hc.1,h.len];simp;exact hc.2
    simp only[h3];exact h1
   ·cases hf
  ·cases hf
theorem acQ{z:Array aqB}(h:z.toList.all Value.oneCell'=true):z.all (·.oneCell')=true:=by
 rw[ap9]at h;exact Array.all_eq_true_iff_forall_mem.2 λu hu=>h u (Array.mem_toList_iff.2 hu)
theorem ajq(z:aqB)(h:z.cells.all (·.oneCell')=true):Row G w z.cells (z.cells.toList.map λu=> .d (.v u)):=by
 refine⟨by simp,λi u c hu hc=> ?_,λi u hu=>Array.all_eq_true_iff_forall_mem.1 h u (Array.mem_of_getElem? hu)⟩;rw[apQ,ap6,hu]at hc;cases hc
 exact .d (.v u)
theorem acj:∀(fs:aqx Field)(ps:aqx (Nat×Nat))(w:aqC),Ep P fs=some ps->(fs.mapM (m:=Sem) λf=>do pure (f.offset,<-sizeOf f.type)).run P w= .ok ps w
 |[],ps,w,h=>by simp [Ep]at h;subst h;simp
 |f::fs,ps,w,h=>by
  unfold Ep at h;simp only[List.mapM_cons,Option.bind_eq_bind,Option.bind_eq_some_iff,Option.map_eq_some_iff,Option.pure_def,Option.some.injEq]at h;obtain⟨p,⟨k,hk,rfl⟩,qs,hq,rfl⟩:=h;have ih:=acj fs qs w hq;simp only[List.mapM_cons,Sem.run_bind,mr hk,Sem.run_pure,Result.andThen_ok,ih]
theorem aod{T:Nat}{ps:aqx (Nat×AV)}{qs:Array (Nat×aqB)}{C:AV->Prop}(hl:qs.toList.length=ps.length)
 (hr:∀(i:Nat)(p:Nat×AV)(q:Nat×aqB),ps[i]?=some p->qs.toList[i]?=some q->q.1=p.1/\aD G w q.2 p.2) (h:yC P T ps C):∃u y,(Instr.build T qs).run P w= .ok u w/\aD G w u y/\C y:=by
 unfold yC at h;split at h
 ·rename_i places z Mn hz
  obtain⟨fs,hT,Ds⟩:∃fs,P.underlying T=some (.struct fs)/\Ep P fs.toList=some places:=by
   unfold NJ at Mn;split at Mn
   ·exact⟨_,by assumption,Mn⟩
   ·cases Mn
  ·split at h
   ·rename_i cs hf
    obtain⟨eW,hC⟩:=bS.1 h;simp only[apL]at eW;obtain⟨hb,jb⟩:=eW;have jb:=acQ jb;have me:(fs.mapM (m:=Sem) λf=>do pure (f.offset,<-sizeOf f.type)).run P w= .ok places.toArray w:=by
     rw[Array.mapM_eq_mapM_toList];have:=acj fs.toList places w Ds;have e:(Functor.map List.toArray (fs.toList.mapM (m:=Sem) λf=>do pure (f.offset,<-sizeOf f.type)):Sem _)=(fs.toList.mapM (m:=Sem) λf=>do pure (f.offset,<-sizeOf f.type))>>=λl=>pure l.toArray:=rfl;rw[e,Sem.run_bind,this];rfl
    obtain⟨ej,h1,h2⟩:=RG (λi=>places.toArray[i]?) places (λi pl h=>by simpa using h) ps qs.toList _ cs z.cells (ajq (G:=G) (w:=w) z jb) hl hr hb hf;refine⟨.agg ej, .agg cs,?_, .agg ej cs h2.len h2.rel,hC⟩;unfold Instr.build;simp only[Sem.run_bind,Gz hz,Result.andThen_ok,run_underlying hT,me,h1,Sem.run_pure]
   ·exact h.elim
 ·exact h.elim
theorem US{T:Nat}(h:Bk P T=true):P.underlying T=some .bool:=by
 unfold Bk at h;split at h
 ·assumption
 ·cases h
theorem It{T:Nat}{k:IntKind}(h:qR P T=some k):P.underlying T=some (.int k):=by
 unfold qR at h;split at h
 ·cases h;assumption
 ·cases h
theorem TF{t off:Nat}{vs:Array aqB}{u:aqB}(ha:ml P t=some false)(hu:vs[off]?=some u):(part t vs off).run P w= .ok u w:=by
 unfold part;rw[Sem.run_bind,DO ha w];simp [hu]
theorem aoi{t:Nat}{u v:aqB}{x y:AV}{b:Bool}(d:Nat)(hu:aD G w u x)(hv:aD G w v y)(h:Gj P t x y=some b):(Op.equalIn (d+1) t u v).run P w= .ok b w:=by
 unfold Gj at h;split at h
 ·have e1:=hu.val;have e2:=hv.val;subst e1;subst e2
  rename_i k a k' b'
  cases hc:xt k k'&&(qR P t).isSome with
  |false=>rw[hc]at h;cases h
  |true=>
   rw[hc]at h;cases h;rw[apL,No]at hc;obtain⟨rfl,hc⟩:=hc;obtain⟨k2,hk⟩:=Option.isSome_iff_exists.1 hc;exact run_equalIn_int w d t k k2 a b' (It hk)
 ·have e1:=hu.val;have e2:=hv.val;subst e1;subst e2;cases hc:ia P t with
  |false=>rw[hc]at h;cases h
  |true=>rw[hc]at h;cases h;rw[<-O3,<-O3];exact run_equalIn_string w d t _ _ (uc hc)
 ·have e1:=hu.val;have e2:=hv.val;subst e1;subst e2;cases hc:Bk P t with
  |false=>rw[hc]at h;cases h
  |true=>rw[hc]at h;cases h;exact run_equalIn_bool w d t _ _ (US hc)
 ·cases h
theorem alk{t off k:Nat}{vs:Array aqB}(ha:ml P t=some true)(hk:fW P t=some k):(part t vs off).run P w= .ok (.agg (vs.extract off (off+k))) w:=by
 unfold part;rw[Sem.run_bind,DO ha w];simp [mr hk]
theorem abO{us:Array aqB}{xs:aqx AV}{off k:Nat}(hx:us.size=xs.length)(hb:off+k<=xs.length)(hu:∀(i:Nat)(u:aqB)(c:AV),us[i]?=some u->xs[i]?=some c->aD G w u c):
 (us.extract off (off+k)).size=((xs.drop off).take k).length/\∀(i:Nat)(u:aqB)(c:AV),(us.extract off (off+k))[i]?=some u->((xs.drop off).take k)[i]?=some c->aD G w u c:=by
 refine⟨by simp;omega,λi u c h1 h2=> ?_⟩;rw[List.getElem?_take]at h2;split at h2
 ·next hi=>
  rw[List.getElem?_drop]at h2;rw[Array.getElem?_extract]at h1;split at h1
  ·exact hu _ _ _ h1 h2
  ·cases h1
 ·cases h2
theorem Hv{sub:TypeId->aqx AV->aqx AV->aqz Bool}(d:Nat)
 (FQ:∀(T:Nat)(us vs:Array aqB)(xs ys:aqx AV)(b:Bool),us.size=xs.length->vs.size=ys.length->(∀(i:Nat)(u:aqB)(c:AV),us[i]?=some u->xs[i]?=some c->aD G w u c)->(∀(i:Nat)(u:aqB)(c:AV),vs[i]?=some u->ys[i]?=some c->aD G w u c)->sub T xs ys=some b->(Op.equalIn (d+1) T (.agg us) (.agg vs)).run P w= .ok b w)
 {us vs:Array aqB} {xs ys:aqx AV} (hx:us.size=xs.length) (hy:vs.size=ys.length)
 (hu:∀(i:Nat)(u:aqB)(c:AV),us[i]?=some u->xs[i]?=some c->aD G w u c) (hv:∀(i:Nat)(u:aqB)(c:AV),vs[i]?=some u->ys[i]?=some c->aD G w u c):
 ∀(fs:aqx Field)(b:Bool),AM P sub fs xs ys=some b->(Op.eqFields (d+1) us vs fs).run P w= .ok b w
 |[],b,h=>by cases h;simp [Op.eqFields]
 |f::fs,b,h=>by
  unfold AM at h;cases hn:f.name== "_" with
  |true=>rw[hn]at h;cases h
  |false=>
   rw[hn]at h;simp only[cond_false]at h;have cy:f.name≠ "_" :=by simpa using hn
   split at h
   ·next e1=>
    split at h
    ·next x y e2 e3=>
     split at h
     ·next a c e4 e5=>
      cases h
      have l1:f.offset<us.size:=by rw[hx];exact(apJ.1 e2).1
      have l2:f.offset<vs.size:=by rw[hy];exact(apJ.1 e3).1
      have g1:=ap5 l1;have g2:=ap5 l2;simp only[Op.eqFields,if_pos cy,Sem.run_bind,TF (w:=w) e1 g1,TF (w:=w) e1 g2,Result.andThen_ok,aoi d (hu _ _ _ g1 e2) (hv _ _ _ g2 e3) e4];cases a with
      |true=>simp only[Bool.not_true,Bool.false_eq_true,if_false,Bool.true_and];exact Hv d FQ hx hy hu hv fs c e5
      |false=>simp
     ·cases h
    ·cases h
   ·next e1=>
    split at h
    ·next k e2=>
     cases nD:cn (f.offset+k) xs.length&&cn (f.offset+k) ys.length with
     |false=>rw[nD]at h;cases h
     |true=>
      rw[nD]at h;rw[apL,dI,dI]at nD;simp only[cond_true]at h;split at h
      ·next a c e4 e5=>
       cases h
       obtain⟨p1,p2⟩:=abO hx nD.1 hu;obtain⟨q1,q2⟩:=abO hy nD.2 hv;simp only[Op.eqFields,if_pos cy,Sem.run_bind,alk (w:=w) e1 e2,Result.andThen_ok,FQ _ _ _ _ _ a p1 q1 p2 q2 e4];cases a with
       |true=>simp only[Bool.not_true,Bool.false_eq_true,if_false,Bool.true_and];exact Hv d FQ hx hy hu hv fs c e5
       |false=>simp
      ·cases h
    ·cases h
   ·cases h
theorem Xf:∀(n d:Nat)(T:Nat)(us vs:Array aqB)(xs ys:aqx AV)(b:Bool),us.size=xs.length->vs.size=ys.length->(∀(i:Nat)(u:aqB)(c:AV),us[i]?=some u->xs[i]?=some c->aD G w u c)->(∀(i:Nat)(u:aqB)(c:AV),vs[i]?=some u->ys[i]?=some c->aD G w u c)->HP P n T xs ys=some b->(Op.equalIn (d+n+1) T (.agg us) (.agg vs)).run P w= .ok b w
 |0,_,_,_,_,_,_,_,_,_,_,_,h=>by cases h
 |n+1,d,T,us,vs,xs,ys,b,hx,hy,hu,hv,h=>by
  unfold HP at h;split at h
  ·next fs hT=>
   cases hc:P.stoodInHeld T with
   |true=>rw[hc]at h;cases h
   |false=>
    rw[hc]at h;have hf:P.fieldsOf T=fs:=by unfold Program.fieldsOf;rw[hT]
    rw[show d+(n+1)+1=(d+n+1)+1 by omega,run_equalIn_struct w (d+n+1) T us vs (by rw[hf];exact hT) hc,hf];exact Hv (d+n) (λT' Tf ej Tg O5 b'=>Xf n d T' Tf ej Tg O5 b') hx hy hu hv _ b h
  ·cases h
theorem ac7{T:Nat}{us vs:Array aqB}{xs ys:aqx AV}{b:Bool}(hx:us.size=xs.length)(hy:vs.size=ys.length)
 (hu:∀(i:Nat)(u:aqB)(c:AV),us[i]?=some u->xs[i]?=some c->aD G w u c) (hv:∀(i:Nat)(u:aqB)(c:AV),vs[i]?=some u->ys[i]?=some c->aD G w u c) (h:Hu P T xs ys=some b):
 P.eqGuardType P.depth T=false/\(Op.equalIn 10000 T (.agg us) (.agg vs)).run P w= .ok b w:=by
 unfold Hu at h;split at h
 ·next fs hT=>
  cases hc:P.stoodInHeld T||P.eqGuardType P.depth T with
  |true=>rw[hc]at h;cases h
  |false=>
   rw[hc]at h;rw[aqw]at hc;refine⟨hc.2,?_⟩;have hf:P.fieldsOf T=fs:=by unfold Program.fieldsOf;rw[hT]
   rw[run_equalIn_struct w 9999 T us vs (by rw[hf];exact hT) hc.1,hf];exact Hv 9998 (λT' Tf ej Tg O5 b'=>Xf 4 9994 T' Tf ej Tg O5 b') hx hy hu hv _ b h
 ·cases h
theorem afi{op:BinOp}{x y:AV}{u v:aqB}{T:Nat}{X Y:Operand}{C:AV->Prop}(hu:aD G w u x)(hv:aD G w v y)(h:x6 P T op x y C):
 ∃r z,(do eqGuard op T X Y u v;binOp op T u v:Sem aqB).run P w= .ok r w/\aD G w r z/\C z:=by
 unfold x6 at h;split at h
 ·rename_i k a k' b
  have e1:=hu.val;have e2:=hv.val;subst e1;subst e2;have hg:(eqGuard op T X Y (.int k a) (.int k' b)).run P w= .ok () w:=by unfold eqGuard;cases op<;>simp
  rw[Sem.run_bind,hg];simp only[Result.andThen_ok];split at h
  ·rename_i z hq
   obtain⟨uJ,hp,hC⟩:=bS.1 h;rw[No]at uJ;subst uJ;refine⟨z,_,?_, .d (.v z),hC⟩;cases op<;>simp [R3]at hq<;>subst hq<;>simp [binOp,Op.intDiv,hp]
  ·split at h
   ·rename_i z hq
    refine⟨z,_,?_, .d (.v z),h.2⟩;have hb:¬b<0:=by omega
    cases op<;>simp [RO]at hq<;>subst hq<;>simp [binOp,Op.shift,hb]
   ·split at h
    ·rename_i z hq
     obtain⟨uJ,hC⟩:=bS.1 h;rw[No]at uJ;subst uJ;refine⟨z,_,?_, .d (.v z),hC⟩;cases op<;>simp [Q2]at hq<;>subst hq<;>simp [binOp,Op.intArith,Op.intCmp,Op.intBits]
    ·exact h.elim
 ·rename_i a b
  have e1:=hu.val;have e2:=hv.val;subst e1;subst e2;have hg:(eqGuard op T X Y (.string a) (.string b)).run P w= .ok () w:=by unfold eqGuard;cases op<;>simp
  rw[Sem.run_bind,hg];simp only[Result.andThen_ok];split at h
  ·rename_i z hq
   refine⟨z,_,?_, .d (.v z),h⟩;cases op<;>simp [NQ]at hq<;>subst hq<;>simp [binOp,Op.stringOp,O3]
  ·split at h
   ·refine⟨_,_,?_, .d (.v _),h.2⟩;have hm:¬(((a.size+b.size:Nat):Int)>IntKind.i64.max):=by
     have:=h.1;unfold maxLen at this;have e:IntKind.i64.max=9223372036854775807:=by decide
     rw[e];omega
    simp only[binOp,Op.stringOp];rw[if_neg hm];rfl
   ·exact h.elim
 ·rename_i a b
  have e1:=hu.val;have e2:=hv.val;subst e1;subst e2;have hg:(eqGuard op T X Y (.bool a) (.bool b)).run P w= .ok () w:=by unfold eqGuard;cases op<;>simp
  rw[Sem.run_bind,hg];simp only[Result.andThen_ok];split at h
  ·rename_i z hq
   obtain⟨hT,hC⟩:=bS.1 h;have hT:=US hT;refine⟨z,_,?_, .d (.v z),hC⟩;have hb:=run_equalIn_bool (P:=P) w 9999 T a b hT;cases op<;>simp [P1]at hq<;>subst hq<;>simp [binOp,Op.equal,Op.maxDepth,hb]
  ·exact h.elim
 ·rename_i xs ys
  cases hu with
  |agg us _ hl1 jk=>
   cases hv with
   |agg vs _ Cn mG=>
    split at h
    ·next b hb=>
     obtain⟨hg,he⟩:=ac7 hl1 Cn jk mG hb;rw[Sem.run_bind,run_eqGuard_agg w op T X Y us vs hg];simp only[Result.andThen_ok];split at h
     ·next z hz=>
      refine⟨z,_,?_, .d (.v z),h⟩;cases op<;>simp [yd]at hz<;>subst hz
      ·rw[run_eql_struct,he];rfl
      ·rw[run_neq_struct,he];rfl
     ·exact h.elim
    ·exact h.elim
 ·exact h.elim
theorem ajG{op:UnOp}{x:AV}{u:aqB}{C:AV->Prop}(hu:aD G w u x)(h:xv op x C):∃r z,(Op.unary op u).run P w= .ok r w/\aD G w r z/\C z:=by
 unfold xv at h;split at h
 ·rename_i v
  have e:=hu.val;subst e;split at h
  ·rename_i z hq
   refine⟨z,_,?_, .d (.v z),h⟩;unfold Jm at hq;split at hq
   ·cases hq;simp [Op.unary]
   ·cases hq;simp [Op.unary,Op.intArith]
   ·cases hq;simp [Op.unary,Op.intBits]
   ·cases hq
  ·exact h.elim
 ·exact h.elim
theorem anw{T:Nat}(h:CP P T=true):P.underlying T=some (.int .u8):=by
 unfold CP at h;split at h
 ·assumption
 ·cases h
theorem al6{a b:Nat}{x:AV}{u:aqB}{C:AV->Prop}(hu:aD G w u x)(h:yH P a b x C):∃r z,(convert a b u).run P w= .ok r w/\aD G w r z/\C z:=by
 unfold yH at h;split at h
 ·rename_i k2 m
  have e:=hu.val;subst e;split at h
  ·rename_i k1 k h1 h2
   refine⟨_,_,?_, .d (.v _),h⟩;simp [convert,run_underlying (It h1),run_underlying (It h2),Conv.intToInt]
  ·exact h.elim
 ·rename_i s
  have e:=hu.val;subst e;obtain⟨eW,hC⟩:=bS.1 h;rw[apL]at eW;refine⟨_,_,?_, .d (.v _),hC⟩;simp [convert,run_underlying (uc eW.1),run_underlying (uc eW.2)]
 ·split at h
  ·rename_i xs e k lW hT
   obtain⟨eW,ns,rfl,hC⟩:=bS.1 h;rw[apL]at eW;refine⟨_,_,?_, .d (.v _),hC⟩;obtain⟨A,bb,o,cc,k',us,rfl,hA,lD,yy,lA,hS,mq⟩:=(hu.list lW).pY;rw[run_convert_bytes_string w a b e A _ cc (j5 hT).1 (anw eW.1) (uc eW.2)];simp only[apO]at hA lD hS ⊢;cases ns with
   |nil=>
    cases A with
    |none=>rfl
    |some ad=>
     have hl:=run_loadCells_list (P:=P) w ad (([]:aqx Int).map (Value.int .u8)) (λj v hj=>by simp at hj);simp only[List.map_nil,apV]at hl;have:=run_bytesToString (P:=P) w ad 0 cc [] (by simpa using hl);exact this
   |cons n0 ns=>
    have JJ:=hA (by simp);subst JJ;have wo:k'=1:=(lA [.v (.int .u8 n0)] (by simp)).symm;subst wo;have hl:=run_loadCells_list (P:=P) w ⟨bb,o,none⟩ ((n0::ns).map (Value.int .u8)) (λj v hj=>by
     have aH:=(apJ.1 hj).1;rw[apO]at aH;have h1:=(hS j 0 aH (by omega)).2.1;rw[apQ,apN aH]at hj;cases hj
     have h2:=mq j 0 [.v (.int .u8 ((n0::ns)[j]))] (.v (.int .u8 ((n0::ns)[j]))) (by rw[apQ,apN aH];rfl) rfl;have h3:us j 0= .int .u8 ((n0::ns)[j]):=by
      generalize us j 0=q at h2;cases h2;rfl
     rw[lC];rw[h3]at h1
     simpa using h1)
    rw[apO]at hl;rw[run_bytesToString w _ _ cc _ hl];have key:∀(l:aqx Int)(r:aqy),l.foldl (λr n=>r.push (UInt8.ofNat n.toNat)) r=⟨r.data++(l.map λn=>UInt8.ofNat n.toNat).toArray⟩:=by
      intro l
      induction l with
      |nil=>intro r;simp
      |cons x l ih=>intro r;rw[List.foldl_cons,ih];simp [ByteArray.push]
    rw[key];have CZ:ByteArray.empty.data= #[]:=rfl;rw[CZ];simp
  ·exact h.elim
theorem Sv{T f off k:Nat}{g:Bool}(h:tt P T f=some (off,k,g)):∃fs fd,P.underlying T=some (.struct fs)/\fs[f]?=some fd/\fW P fd.type=some k/\0<k/\ml P fd.type=some g/\fd.offset=off:=by
 unfold tt at h;split at h
 ·rename_i fs hT
  split at h
  ·rename_i fd hf
   split at h
   ·rename_i k' g' h1 h2
    cases h
    exact⟨fs,fd,hT,hf,h1,Nat.succ_pos _,h2,rfl⟩
   ·cases h
  ·cases h
 ·cases h
theorem RP{T f off k o b:Nat}{g:Bool}(h:tt P T f=some (off,k,g)):(Instr.fieldAt T (.pointer (some ⟨b,o,none⟩)) f).run P w= .ok (.pointer (some ⟨b,o+off,none⟩)) w:=by
 obtain⟨fs,fd,h1,h2,h3,h4,h5,rfl⟩:=Sv h;simp [Instr.fieldAt,run_underlying h1,h2,Instr.sureAddr,fieldPlace,mr h3,Nat.ne_of_gt h4,lC]
theorem akT{T f:Nat}{x:AV}{u:aqB}{C:AV->Prop}(hu:aD G w u x)(h:xO P T x f C):∃r z,(Instr.field T u f).run P w= .ok r w/\aD G w r z/\C z:=by
 unfold xO at h;split at h
 ·rename_i off k cs hT
  obtain⟨hl,hC⟩:=bS.1 h;rw[dI]at hl;obtain⟨fs,fd,h1,h2,h3,h4,h5,rfl⟩:=Sv hT;cases hu with
  |agg vs _ hlen hr=>
   refine⟨.agg (vs.extract fd.offset (fd.offset+k)),_,?_, .agg _ _ ?_ λi u c hu hc=> ?_,hC⟩
   ·simp [Instr.field,run_underlying h1,h2,asAgg,part,DO h5,mr h3]
   ·simp;omega
   ·rw[Array.getElem?_extract]at hu;rw[List.getElem?_take]at hc;split at hc
    ·rw[List.getElem?_drop]at hc;split at hu
     ·exact hr _ u c hu hc
     ·cases hu
    ·cases hc
 ·rename_i off k cs hT
  obtain⟨fs,fd,h1,h2,h3,h4,h5,rfl⟩:=Sv hT;split at h
  ·rename_i c hc
   cases hu with
   |agg vs _ hlen hr=>
    have aH:fd.offset<vs.size:=by rw[hlen];exact(apJ.1 hc).1
    refine⟨vs[fd.offset],c,?_,hr _ _ c (ap5 aH) hc,h⟩;simp [Instr.field,run_underlying h1,h2,asAgg,part,DO h5,ap5 aH]
  ·exact h.elim
 ·exact h.elim
end
def Gh.vo(G:Gh)(b m:Nat):Gh:={G with S:=λc o=>G.S c o\/(c=b/\o<m)}
theorem WM{G:Gh}{w:aqC}{h:aqx an}(hi:bD G w h)(ob:Obj)(m:Nat):bI G.N G w (G.vo w.heap.size m) (w.alloc ob)/\bD (G.vo w.heap.size m) (w.alloc ob) h:=by
 have hE:bI G.N G w (G.vo w.heap.size m) (w.alloc ob):=
  ⟨by simp,λ_ _ h=> .inl h,λb _ h=>World.cell?_alloc_lt _ _ _ (hi.S _ _ h),λ_ _=>rfl,λ_ _=> .inl ⟨rfl,rfl⟩,gp rfl,λb hb=>Below.heap_alloc w ob b (hi.z b hb),rfl,rfl,rfl,λb o hs=>hs.imp id fun⟨e,_⟩ hz=>aqn _ (hi.z _ (e▸hz))⟩
 refine⟨hE,hi.len,λb hb=>ap7 (hi.z b hb) hE.size,λb o hs=> ?_,λn B hB=> ?_,λm n b h1 h2=>hi.inj m n b h1 h2,hi.gl.aT hE⟩
 ·rcases hs with hs|⟨rfl,_⟩
  ·exact ap7 (hi.S b o hs) hE.size
  ·simp
 ·refine dD.aT (hi.lt hB) hE (apU _) ⟨rfl,rfl,rfl⟩ (λb hb=> ?_) (hi.cD n B hB);have aH:=hi.gw (n:=n) (b:=b) ((dc hB).trans hb);refine⟨Below.heap_alloc w _ _ aH,λo js hs=> ?_⟩;rcases hs with hs|⟨e,_⟩
  ·exact js hs
  ·omega
theorem V7(k:Nat):∀(n o i:Nat)(pl:Nat×Nat),(vz k o n)[i]?=some pl->pl=(o+i*k,k)
 |0,_,_,_,h=>by simp [vz]at h
 |n+1,o,0,pl,h=>by simp [vz]at h;rw[<-h];simp
 |n+1,o,i+1,pl,h=>by
  have:=V7 k n (o+k) i pl (by simpa [vz]using h);rw[this,Nat.add_mul];simp;omega
theorem XU(l:aqx AV):∀n,(tH n l).length=n*l.length
 |0=>by simp [tH]
 |n+1=>by rw[tH,apK,XU l n,Nat.add_mul];omega
theorem Xq(l:aqx AV):∀(n i:Nat),i<n*l.length->(tH n l)[i]?=l[i%l.length]?
 |0,i,h=>by omega
 |n+1,i,h=>by
  rw[tH];by_cases hi:i<l.length
  ·rw[apT hi,Nat.mod_eq_of_lt hi]
  ·rw[apZ (by omega),Xq l n _ (by rw[Nat.add_mul]at h;omega),<-Nat.mod_eq_sub_mod (by omega)]
theorem aos(z:aqB){k:Nat}(hz:z.cells.size=k)(n:Nat):tH n (z.cells.toList.map λu=> .d (.v u))=(List.range (n*k)).map λi=> .d (.v (z.cells[i%z.cells.size]!)):=by
 have hl:(z.cells.toList.map λu=>AV.d (.v u)).length=k:=by simp [hz]
 refine List.ext_getElem? λi=> ?_;by_cases hi:i<n*k
 ·rw[Xq _ _ _ (by rw[hl];exact hi),apQ,apQ,List.getElem?_range hi,hl,hz,ap6];have hk:0<k:=Nat.pos_of_ne_zero λe=>by subst e;simp at hi
  have aH:i%k<z.cells.size:=by rw[hz];exact Nat.mod_lt _ hk
  rw[ap5 aH];simp only[Option.map_some];rw[getElem!_pos z.cells (i%k) aH]
 ·rw[aqf (by rw[XU,hl];omega),aqf (by simp;omega)]
theorem YH:∀{ps:aqx (Nat×AV)}{places:aqx (Nat×Nat)}{cs bP:aqx AV},pH places cs ps=some bP->bP.length=cs.length
 |[],_,_,_,h=>by simp only[pH,Option.some.injEq]at h;rw[h]
 |(i,x)::ps,places,cs,bP,h=>by
  unfold pH at h;split at h
  ·rw[cond_eq_ite]at h;split at h
   ·rename_i hc
    simp only[apL,beq_iff_eq,dI]at hc;rw[YH h,GM _ _ _ (by rw[hc.1];exact hc.2)]
   ·cases h
  ·cases h
section
variable {P:aqA} {r:aqz Nat} {n N0:Nat} {G:Gh} {w:aqC} {a:Act} {s:St} {o:Oper} {K:St->Prop} {Q:Exit->Act->aqC->Prop}
theorem aou{T len:Nat}{h:aqx an}{ps:aqx (Nat×AV)}{qs:Array (Nat×aqB)}{C:AV->Prop}(hi:bD G w h)(hl:qs.toList.length=ps.length)
 (hr:∀(i:Nat)(p:Nat×AV)(q:Nat×aqB),ps[i]?=some p->qs.toList[i]?=some q->q.1=p.1/\aD G w q.2 p.2) (hC:yM P T len ps C):
 ∃u w' G' y,(Instr.buildSlice T len qs).run P w= .ok u w'/\bI G.N G w G' w'/\G.N<=G'.N/\bD G' w' h/\aD G' w' u y/\C y:=by
 unfold yM at hC;split at hC
 ·rename_i e k hT
  obtain⟨eR,fR⟩:=j5 hT;split at hC
  ·rename_i z hz
   split at hC
   ·rename_i cs hf
    split at hC
    ·rename_i ds tG
     obtain⟨eW,hC⟩:=bS.1 hC;simp only[apL,beq_iff_eq,dI,aqg]at eW;obtain⟨⟨⟨⟨hk,hsm⟩,kr⟩,jb⟩,hb⟩:=eW;have jb:=acQ jb;rw[aos z kr]at hf;have Ds:=V7 k;obtain⟨z0,tM⟩:∃z0:Array aqB,z0=if len*k=0 then #[]else z.cells:=⟨_,rfl⟩
     obtain⟨zr,Fs⟩:∃zr:Array aqB,zr=(Array.range (len*k)).map (z0[·%z0.size]!):=⟨_,rfl⟩;have mv:Row G w zr ((List.range (len*k)).map λi=> .d (.v (z.cells[i%z.cells.size]!))):=by
      have EJ:∀i,i<len*k->z0[i%z0.size]! =z.cells[i%z.cells.size]! :=λi hi=>by rw[tM,if_neg (by omega)]
      refine⟨by rw[Fs];simp,λi u c hu hc=> ?_,λi u hu=> ?_⟩
      ·rw[Fs,Array.getElem?_map]at hu;rw[apQ]at hc;by_cases hi:i<len*k
       ·rw[List.getElem?_range hi]at hc;rw[Array.getElem?_range,if_pos hi]at hu;simp only[Option.map_some,Option.some.injEq]at hu hc;subst hu;subst hc;rw[EJ i hi];exact .d (.v _)
       ·rw[aqf (by simp;omega)]at hc;cases hc
      ·rw[Fs,Array.getElem?_map]at hu;by_cases hi:i<len*k
       ·rw[Array.getElem?_range,if_pos hi]at hu;simp only[Option.map_some,Option.some.injEq]at hu;subst hu;rw[EJ i hi];have aH:i%z.cells.size<z.cells.size:=Nat.mod_lt _ (by omega);rw[getElem!_pos z.cells _ aH];exact Array.all_eq_true_iff_forall_mem.1 jb _ (Array.getElem_mem _)
       ·rw[Array.getElem?_eq_none (by simp;omega)]at hu;cases hu
     obtain⟨ej,h1,h2⟩:=RG (λi=>some (i*k,k)) (vz k 0 len) (λi pl h=>by
      have:=Ds len 0 i pl h;rw[this];simp) ps qs.toList _ cs zr mv hl hr hb hf
     obtain⟨d1,d2⟩:=Nn tG;have gn:cs.length=len*k:=by
      have:=YH hf;rw[this];simp
     have yR:ej.size=len*k:=by rw[h2.len,gn]
     obtain⟨i1,i2⟩:=WM hi (.cells ej e) (len*k);have El:Rd G.S w k (oI k len ds) ej.toList:=abh (by rw[d1,gn]) (by rw[aqg,yR]) (λu hu=>by
      obtain⟨j,hj⟩:=List.mem_iff_getElem?.1 hu;exact h2.one j u (by rw[<-ap6];exact hj)) (λi u d hu hd=>by
      have aH:i<cs.length:=by rw[<-d1];exact(apJ.1 hd).1
      exact(h2.rel i u _ (by rw[<-ap6];exact hu) (apN aH)).OI (d2 i _ d (apN aH) hd))
     have hp:dn (G.vo w.heap.size (len*k)).S (w.alloc (.cells ej e)) (.slice (some ⟨w.heap.size,0,none⟩) len len) (.sl (oI k len ds)):=by
      have:=(El.aT i1.S i1.cell).GU w.heap.size len (by rw[ua];exact apU _) (by have:=Nat.le_mul_of_pos_right len hk;simp only[maxLen];omega) (λo ho=> .inr ⟨rfl,by rw[ua]at ho;exact ho⟩) (λo u hu=>by
       rw[World.cell?_alloc_new];rw[<-ap6];exact hu)
      rwa [ua]at this
     refine⟨_,_,_,_,?_,i1,apU _,i2, .full _ hp ⟨some ⟨w.heap.size,0,none⟩,by rw[ua]⟩,hC⟩;have js:¬(len*k>2^24):=by omega
     unfold Instr.buildSlice;simp only[Sem.run_bind,run_underlying eR,Result.andThen_ok,mr fR,js,if_false];by_cases h0:len*k=0
     ·rw[if_pos h0]at tM;subst tM;subst Fs;simp [h0]at h1;simp [h0,h1,newRow]
     ·rw[if_neg h0]at tM;subst tM;subst Fs;simp [h0,Gz hz,h1,newRow]
    ·exact hC.elim
   ·exact hC.elim
  ·exact hC.elim
 ·exact hC.elim
end
section
variable {P:aqA} {G:Gh} {w:aqC} {h:aqx an}
theorem uk(k s:aqy)(d:D)(l:aqx (aqy×D)):eN ((k,d)::l) s=if k=s then some d else eN l s:=by
 have e1:eN ((k,d)::l) s=bif bL k==bL s then some d else eN l s:=rfl;rw[e1];by_cases e:k=s
 ·subst e;rw[if_pos rfl];simp
 ·rw[if_neg e];have:(bL k==bL s)=false:=by rw[beq_eq_false_iff_ne];exact λhe=>e (iL he)
  rw[this];rfl
theorem Em{T k e:TypeId}(h:sw P T=some (k,e)):P.underlying T=some (.map k e):=by
 unfold sw at h;split at h
 ·next k' e' hT=>cases h;exact hT
 ·cases h
theorem aip(hi:bD G w h):bI G.N G w (G.cT w.heap.size) (w.alloc (.map #[] 0))/\bD (G.cT w.heap.size) (w.alloc (.map #[] 0)) (h++[.map []])/\aD (G.cT w.heap.size) (w.alloc (.map #[] 0)) (.map (some w.heap.size)) (.mp h.length):=by
 have hE:=tu G w hi.z hi.S (.map #[] 0);have hN:G.N<=(G.cT w.heap.size).N:=Nat.le_succ _;have fY:(G.cT w.heap.size).aI h.length=w.heap.size:=by simp [Gh.cT,hi.len]
 have lz:∀n(B:an),n<G.N->B.dA (G.cT w.heap.size) n=B.dA G n:=λn B hn=>by
  cases B<;>simp [an.dA,Gh.cT,Nat.ne_of_lt hn]
 have fq:∀n,n<G.N->bM (h++[.map []]) (G.cT w.heap.size) n=bM h G n:=λn hn=>by
  have aH:n<h.length:=by rw[hi.len];exact hn
  unfold bM;rw[apT aH,apN aH];exact lz n _ hn
 have tS:bM (h++[.map []]) (G.cT w.heap.size) h.length=some w.heap.size:=by
  rw[dc (B:= .map []) (by simp)];exact congrArg some fY
 refine⟨hE,⟨by simp [Gh.cT,hi.len],λb hb=>ap7 (hi.z b hb) hE.size,λb o hs=>ap7 (hi.S b o hs) hE.size,λn B hB=> ?_,λm n b hm hn=> ?_,hi.gl.aT hE⟩,?_⟩
 ·by_cases hn:n<h.length
  ·rw[apT hn]at hB;have eE:n<G.N:=hi.len▸hn;exact dD.aT eE hE hN ⟨rfl,rfl,rfl⟩ (λb hb=>⟨Below.heap_alloc w _ _ (hi.gw (n:=n) ((dc hB).trans hb)),λo h=>h⟩) (hi.cD n B hB)
  ·have j6:n=h.length:=by
    have:=(apJ.1 hB).1;simp at this;omega
   subst j6;simp at hB;subst hB;exact⟨by rw[fY];exact λhz=>aqn _ (hi.z _ hz),λo hs=>by rw[fY]at hs;exact aqn _ (hi.S _ _ hs), #[],0,by rw[fY];exact World.alloc_heap_new w _,
    ⟨by simp,MapKept.stamped_empty 0,λe he=>(by simp at he),λs d hs=>(by cases hs),by simp,λi e he=>(by simp at he),rfl⟩⟩
 ·have key:∀n b,bM (h++[.map []]) (G.cT w.heap.size) n=some b->(n<G.N/\bM h G n=some b)\/(n=h.length/\b=w.heap.size):=λn b hn=>by
   by_cases aH:n<G.N
   ·exact .inl ⟨aH,by rw[<-fq n aH];exact hn⟩
   ·by_cases e:n=h.length
    ·subst e;rw[tS]at hn;cases hn;exact .inr ⟨rfl,rfl⟩
    ·rw[wR (aqf (by simp;have:=hi.len;omega))]at hn;cases hn
  rcases key m b hm with⟨_,jf⟩|⟨rfl,rfl⟩<;>rcases key n _ hn with⟨_,eE⟩|⟨rfl,hb⟩
  ·exact hi.inj m n b jf eE
  ·have:=hi.gw jf;omega
  ·have:=hi.gw eE;omega
  ·rfl
 ·have:=aD.mp (G:=G.cT w.heap.size) (w:=w.alloc (.map #[] 0)) h.length (by simp [Gh.cT,hi.len])
  rwa [fY]at this
theorem sS{s:aqy}:MapKept.IsKey .string (.string s):=trivial
theorem amJ{T k e:TypeId}{z:aqB}{n:Nat}{kv:aqx (aqy×D)}{s:aqy}{ok:Bool}(hi:bD G w h)(hT:sw P T=some (k,e))(hz:iu P e=some z)(hk:ia P k=true)(hn:h[n]?=some (.map kv)):
 ∃v,(Instr.lookup T (.map (some (G.aI n))) (.string s) ok).run P w= .ok v w/\aD G w v (vy ok z (eN kv s)):=by
 obtain⟨_,_,es,clock,hh,hm⟩:=hi.cD n _ hn;have F6:∀x∈es.toList,MapKept.IsKey .string x.key:=λx hx=>by
  obtain⟨s',d,h1,_⟩:=hm.ee x hx;rw[h1];exact sS
 have sM:=uc hk;have one:∀(v:aqB)(d:D)(b:Bool),dn G.S w v d->aD G w (if ok then .tuple #[v, .bool b]else v) (bif ok then .bz [.d d, .d (.v (.bool b))]else .d d):=λv d b hp=>by
  cases ok with
  |false=>exact .d hp
  |true=>
   refine .bz #[v, .bool b] _ rfl λi u c hu hc=> ?_
   match i with
   |0=>simp at hu hc;subst hu;subst hc;exact .d hp
   |1=>simp at hu hc;subst hu;subst hc;exact .d (.v _)
   |i+2=>simp at hu
 rcases MapKept.findNow_spec (sS (s:=s)) es.toList 0 F6 with⟨h1,h2⟩|⟨j,e0,h1,h2,h3⟩
 ·have aoj:eN kv s=none:=by
   cases hq:eN kv s with
   |none=>rfl
   |some d=>
    obtain⟨x,hx,om⟩:=hm.all s d hq;exact absurd om (h2 x hx)
  refine⟨if ok then .tuple #[z, .bool false]else z,?_,?_⟩
  ·simp [Instr.lookup,run_underlying (Em hT),MapKept.run_getObj_map hh,MapKept.run_checkKey sM sS,MapKept.run_findKey sM h1,Gz hz,Result.andThen]
  ·rw[aoj];have:=one z (.v z) false (.v z);unfold vy;exact this
 ·have hmem:e0∈es.toList:=apW h2;obtain⟨s',d,k1,k2,k3⟩:=hm.ee e0 hmem;rw[h3]at k1;cases k1
  refine⟨if ok then .tuple #[e0.val, .bool true]else e0.val,?_,?_⟩
  ·simp [Instr.lookup,run_underlying (Em hT),MapKept.run_getObj_map hh,MapKept.run_checkKey sM sS,MapKept.run_findKey sM h1,Result.andThen]
  ·rw[k2];have:=one e0.val d true k3;unfold vy;exact this
theorem anO{T k e:TypeId}{n:Nat}{kv:aqx (aqy×D)}{s:aqy}{v:aqB}{d:D}(hi:bD G w h)(hT:sw P T=some (k,e))(hk:ia P k=true)(hn:h[n]?=some (.map kv))(hv:dn G.S w v d)(hlen:kv.length<maxLen):
 ∃w',(Instr.mapUpdate T (.map (some (G.aI n))) (.string s) v).run P w= .ok () w'/\bI G.N G w G w'/\bD G w' (h.set n (.map ((s,d)::kv))):=by
 obtain⟨hZ,hS,es,clock,hh,hm⟩:=hi.cD n _ hn;have F6:∀x∈es.toList,MapKept.IsKey .string x.key:=λx hx=>by
  obtain⟨s',d,h1,_⟩:=hm.ee x hx;rw[h1];exact sS
 have sM:=uc hk;have fin:∀(yD:Array MapEntry)(CD:Nat)(w':aqC),w'=ChangeMaps.setBlock w (G.aI n) (.map yD CD)->o6 G.S w yD CD ((s,d)::kv)->bI G.N G w G w'/\bD G w' (h.set n (.map ((s,d)::kv))):=by
  intro yD CD w' eQ jf;have iQ:∀b,b≠G.aI n->w'.heap[b]?=w.heap[b]?:=λb hb=>by rw[eQ];exact ChangeMaps.heap_setBlock_other hh _ hb
  have R0:w'.heap[G.aI n]?=some (.map yD CD):=by rw[eQ];exact ChangeMaps.heap_setBlock_same hh _
  have eY:w'.heap.size=w.heap.size:=by rw[eQ];simp [ChangeMaps.setBlock]
  have gD:∀b o,G.S b o->w'.cell? ⟨b,o,none⟩=w.cell? ⟨b,o,none⟩:=λb o hs=>World.cell?_of_block (iQ b (λe=>hS o (e▸hs)));have hE:bI G.N G w G w':=⟨by rw[eY];exact apU _,λ_ _ h=>h,gD,λ_ _=>rfl,λ_ _=> .inl ⟨rfl,rfl⟩,gp rfl,λb hb=>iQ b (λe=>hZ (e▸hb)),by rw[eQ];rfl,by rw[eQ];rfl,by rw[eQ];rfl,λ_ _ h=> .inl h⟩;refine⟨hE,?_⟩;have kK:bM h G n=some (G.aI n):=dc hn;have kO:(h.set n (.map ((s,d)::kv)))[n]?=some (.map ((s,d)::kv)):=by rw[aqc (apJ.1 hn).1]
  have eC:∀m,m≠n->(h.set n (.map ((s,d)::kv)))[m]?=h[m]?:=λm hm=>by rw[aqh (Ne.symm hm)]
  have dS:∀m,bM (h.set n (.map ((s,d)::kv))) G m=bM h G m:=λm=>by
   by_cases e:m=n
   ·subst e;rw[dc kO,dc hn];rfl
   ·unfold bM;rw[eC m e]
  refine⟨by rw[List.length_set];exact hi.len,λb hb=>ap7 (hi.z b hb) hE.size,λb o hs=>ap7 (hi.S b o hs) hE.size,λm B hB=> ?_,λm m' b h1 h2=>hi.inj m m' b (by rw[<-dS];exact h1) (by rw[<-dS];exact h2),hi.gl.aT hE⟩;by_cases e:m=n
  ·subst e;rw[kO]at hB;cases hB
   exact⟨hZ,hS,yD,CD,R0,jf.aT (λ_ _ h=>h) gD⟩
  ·rw[eC m e]at hB;have cy:∀b,bM h G m=some b->b≠G.aI n:=λb hb eb=>e (hi.inj m n b hb (by rw[eb];exact kK));exact dD.aT (hi.lt hB) hE (apU _) ⟨rfl,rfl,rfl⟩ (λb hb=>⟨iQ b (cy _ ((dc hB).trans hb)),λo h=>h⟩) (hi.cD m B hB)
 rcases MapKept.findNow_spec (sS (s:=s)) es.toList 0 F6 with⟨h1,h2⟩|⟨j,e0,h1,h2,h3⟩
 ·have jf:o6 G.S w (es.push ⟨.string s,v,clock⟩) (clock+1) ((s,d)::kv):=by
   refine⟨by have:=hm.len;simp;omega,MapKept.stamped_push hm.stamped h2,λx hx=> ?_,λs' d' ct=> ?_,by have:=hm.len;simp;omega,λi e he=> ?_,by rw[hm.A2];simp⟩
   ·simp only[Array.toList_push,aql,List.mem_singleton]at hx;rcases hx with hx|rfl
    ·obtain⟨s',d',k1,k2,k3⟩:=hm.ee x hx;refine⟨s',d',k1,?_,k3⟩;rw[uk,if_neg (λe=>h2 x hx (by rw[k1,e]))];exact k2
    ·exact⟨s,d,rfl,by rw[uk,if_pos rfl],hv⟩
   ·rw[uk]at ct;simp only[Array.toList_push,aql,List.mem_singleton];split at ct
    ·next e=>subst e;exact⟨_, .inr rfl,rfl⟩
    ·obtain⟨x,hx,hk⟩:=hm.all s' d' ct;exact⟨x, .inl hx,hk⟩
   ·rw[Array.getElem?_push]at he;split at he
    ·next ei=>cases he;rw[ei];exact hm.A2
    ·exact hm.born i e he
  obtain⟨f1,f2⟩:=fin _ _ _ rfl jf;refine⟨_,?_,f1,f2⟩;simp [Instr.mapUpdate,run_underlying (Em hT),MapKept.run_getObj_map hh,MapKept.run_checkKey sM sS,MapKept.run_findKey sM h1,MapKept.run_setObj_map _ hh,Result.andThen,ChangeMaps.setBlock]
 ·have hj:es[j]?=some e0:=by simpa using h2
  have AF:j<es.toList.length:=(apJ.1 h2).1;have aji:∀e',es[j]?=some e'->({e' with key:= .string s,val:=v}:MapEntry).key=e'.key:=λe' uo=>by rw[hj]at uo;cases uo;exact h3.symm
  have HC:(es.modify j (λe'=>{e' with key:= .string s,val:=v})).toList=es.toList.set j {e0 with key:= .string s,val:=v}:=by
   rw[Array.toList_modify];exact ChangeMaps.modify_eq_set _ _ _ _ h2
  have gd:(es.toList.map (·.key)).Nodup:=hm.stamped.2.2;have jf:o6 G.S w (es.modify j (λe'=>{e' with key:= .string s,val:=v})) clock ((s,d)::kv):=by
   refine⟨by simpa using hm.size,MapKept.stamped_modify hm.stamped _ _ (λ_ _=>rfl) (λe' _ uo=>aji e' uo),λx hx=> ?_,λs' d' ct=> ?_,by have:=hm.len;simp;omega,λi e he=> ?_,by rw[hm.A2];simp⟩
   ·rw[HC]at hx;obtain⟨i,de,ex⟩:=List.getElem_of_mem hx;rw[List.getElem_set]at ex;split at ex
    ·rw[<-ex];exact⟨s,d,rfl,by rw[uk,if_pos rfl],hv⟩
    ·next cy=>
     have kS:i<es.toList.length:=by simpa using de
     have px:x∈es.toList:=by rw[<-ex];exact List.getElem_mem kS
     obtain⟨s',d',k1,k2,k3⟩:=hm.ee x px;refine⟨s',d',k1,?_,k3⟩;rw[uk,if_neg ?_]
     ·exact k2
     ·intro yD;have a1:(es.toList.map (·.key))[i]?=some (.string s):=by rw[apQ,apN kS,ex];simp [k1,yD]
      have a2:(es.toList.map (·.key))[j]?=some (.string s):=by rw[apQ,h2];simp [h3]
      have hii:i<(es.toList.map (·.key)).length:=by simpa using kS
      exact cy ((List.getElem?_inj hii gd).1 (a1.trans a2.symm)).symm
   ·rw[HC];rw[uk]at ct;split at ct
    ·next e=>subst e;exact⟨_,List.mem_iff_getElem?.2 ⟨j,aqc AF⟩,rfl⟩
    ·next cy=>
     obtain⟨x,hx,hk⟩:=hm.all s' d' ct;obtain⟨i,de,ex⟩:=List.getElem_of_mem hx;refine⟨x,List.mem_iff_getElem.2 ⟨i,by simpa using de,?_⟩,hk⟩;rw[List.getElem_set];split
     ·next e=>
      subst e;exfalso;have:es.toList[j]?=some x:=by rw[apN de,ex]
      rw[this]at h2;cases h2
      rw[h3]at hk;injection hk with hk;exact cy hk
     ·exact ex
   ·rw[Array.getElem?_modify]at he;split at he
    ·next ei=>
     subst ei;rw[hj]at he;cases he
     exact hm.born _ e0 hj
    ·exact hm.born i e he
  obtain⟨f1,f2⟩:=fin _ _ _ rfl jf;refine⟨_,?_,f1,f2⟩;simp [Instr.mapUpdate,run_underlying (Em hT),MapKept.run_getObj_map hh,MapKept.run_checkKey sM sS,MapKept.run_findKey sM h1,hj,h3,MapKept.run_keyThatStays sS,MapKept.run_setObj_map _ hh,Result.andThen,ChangeMaps.setBlock]
end
set_option linter.unusedVariables false
set_option linter.unusedSimpArgs false
section
variable {P:aqA} {G:Gh} {w:aqC} {h:aqx an}
theorem JC{w':aqC}(hi:bD G w h){n:Nat}{B B':an}(hn:h[n]?=some B)(vi:∀G':Gh,B.dA G' n=G'.ow n)(P0:∀G':Gh,B'.dA G' n=G'.ow n)(S:Nat->Nat->Prop)(v:aqB)(len:Nat)(ow:aqz Nat)
 (hE:bI G.N G w (G.grow n S v len ow) w') (hg:∀g,ow=some g->(g=w.heap.size\/G.ow n=some g)/\g<w'.heap.size)
 (hS:∀b o,S b o->G.S b o\/ow=some b) (iQ:∀b,b<w.heap.size->ow≠some b->w'.heap[b]?=w.heap[b]?)
 (hB:dD (G.grow n S v len ow) w' n B'):bD (G.grow n S v len ow) w' (h.set n B'):=by
 have eC:∀m,m≠n->(h.set n B')[m]?=h[m]?:=λm hm=>by rw[aqh (Ne.symm hm)]
 have kO:(h.set n B')[n]?=some B':=by rw[aqc (apJ.1 hn).1]
 have lz:∀m(C:an),m≠n->C.dA (G.grow n S v len ow) m=C.dA G m:=λm C hm=>by
  cases C<;>simp [an.dA,Gh.grow,hm]
 have dS:∀m,m≠n->bM (h.set n B') (G.grow n S v len ow) m=bM h G m:=λm hm=>by
  unfold bM;rw[eC m hm];cases h[m]? with
  |none=>rfl
  |some C=>exact lz m C hm
 have Gx:bM (h.set n B') (G.grow n S v len ow) n=ow:=by rw[dc kO,P0];simp [Gh.grow]
 have yu:∀m b,m≠n->ow=some b->bM h G m≠some b:=λm b hm ho hb=>by
  rcases (hg b ho).1 with hg|hg
  ·have:=hi.gw hb;omega
  ·exact hm (hi.inj m n b hb ((dc hn).trans ((vi G).trans hg)))
 refine⟨by rw[List.length_set];exact hi.len,λb hb=>ap7 (hi.z b hb) hE.size,λb o hs=> ?_,λm C hm=> ?_,λm m' b h1 h2=> ?_,hi.gl.aT hE⟩
 ·rcases hS b o hs with hs|hs
  ·exact ap7 (hi.S b o hs) hE.size
  ·exact(hg b hs).2
 ·by_cases em:m=n
  ·subst em;rw[kO]at hm;cases hm;exact hB
  ·rw[eC m em]at hm;refine dD.aT (hi.lt hm) hE (apU _) ⟨by simp [Gh.grow,em],by simp [Gh.grow,em],by simp [Gh.grow,em]⟩ (λb hb=> ?_) (hi.cD m C hm);have hr:bM h G m=some b:=(dc hm).trans hb;have cy:ow≠some b:=λe'=>yu m b em e' hr;refine⟨iQ _ (hi.gw hr) cy,λo js hs=> ?_⟩;rcases hS _ o hs with hs|hs
   ·exact js hs
   ·exact cy hs
 ·by_cases e1:m=n<;>by_cases e2:m'=n
  ·rw[e1,e2]
  ·subst e1;rw[dS m' e2]at h2;rw[Gx]at h1;exact absurd h2 (yu m' b e2 h1)
  ·subst e2;rw[dS m e1]at h1;rw[Gx]at h2;exact absurd h1 (yu m b e1 h2)
  ·rw[dS m e1]at h1;rw[dS m' e2]at h2;exact hi.inj m m' b h1 h2
def Gh.dZ(G:Gh)(v:aqB)(len:Nat)(ow:aqz Nat):Gh:=
 {G with N:=G.N+1,sg:=λn=>if n=G.N then v else G.sg n,fl:=λn=>if n=G.N then len else G.fl n,ow:=λn=>if n=G.N then ow else G.ow n}
theorem NT{w':aqC}(hi:bD G w h)(B:an)(vi:∀(G':Gh) n,B.dA G' n=G'.ow n)(v:aqB)(len:Nat)(ow:aqz Nat)(hw:(∀b,b<w.heap.size->w'.heap[b]?=w.heap[b]?)/\w.heap.size<=w'.heap.size/\w'.os=w.os/\w'.tape=w.tape/\w'.output=w.output)
 (how:∀g,ow=some g->w.heap.size<=g)
 (hB:dD (G.dZ v len ow) w' G.N B):bI G.N G w (G.dZ v len ow) w'/\bD (G.dZ v len ow) w' (h++[B]):=by
 have cy:∀n,n<G.N->n≠G.N:=λn hn=>Nat.ne_of_lt hn;have hE:bI G.N G w (G.dZ v len ow) w':=⟨hw.2.1,λ_ _ h=>h,λb o hs=>World.cell?_of_block (hw.1 b (hi.S b o hs)),λ_ _=>rfl,λn hn=> .inl ⟨by simp [Gh.dZ,cy n hn],by simp [Gh.dZ,cy n hn]⟩,gp rfl,λb hb=>hw.1 b (hi.z b hb),hw.2.2.1,hw.2.2.2.1,hw.2.2.2.2,λ_ _ h=> .inl h⟩;have hN:G.N<=(G.dZ v len ow).N:=Nat.le_succ _;have lz:∀n(C:an),n<G.N->C.dA (G.dZ v len ow) n=C.dA G n:=λn C hn=>by
  cases C<;>simp [an.dA,Gh.dZ,Nat.ne_of_lt hn]
 have key:∀n b,bM (h++[B]) (G.dZ v len ow) n=some b->(n<G.N/\bM h G n=some b)\/(n=G.N/\ow=some b):=λn b hb=>by
  by_cases hn:n<h.length
  ·unfold bM at hb;rw[apT hn,apN hn]at hb;exact .inl ⟨hi.len▸hn,by unfold bM;rw[apN hn,<-hb];exact(lz n _ (hi.len▸hn)).symm⟩
  ·by_cases en:n=h.length
   ·subst en;rw[dc (B:=B) (by simp),vi]at hb;exact .inr ⟨hi.len,by simpa [Gh.dZ,hi.len]using hb⟩
   ·rw[wR (aqf (by simp;omega))]at hb;cases hb
 refine⟨hE,by simp [Gh.dZ,hi.len],λb hb=>ap7 (hi.z b hb) hw.2.1,λb o hs=>ap7 (hi.S b o hs) hw.2.1,λn C hC=> ?_,λm n b h1 h2=> ?_,hi.gl.aT hE⟩
 ·by_cases hn:n<h.length
  ·rw[apT hn]at hC;have eE:n<G.N:=hi.len▸hn;exact dD.aT eE hE hN ⟨by simp [Gh.dZ,cy n eE],by simp [Gh.dZ,cy n eE],by simp [Gh.dZ,cy n eE]⟩ (λb hb=>⟨hw.1 b (hi.gw ((dc hC).trans hb)),λo h=>h⟩) (hi.cD n C hC)
  ·have j6:n=h.length:=by
    have:=(apJ.1 hC).1;simp at this;omega
   subst j6;simp at hC;subst hC;rw[hi.len];exact hB
 ·rcases key m b h1 with⟨_,a1⟩|⟨rfl,a1⟩<;>rcases key n b h2 with⟨_,b1⟩|⟨rfl,b1⟩
  ·exact hi.inj m n b a1 b1
  ·have:=hi.gw a1;have:=how b b1;omega
  ·have:=hi.gw b1;have:=how b a1;omega
  ·rfl
theorem aD.oY{n o len L k:Nat}{e:TypeId}{cs:aqx (aqx AV)}{u:aqB}(hi:bD G w h)(hn:h[n]?=some (.vec e k cs))(hL:cs.length=L)(hv:aD G w u (.vec n o len L k)):TY (G.sg n) u o len L k:=by
 have hb:=(hi.cD n _ hn).1;cases hv with|vec _ _ _ _ _ h1 h2 h3 h4=>exact h4 (by rw[<-hL,hb])
theorem aD.We{n i j L k:Nat}{e:TypeId}{k':Nat}{cs:aqx (aqx AV)}{u:aqB}(hi:bD G w h)(hn:h[n]?=some (.vec e k' cs))(hL:cs.length=L)(hv:aD G w u (.dq n i j L k)):UT (G.sg n) u i j L k:=by
 have hb:=(hi.cD n _ hn).1;cases hv with|dq _ _ _ _ _ h1 h2 h3 h4=>exact h4 (by rw[<-hL,hb])
theorem zJ{n:Nat}{e k:Nat}{cs:aqx (aqx AV)}(hi:bD G w h)(hn:h[n]?=some (.vec e k cs))(cy:cs≠ []):∃(g cap:Nat)(cur:Array aqB),G.ow n=some g/\G.sg n= .slice (some ⟨g,0,none⟩) cs.length cap/\¬G.Z g/\w.heap[g]?=some (.cells cur e (0,0))/\cs.length<=cap/\cap<=maxLen/\cur.size=cap*k/\(∀o,¬G.S g o)/\
        ∀(i j:Nat)(c:aqx AV)(x:AV)(u:aqB),cs[i]?=some c->c[j]?=some x->cur[i*k+j]?=some u->aD G w u x:=by
 obtain⟨_,_,_,h4|h4⟩:=hi.cD n _ hn
 ·exact absurd h4.2.1 cy
 ·exact h4
theorem Dh{n:Nat}{e k:Nat}{cs:aqx (aqx AV)}(hi:bD G w h)(hn:h[n]?=some (.vec e k cs)):∀c∈cs,c.length=k:=(hi.cD n _ hn).2.2.1
theorem nf{i k L j:Nat}(hi:i<L)(hj:j<k):i*k+j<L*k:=by
 have:(i+1)*k<=L*k:=Nat.mul_le_mul_right k hi;rw[Nat.add_mul]at this;omega
theorem HR{i k j:Nat}(hj:j<k):(i*k+j)/ k=i/\(i*k+j)%k=j:=by
 have hk:0<k:=by omega
 exact⟨by rw[Nat.add_comm,Nat.add_mul_div_right _ _ hk,Nat.div_eq_of_lt hj,ap3],by rw[Nat.add_comm,Nat.add_mul_mod_self_right,Nat.mod_eq_of_lt hj]⟩
theorem aoB{i i' j j' k:Nat}(hj:j<k)(iC:j'<k)(e:i*k+j=i'*k+j'):i=i'/\j=j':=by
 have h1:=HR (i:=i) hj;have h2:=HR (i:=i') iC;exact⟨by rw[<-h1.1,<-h2.1,e],by rw[<-h1.2,<-h2.2,e]⟩
theorem ad6{t n i j L k:Nat}{e:TypeId}{cs:aqx (aqx AV)}{c:aqx AV}{x:AV}{v:aqB}(hi:bD G w h)(hn:h[n]?=some (.vec e k cs))(hL:cs.length=L)(hc:cs[i]?=some c)(hx:Tq P t c j=some x)(hv:aD G w v (.dq n i j L k)):
 ∃u,(Instr.loadAt t v).run P w= .ok u w/\aD G w u x:=by
 have ko:i<cs.length:=(apJ.1 hc).1;have VJ:c.length=k:=Dh hi hn c (apW hc);obtain⟨g,cap,cur,r1,r2,r3,r4,r5,r6,r7,r8,r9⟩:=zJ hi hn (λe=>by subst e;simp at ko);obtain⟨_,g',zt,p1,p2⟩:=hv.We hi hn hL;rw[r2]at p1;cases p1
 have h1:∀q,q<c.length->w.cell? ⟨g,i*k+q,none⟩=some (cur.getD (i*k+q) undef):=λq hq=>by
  rw[cell_of_row w g _ cur e (0,0) r4];have:i*k+q<cur.size:=by
    rw[r7];exact ap7 (nf ko (by omega)) (Nat.mul_le_mul_right k r5)
  simp [Array.getD,this]
 have h2:∀(q:Nat)(y:AV),c[q]?=some y->aD G w (cur.getD (i*k+q) undef) y:=λq y hq=>by
  have Nj:=(apJ.1 hq).1;have aH:i*k+q<cur.size:=by
   rw[r7];exact ap7 (nf ko (by omega)) (Nat.mul_le_mul_right k r5)
  have e1:cur[i*k+q]?=some (cur.getD (i*k+q) undef):=by simp [Array.getD,aH]
  exact r9 i q c y _ hc hq e1
 have key:=Vx (P:=P) (G:=G) (w:=w) (t:=t) (C:=(·=x)) g (i*k) c j (λq=>cur.getD (i*k+q) undef) h1 h2 (by
  unfold Tq at hx;revert hx;cases ml P t with
  |none=>intro hx;cases hx
  |some ag=>
   cases fW P t with
   |none=>cases ag<;>(intro hx;cases hx)
   |some kk=>
    cases ag with
    |true=>
     simp only;intro hx;cases hb:cn (j+kk) c.length with
     |false=>rw[hb]at hx;cases hx
     |true=>rw[hb]at hx;cases hx;exact rfl
    |false=>
     simp only;intro hx;rw[hx])
 obtain⟨u,y,k1,k2,rfl⟩:=key;refine⟨u,?_,k2⟩;rw[p2];simp [Instr.loadAt,Instr.sureAddr,k1]
theorem aog{t b off k:Nat}{T:TypeId}{v:aqB}{vs:Array aqB}(hh:w.heap[b]?=some (.cells vs T (0,0)))(ht:fW P t=some k)(hk:v.cells.size=k)(jb:∀u∈v.cells.toList,u.oneCell'=true)(hb:off+k<=vs.size):
 (storeVar t ⟨b,off,none⟩ v).run P w= .ok () (w.setRow b (vs.toList.take off++v.cells.toList++vs.toList.drop (off+v.cells.toList.length)).toArray):=by
 obtain⟨i,jT,kS⟩:=TZ ht;have l0:=run_storeCells_at P b off T v.cells.toList 0 vs w hh (by rw[aqg,hk];simpa using hb) jb;simp only[Nat.add_zero]at l0;unfold storeVar;simp only[sizeOf,typeInfo,Sem.run_bind,hk];simp [jT,kS,l0]
theorem abz(vs:Array aqB)(us:aqx aqB)(off q:Nat)(hb:off+us.length<=vs.size):(vs.toList.take off++us++vs.toList.drop (off+us.length)).toArray[q]?=if off<=q/\q<off+us.length then us[q-off]? else vs[q]?:=by
 rw[List.getElem?_toArray,ap0];have yR:vs.toList.length=vs.size:=aqg;by_cases h1:q<off
 ·rw[apT (by simp;omega),List.getElem?_take_of_lt h1,if_neg (by omega),ap6]
 ·rw[apZ (by simp;omega)];simp only[List.length_take,yR];rw[Nat.min_eq_left (by omega)];by_cases h2:q<off+us.length
  ·rw[apT (by omega),if_pos (by omega)]
  ·rw[apZ (by omega),List.getElem?_drop,if_neg (by omega),show off+us.length+(q-off-us.length)=q by omega,ap6]
theorem Xh(vs:Array aqB)(us:aqx aqB)(off:Nat)(hb:off+us.length<=vs.size):(vs.toList.take off++us++vs.toList.drop (off+us.length)).toArray.size=vs.size:=by
 simp only[List.size_toArray,apK,List.length_take,List.length_drop,aqg];omega
theorem aga(cs ys:aqx AV)(off q:Nat)(hb:off+ys.length<=cs.length):(jm cs off ys)[q]?=if off<=q/\q<off+ys.length then ys[q-off]? else cs[q]?:=by
 unfold jm;rw[ap0];by_cases h1:q<off
 ·rw[apT (by simp;omega),List.getElem?_take_of_lt h1,if_neg (by omega)]
 ·rw[apZ (by simp;omega)];simp only[List.length_take];rw[Nat.min_eq_left (by omega)];by_cases h2:q<off+ys.length
  ·rw[apT (by omega),if_pos (by omega)]
  ·rw[apZ (by omega),List.getElem?_drop,if_neg (by omega),show off+ys.length+(q-off-ys.length)=q by omega]
theorem abN{n e k g cap:Nat}{cs bP:aqx (aqx AV)}{cur:Array aqB}{us:aqx aqB}{off:Nat}(hi:bD G w h)(hn:h[n]?=some (.vec e k cs))(gQ:0<k)(r1:G.ow n=some g)(r2:G.sg n= .slice (some ⟨g,0,none⟩) cs.length cap)(r3:¬G.Z g)(r4:w.heap[g]?=some (.cells cur e (0,0)))(r5:cs.length<=cap)(r6:cap<=maxLen)(r7:cur.size=cap*k)(r8:∀o,¬G.S g o)
 (hb:off+us.length<=cur.size) (hl:bP.length=cs.length) (ji:∀c∈bP,c.length=k)
 (BE:∀(i j:Nat)(c:aqx AV)(x:AV)(u:aqB),bP[i]?=some c->c[j]?=some x->(if off<=i*k+j/\i*k+j<off+us.length then us[i*k+j-off]? else cur[i*k+j]?)=some u->aD G w u x):
 ∃G',bI G.N G w G' (w.setRow g (cur.toList.take off++us++cur.toList.drop (off+us.length)).toArray)/\G'.N=G.N/\bD G' (w.setRow g (cur.toList.take off++us++cur.toList.drop (off+us.length)).toArray) (h.set n (.vec e k bP))/\(∀m,G'.sg m=G.sg m)/\(∀m,G'.fl m=G.fl m):=by
 obtain⟨w',eQ⟩:∃w',w'=w.setRow g (cur.toList.take off++us++cur.toList.drop (off+us.length)).toArray:=⟨_,rfl⟩;rw[<-eQ];have iQ:∀b,b≠g->w'.heap[b]?=w.heap[b]?:=λb hb=>by rw[eQ];exact setRow_other w g b _ hb
 have mv:w'.heap[g]?=some (.cells (cur.toList.take off++us++cur.toList.drop (off+us.length)).toArray e (0,0)):=by rw[eQ];exact setRow_heap w g cur _ e _ r4
 have eY:w'.heap.size=w.heap.size:=by rw[eQ];exact MX w g _
 obtain⟨G',gi⟩:∃G',G'=G.grow n G.S (G.sg n) (G.fl n) (some g):=⟨_,rfl⟩;have Ra:∀m,G'.sg m=G.sg m:=λm=>by rw[gi];simp only[Gh.grow];split<;>simp_all
 have me:∀m,G'.fl m=G.fl m:=λm=>by rw[gi];simp only[Gh.grow];split<;>simp_all
 have hE:bI G.N G w G' w':=⟨by rw[eY];exact apU _,λb o h=>by rw[gi];exact h,λb o hs=>World.cell?_of_block (iQ b (λe=>r8 o (e▸hs))),λ_ _=>by rw[gi];rfl,λm _=> .inl ⟨me m,Ra m⟩,gp (by rw[gi];rfl) (by rw[gi];rfl),λb hb=>iQ b (λe=>r3 (e▸hb)),by rw[eQ];rfl,by rw[eQ];rfl,by rw[eQ];rfl,λb o hs=> .inl (by rw[gi]at hs;exact hs)⟩;have vQ:=hi.cD n _ hn;refine⟨G',hE,by rw[gi];rfl,?_,Ra,me⟩;subst gi;refine JC hi hn (λ_=>rfl) (λ_=>rfl) _ _ _ _ hE (λg' qz=> ?_) (λb o hs=> .inl hs) (λb _ fB=>iQ b (λe=>fB (by rw[e]))) ?_
 ·cases qz;exact⟨.inr r1,by rw[eY];exact(apY.1 r4).1⟩
 ·refine⟨by rw[me,hl];exact vQ.1,by rw[hl];exact vQ.2.1,ji, .inr ⟨g,cap,_,by simp [Gh.grow],by rw[Ra,hl];exact r2,r3,mv,by rw[hl];exact r5,r6,by rw[Xh _ _ _ hb];exact r7,r8,λi j c x u hc hx hu=> ?_⟩⟩;rw[abz _ _ _ _ hb]at hu;exact(BE i j c x u hc hx hu).aT hE (apU _)
theorem aiG{t n i j L k:Nat}{e:TypeId}{cs:aqx (aqx AV)}{c:aqx AV}{x:AV}{v u:aqB}(hi:bD G w h)(hn:h[n]?=some (.vec e k cs))(hL:cs.length=L)(hc:cs[i]?=some c)(hv:aD G w v (.dq n i j L k))(hx:aD G w u x)(Qq:x.jJ=true)(ht:fW P t=some x.cells.length)(hj:j+x.cells.length<=k)(gQ:0<k):
 ∃w' G',(Instr.storeAt t v u).run P w= .ok () w'/\bI G.N G w G' w'/\G.N<=G'.N/\bD G' w' (h.set n (.vec e k (cs.set i (jm c j x.cells)))):=by
 have ko:i<cs.length:=(apJ.1 hc).1;have ji:=Dh hi hn;have VJ:c.length=k:=ji c (apW hc);obtain⟨g,cap,cur,r1,r2,r3,r4,r5,r6,r7,r8,r9⟩:=zJ hi hn (λe=>by subst e;simp at ko);obtain⟨_,g',zt,p1,p2⟩:=hv.We hi hn hL;rw[r2]at p1;cases p1
 obtain⟨c1,c2⟩:=hx.cells Qq;have pe:u.cells.toList.length=x.cells.length:=by rw[aqg,c1]
 have jb:∀y∈u.cells.toList,y.oneCell'=true:=λy hy=>by
  obtain⟨q,hq⟩:=List.mem_iff_getElem?.1 hy;have Nj:u.cells[q]?=some y:=by rw[<-ap6];exact hq
  have hql:q<x.cells.length:=by rw[<-c1];exact(apY.1 Nj).1
  exact(c2 q y _ Nj (apN hql)).2
 have mh:i*k+j+x.cells.length<=cur.size:=by
  have h1:(i+1)*k<=cap*k:=Nat.mul_le_mul_right k (ap7 ko r5);rw[Nat.add_mul]at h1;rw[r7];omega
 have dp:=aog (P:=P) (off:=i*k+j) r4 ht c1 jb mh;obtain⟨G',e1,e2,e3,_⟩:=abN (us:=u.cells.toList) (off:=i*k+j) (bP:=cs.set i (jm c j x.cells)) hi hn gQ r1 r2 r3 r4 r5 r6 r7 r8 (by rw[pe];exact mh) (by rw[List.length_set]) (λd hd=>by
     obtain⟨q,hq⟩:=List.mem_iff_getElem?.1 hd;by_cases e:i=q
     ·subst e;rw[aqc ko]at hq;cases hq
      rw[GM _ _ _ (by omega)];exact VJ
     ·rw[aqh e]at hq;exact ji d (apW hq)) (λa b d y z hd hy hz=>by
     have jl:b<k:=by
      by_cases e:i=a
      ·subst e;rw[aqc ko]at hd;cases hd
       have:=(apJ.1 hy).1;rw[GM _ _ _ (by omega)]at this;omega
      ·rw[aqh e]at hd;rw[<-ji d (apW hd)];exact(apJ.1 hy).1
     rw[pe]at hz;by_cases e:i=a
     ·subst e;rw[aqc ko]at hd;cases hd
      rw[aga _ _ _ _ (by omega)]at hy;by_cases hb:j<=b/\b<j+x.cells.length
      ·rw[if_pos hb]at hy;rw[if_pos (by omega),show i*k+b-(i*k+j)=b-j by omega,ap6]at hz;exact(c2 _ _ _ hz hy).1
      ·rw[if_neg hb]at hy;rw[if_neg (by omega)]at hz;exact r9 i b c y z hc hy hz
     ·rw[aqh e]at hd;rw[if_neg ?_]at hz
      ·exact r9 a b d y z hd hy hz
      ·intro hh;have:a*k+b=i*k+(a*k+b-i*k):=by omega
       exact e ((aoB (i:=a) (i':=i) (j:=b) (j':=a*k+b-i*k) jl (by omega) this).1.symm))
 refine⟨_,G',?_,e1,by rw[e2];exact apU _,e3⟩;rw[p2];simp [Instr.storeAt,Instr.sureAddr,dp]
end
section
variable {P:aqA} {G:Gh} {w:aqC} {h:aqx an}
structure xV(G:Gh)(w:World)(k:Nat)(ys:List (List AV))(us:List Value):Prop where
 len:us.length=ys.length*k
 wid:∀c∈ys,c.length=k
 one:∀u∈us,u.oneCell'=true
 rel:∀(i j:Nat)(c:List AV)(x:AV)(u:Value),ys[i]?=some c->c[j]?=some x->us[i*k+j]?=some u->aD G w u x
theorem Rx{k tx e':Nat}{y:AV}{v:aqB}{ys:aqx (aqx AV)}(hi:bD G w h)(hv:aD G w v y)(hs:Cw h k y ys)(gQ:0<k)(hT:P.underlying tx=some (.slice e')):
 ∃us,xV G w k ys us/\Src P k tx v ys.length us w:=by
 rcases hs with⟨xs,h1,h2,rfl⟩|⟨n,o,len,L,e,cs,rfl,h2,h3,h4,h5⟩
 ·obtain⟨us,hr,qM⟩:=(hv.list h1).src gQ h2 hT;have hl:(cP xs).length=xs.length:=by unfold cP;rw[apO]
  refine⟨us,⟨by rw[hl];exact hr.len,λc hc=> ?_,hr.one,λi j c x u hc hx hu=> ?_⟩,by rw[hl];exact qM⟩
  ·unfold cP at hc;obtain⟨d,hd,rfl⟩:=List.mem_map.1 hc;rw[apO];exact h2 d hd
  ·unfold cP at hc;rw[apQ]at hc;cases px:xs[i]? with
   |none=>rw[px]at hc;cases hc
   |some d=>
    rw[px]at hc;cases hc
    rw[apQ]at hx;cases hy:d[j]? with
    |none=>rw[hy]at hx;cases hx
    |some z=>
     rw[hy]at hx;cases hx
     obtain⟨u',a1,a2⟩:=hr.rel i j d z px hy;rw[a1]at hu;cases hu
     exact .d a2
 ·have lZ:=hv.oY hi h2 h3;obtain⟨A,c,rfl,c1,c2,c3,c4⟩:=lZ.sl;have xk:ys.length=len:=by rw[h4,List.length_take,List.length_drop,h3];have:=lZ.ol;omega
  by_cases h0:len=0
  ·subst h0;have:ys=[]:=List.eq_nil_of_length_eq_zero xk;subst this;refine⟨[],⟨by simp,(λ_ h=>by cases h),(λ_ h=>by cases h),λi j c x u hc=>by simp at hc⟩,?_⟩;cases A with
   |none=>exact Src.ofNil w hT c
   |some a=>exact Src.ofSlice w hT a 0 c [] (by simp) (λj u hu=>by simp at hu) (λu hu=>by cases hu)
  ·have ho:o<L:=by have:=lZ.ol;omega
   obtain⟨g,cap,p1,rfl,p3⟩:=c4 ho;have cy:cs≠ []:=λe=>by subst e;simp at h3;omega
   obtain⟨g',zt,cur,r1,r2,r3,r4,r5,r6,r7,r8,r9⟩:=zJ hi h2 cy;rw[r2]at p1;cases p1
   have ji:=Dh hi h2;have gD:∀q,q<len*k->o*k+q<cur.size:=λq hq=>by
    have h1:(o+len)*k<=cap*k:=Nat.mul_le_mul_right k (by have:=lZ.ol;omega);rw[Nat.add_mul]at h1;rw[r7];omega
   have lq:∀i,i<len->ys[i]?=cs[o+i]?:=λi de=>by rw[h4,List.getElem?_take_of_lt de,List.getElem?_drop]
   have jb:∀q,q<len*k->(cur.getD (o*k+q) undef).oneCell'=true:=λq hq=>by
    have NA:q / k<len:=Nat.div_lt_of_lt_mul (by rw[Nat.mul_comm];exact hq);have hkj:q%k<k:=Nat.mod_lt _ gQ;obtain⟨d,gj⟩:∃d,cs[o+q / k]?=some d:=⟨_,apN (by have:=lZ.ol;omega)⟩;have F4:=ji _ (apW gj);obtain⟨x,hx⟩:∃x,d[q%k]?=some x:=⟨_,apN (by rw[F4];exact hkj)⟩;have e1:(o+q / k)*k+q%k=o*k+q:=by
     rw[Nat.add_mul];have:=Nat.div_add_mod q k;rw[Nat.mul_comm]at this;omega
    have hu':cur[(o+q / k)*k+q%k]?=some (cur.getD (o*k+q) undef):=by
     rw[e1];simp [Array.getD,gD q hq]
    refine(r9 _ _ _ _ _ gj hx hu').kE ?_;have hmem:d∈ys:=apW ((lq _ NA).trans gj);have:=h5 _ hmem;rw[ap9]at this;exact this _ (apW hx)
   refine⟨(List.range (len*k)).map λq=>cur.getD (o*k+q) undef,⟨by rw[xk];simp,λc hc=>ji c ?_,λu hu=> ?_,λi j c x u hc hx hu=> ?_⟩,?_⟩
   ·rw[h4]at hc;exact List.mem_of_mem_drop (List.mem_of_mem_take hc)
   ·obtain⟨q,hq,rfl⟩:=List.mem_map.1 hu;exact jb q (List.mem_range.1 hq)
   ·have ko:i<len:=by rw[<-xk];exact(apJ.1 hc).1
    rw[lq i ko]at hc;have KE:j<k:=by rw[<-ji c (apW hc)];exact(apJ.1 hx).1
    have aH:i*k+j<len*k:=nf ko KE;rw[apQ,List.getElem?_range aH]at hu;simp only[Option.map_some,Option.some.injEq]at hu;refine r9 (o+i) j c x u hc hx ?_;rw[<-hu,show(o+i)*k+j=o*k+(i*k+j) by rw[Nat.add_mul];omega];simp [Array.getD,gD _ aH]
   ·rw[xk];refine Src.ofSlice w hT _ len c _ (by simp) (λj u hu=> ?_) (λu hu=> ?_)
    ·rw[lC,cell_of_row w g _ cur e (0,0) r4];rw[apQ]at hu;by_cases hj:j<len*k
     ·rw[List.getElem?_range hj]at hu;simp only[Option.map_some,Option.some.injEq]at hu;rw[<-hu];simp [Array.getD,gD _ hj]
     ·rw[aqf (by simp;omega)]at hu;cases hu
    ·obtain⟨q,hq,rfl⟩:=List.mem_map.1 hu;exact jb q (List.mem_range.1 hq)
theorem xV.aT{G':Gh}{w':aqC}{k:Nat}{ys:aqx (aqx AV)}{us:aqx aqB}(h:xV G w k ys us)(hE:bI G.N G w G' w')(hN:G.N<=G'.N):xV G' w' k ys us:=
 ⟨h.len,h.wid,h.one,λi j c x u h1 h2 h3=>(h.rel i j c x u h1 h2 h3).aT hE hN⟩
theorem ao9{α:Type}{k:Nat}(l:aqx α)(us:aqx α)(m i j:Nat)(hl:l.length=m*k)(hj:j<k):(l++us)[i*k+j]?=if i<m then l[i*k+j]? else us[(i-m)*k+j]?:=by
 by_cases h:i<m
 ·rw[if_pos h,apT (by rw[hl];exact nf h hj)]
 ·have h1:m*k<=i*k:=Nat.mul_le_mul_right k (by omega);rw[if_neg h,apZ (by rw[hl];omega),hl,Nat.sub_mul,show i*k+j-m*k=i*k-m*k+j by omega]
theorem R6{e k cap:Nat}{cs:aqx (aqx AV)}{cur:Array aqB}(hi:bD G w h)(h1:cs.length<=cap)(h2:cap<=maxLen)(h3:cur.size=cap*k)(ji:∀c∈cs,c.length=k)(w0:aqC)(ri:w0.heap=w.heap/\w0.os=w.os/\w0.tape=w.tape/\w0.output=w.output)
 (BE:∀(i j:Nat)(c:aqx AV)(x:AV)(u:aqB),cs[i]?=some c->c[j]?=some x->cur[i*k+j]?=some u->aD G w u x):
 ∃G',bI G.N G w G' (w0.alloc (.cells cur e))/\G.N<=G'.N/\bD G' (w0.alloc (.cells cur e)) (h++[.vec e k cs])/\∀len,len<=cs.length->aD G' (w0.alloc (.cells cur e)) (.slice (some ⟨w.heap.size,0,none⟩) len cap) (.vec h.length 0 len cs.length k):=by
 have eY:w0.heap.size=w.heap.size:=by rw[ri.1]
 have fq:(w0.alloc (.cells cur e)).heap[w.heap.size]?=some (.cells cur e (0,0)):=by rw[<-eY];exact World.alloc_heap_new w0 _
 have hold:∀b,b<w.heap.size->(w0.alloc (.cells cur e)).heap[b]?=w.heap[b]?:=λb hb=>by rw[Below.heap_alloc w0 _ b (by rw[eY];exact hb),ri.1]
 have hw:(∀b,b<w.heap.size->(w0.alloc (.cells cur e)).heap[b]?=w.heap[b]?)/\w.heap.size<=(w0.alloc (.cells cur e)).heap.size/\(w0.alloc (.cells cur e)).os=w.os/\(w0.alloc (.cells cur e)).tape=w.tape/\(w0.alloc (.cells cur e)).output=w.output:=
  ⟨hold,by simp [eY],ri.2.1,ri.2.2.1,ri.2.2.2⟩
 obtain⟨sv,mB⟩:∃sv,sv=Value.slice (some ⟨w.heap.size,0,none⟩) cs.length cap:=⟨_,rfl⟩;obtain⟨DI,_⟩:bI G.N G w (G.dZ sv cs.length (some w.heap.size)) (w0.alloc (.cells cur e))/\True:=by
  refine⟨⟨hw.2.1,λ_ _ h=>h,λb o hs=>World.cell?_of_block (hw.1 b (hi.S b o hs)),λ_ _=>rfl,λn hn=> .inl ⟨by simp [Gh.dZ,Nat.ne_of_lt hn],by simp [Gh.dZ,Nat.ne_of_lt hn]⟩,gp rfl,λb hb=>hw.1 b (hi.z b hb),hw.2.2.1,hw.2.2.2.1,hw.2.2.2.2,λ_ _ h=> .inl h⟩,trivial⟩
 obtain⟨hE,hI⟩:=NT (w':=w0.alloc (.cells cur e)) hi (.vec e k cs) (λ_ _=>rfl) sv cs.length (some w.heap.size) hw (λg hg=>by cases hg;exact apU _) (by
  refine⟨by simp [Gh.dZ],ap1 h1 h2,ji, .inr ⟨w.heap.size,cap,cur,by simp [Gh.dZ],by simp [Gh.dZ,mB],λhz=>aqn _ (hi.z _ hz),fq,h1,h2,h3,λo hs=>aqn _ (hi.S _ _ hs),λi j c x u hc hx hu=>(BE i j c x u hc hx hu).aT DI (Nat.le_succ _)⟩⟩)
 refine⟨_,hE,Nat.le_succ _,hI,λlen hlen=> ?_⟩;rw[hi.len];refine .vec G.N 0 len cs.length k (by simp [Gh.dZ]) ⟨_,_,_,rfl⟩ (by simp [Gh.dZ]) λ_=>⟨by omega,⟨_,_,rfl,ap1 hlen h1,h2,h1,λ_=>⟨w.heap.size,cap,by simp [Gh.dZ,mB],by simp,by simp⟩⟩,λ_ e=>by subst e;simp [Gh.dZ,mB]⟩
theorem ajL{T e k len m da:Nat}{i:TypeInfo}{z:aqB}{kl kc:IntKind}{l c:Int}(hi:bD G w h)(hT:P.underlying T=some (.slice e))(lf:P.info? e=some i)(hz:i.zero=some z)(nZ:i.size=k)(xX:i.bytes=da)(kr:z.cells.toList.length=k)(gQ:0<k)
 (h0:0<=l) (lD:l<=c) (hl:l.toNat=len) (hc:c.toNat=m) (hm:m<=maxLen) (hb:da*m<=281474976710656):
 ∃u w' G',(Instr.makeSlice T (.int kl l) (.int kc c)).run P w= .ok u w'/\bI G.N G w G' w'/\G.N<=G'.N/\bD G' w' (h++[.vec e k (List.replicate m (z.cells.toList.map λu=> .d (.v u)))])/\aD G' w' u (.vec h.length 0 len m k):=by
 subst nZ;subst xX;have fB:(i.bytes:Int)*c<=281474976710656:=by
  have:((i.bytes*m:Nat):Int)<=281474976710656:=by omega
  rw[Int.natCast_mul,<-hc,Int.toNat_of_nonneg (by omega)]at this;exact this
 have Rb:c<=9223372036854775807:=by have h:=hm;simp [maxLen]at h;omega
 have dp:=run_make (P:=P) w T e i z hT lf hz kl kc l c h0 lD fB Rb;rw[hl,hc]at dp;have gn:(List.replicate m (z.cells.toList.map λu=>AV.d (.v u))).length=m:=aqj;obtain⟨G',g1,g2,g3,g4⟩:=R6 (e:=e) (k:=i.size) (cap:=m) (cs:=List.replicate m (z.cells.toList.map λu=>AV.d (.v u))) (cur:=madeCells z.cells (m*i.size)) hi (by rw[gn];exact apU _) hm (size_madeCells _ _) (λc hc=>by
  rw[List.eq_of_mem_replicate hc,apO];exact kr) w ⟨rfl,rfl,rfl,rfl⟩ (λa b c x u hc hx hu=>by
  have:=List.eq_of_mem_replicate (apW hc);subst this;rw[apQ]at hx;cases hq:z.cells.toList[b]? with
  |none=>rw[hq]at hx;cases hx
  |some y=>
   rw[hq]at hx;cases hx
   have jl:b<i.size:=by rw[<-kr];exact(apJ.1 hq).1
   have NV:a<m:=by have:=(apJ.1 hc).1;rwa [gn]at this
   unfold madeCells at hu;have aH:a*i.size+b<m*i.size:=nf NV jl;rw[Array.getElem?_map,Array.getElem?_range,if_pos aH]at hu;simp only[Option.map_some,Option.some.injEq]at hu;have jq:z.cells.size=i.size:=by rw[<-aqg];exact kr
   rw[jq,(HR (i:=a) jl).2]at hu;have tR:z.cells[b]?=some y:=by rw[<-ap6];exact hq
   rw[getElem!_pos z.cells b (by rw[jq];exact jl)]at hu;rw[ap5 (by rw[jq];exact jl)]at tR;cases tR
   subst hu;exact .d (.v _))
 rw[gn]at g4;refine⟨_,_,G',dp,g1,g2,g3,g4 len ?_⟩;rw[<-hl,<-hc];omega
theorem Yq{T tx ty e k da n o len L:Nat}{i:TypeInfo}{z:aqB}{u v:aqB}{cs ys:aqx (aqx AV)}{us:aqx aqB}(hi:bD G w h)(hT:P.underlying T=some (.slice e))(lf:P.info? e=some i)(hz:i.zero=some z)(nZ:i.size=k)(xX:i.bytes=da)(kr:z.cells.size=k)(gQ:0<k)
 (hn:h[n]?=some (.vec e k cs)) (hL:cs.length=L) (hu:aD G w u (.vec n o len L k)) (hr:xV G w k ys us) (hs:Src P k tx v ys.length us w)
 {L':Nat} {bP:aqx (aqx AV)} (qT:(o+len+ys.length<=L/\L'=L/\bP=cs.take (o+len)++ys++cs.drop (o+len+ys.length))\/(o=0/\len=L/\L'=L+ys.length/\bP=cs++ys/\L'<=maxLen/\L'*da<=140737488355328)):
 ∃r w' G',(Builtin.append_ #[T,tx] ty #[u,v]).run P w= .ok r w'/\bI G.N G w G' w'/\G.N<=G'.N/\bD G' w' (h.set n (.vec e k bP))/\aD G' w' r (.vec n o (len+ys.length) L' k):=by
 subst nZ;subst xX;have o0:=hi.lt hn;have ji:=Dh hi hn;have lZ:=hu.oY hi hn hL;have vQ:=hi.cD n _ hn;have apG:=lZ;obtain⟨Bh,⟨A,c,rfl,c1,c2,c3,c4⟩,call⟩:=lZ;by_cases hy:ys.length=0
 ·have lq:ys=[]:=List.eq_nil_of_length_eq_zero hy;subst lq;have mq:us=[]:=List.eq_nil_of_length_eq_zero (by rw[hr.len];simp);subst mq;have dp:=run_append_nothing (P:=P) w T tx ty e i hT lf A len c c1 v hs;have e1:bP=cs:=by
   rcases qT with⟨_,_,e⟩|⟨_,_,_,e,_⟩
   ·rw[e];simp
   ·rw[e];simp
  have e2:L'=L:=by
   rcases qT with⟨_,e,_⟩|⟨_,_,e,_⟩
   ·exact e
   ·rw[e];simp
  subst e1;subst e2;refine⟨_,w,G,dp,bI.refl _ _ _,apU _,?_,by simpa using hu⟩;have:h.set n (.vec e i.size bP)=h:=by
   refine List.ext_getElem? λm=> ?_;by_cases em:m=n
   ·subst em;rw[aqc (apJ.1 hn).1,hn]
   ·rw[aqh (Ne.symm em)]
  rw[this];exact hi
 ·have hy0:0<ys.length:=Nat.pos_of_ne_zero hy;have room:len+ys.length<=c->∀g cap cur,G.ow n=some g->G.sg n= .slice (some ⟨g,0,none⟩) cs.length cap->¬G.Z g->w.heap[g]?=some (.cells cur e (0,0))->cs.length<=cap->cap<=maxLen->cur.size=cap*i.size->(∀o,¬G.S g o)->
      (∀(a b:Nat)(d:aqx AV)(x:AV)(q:aqB),cs[a]?=some d->d[b]?=some x->cur[a*i.size+b]?=some q->aD G w q x)->A=some ⟨g,o*i.size,none⟩->o+c=cap->
      ∃r w' G',(Builtin.append_ #[T,tx] ty #[.slice A len c,v]).run P w= .ok r w'/\bI G.N G w G' w'/\G.N<=G'.N/\bD G' w' (h.set n (.vec e i.size bP))/\aD G' w' r (.vec n o (len+ys.length) L' i.size):=by
   intro oy g cap cur r1 r2 r3 r4 r5 r6 r7 r8 r9 rA rc;have mh:(o+len)*i.size+us.length<=cur.size:=by
    rw[hr.len,r7,<-Nat.add_mul];exact Nat.mul_le_mul_right _ (by omega)
   have zQ:∀j,j<us.length->(w.cell? ⟨g,o*i.size+len*i.size+j,none⟩).isSome=true:=λj hj=>by
    rw[cell_of_row w g _ cur e (0,0) r4,ap5 (by rw[Nat.add_mul]at mh;omega)];rfl
   have dp:=run_append_room_src (P:=P) w T tx ty e i hT lf g (o*i.size) len c v ys.length us hs oy zQ (λj hj=>by unfold World.frozen?;rw[r4];simp);have l0:=run_storeCells_at P g (o*i.size+len*i.size) e us 0 cur w r4 (by rw[Nat.add_mul]at mh;simpa using mh) hr.one;have xW:=run_storeCells_cells (P:=P) g (o*i.size+len*i.size) us 0 w (by simpa using zQ) (λj hj=>by unfold World.frozen?;rw[r4];simp) hr.one;simp only[Nat.add_zero]at l0 xW;rw[l0]at xW;injection xW with _ e2;rw[<-e2,<-Nat.add_mul]at dp;rw[rA];have fq:∀(a b:Nat)(d:aqx AV)(x:AV)(q:aqB),bP[a]?=some d->d[b]?=some x->(if(o+len)*i.size<=a*i.size+b/\a*i.size+b<(o+len)*i.size+us.length then us[a*i.size+b-(o+len)*i.size]? else cur[a*i.size+b]?)=some q->aD G w q x:=by
    intro a b d x q hd hx hq;have Rz:d.length=i.size:=by
     have hm:=apW hd;rcases qT with⟨_,_,e⟩|⟨_,_,_,e,_⟩
     ·rw[e]at hm;rcases aql.1 hm with hm|hm
      ·rcases aql.1 hm with hm|hm
       ·exact ji d (List.mem_of_mem_take hm)
       ·exact hr.wid d hm
      ·exact ji d (List.mem_of_mem_drop hm)
     ·rw[e]at hm;rcases aql.1 hm with hm|hm
      ·exact ji d hm
      ·exact hr.wid d hm
    have jl:b<i.size:=by rw[<-Rz];exact(apJ.1 hx).1
    have He:(a<o+len/\cs[a]?=some d)\/(o+len<=a/\a<o+len+ys.length/\ys[a-(o+len)]?=some d)\/(o+len+ys.length<=a/\cs[a]?=some d):=by
     rcases qT with⟨hf,_,e⟩|⟨e0,e1,_,e,_⟩
     ·rw[e]at hd;have Q9:(cs.take (o+len)).length=o+len:=by rw[List.length_take];omega
      by_cases h1:a<o+len
      ·rw[ap0,apT (by rw[Q9];exact h1),List.getElem?_take_of_lt h1]at hd;exact .inl ⟨h1,hd⟩
      ·rw[ap0,apZ (by rw[Q9];omega),Q9]at hd;by_cases h2:a-(o+len)<ys.length
       ·rw[apT h2]at hd;exact .inr (.inl ⟨by omega,by omega,hd⟩)
       ·rw[apZ (by omega),List.getElem?_drop,show o+len+ys.length+(a-(o+len)-ys.length)=a by omega]at hd;exact .inr (.inr ⟨by omega,hd⟩)
     ·rw[e]at hd;by_cases h1:a<cs.length
      ·rw[apT h1]at hd;exact .inl ⟨by omega,hd⟩
      ·rw[apZ (by omega)]at hd;have:=(apJ.1 hd).1;exact .inr (.inl ⟨by omega,by omega,by rw[show a-(o+len)=a-cs.length by omega];exact hd⟩)
    rcases He with⟨h1,h2⟩|⟨h1,h2,h3⟩|⟨h1,h2⟩
    ·rw[if_neg (by have:=nf h1 jl;omega)]at hq;exact r9 a b d x q h2 hx hq
    ·have hle:(o+len)*i.size<=a*i.size:=Nat.mul_le_mul_right _ h1;have aH:a*i.size+b<(o+len+ys.length)*i.size:=nf h2 jl;rw[Nat.add_mul (o+len)]at aH;rw[if_pos ⟨by omega,by rw[hr.len];exact aH⟩]at hq;refine hr.rel (a-(o+len)) b d x q h3 hx ?_;rw[Nat.sub_mul,show a*i.size-(o+len)*i.size+b=a*i.size+b-(o+len)*i.size by omega];exact hq
    ·have hle:(o+len+ys.length)*i.size<=a*i.size:=Nat.mul_le_mul_right _ h1;rw[Nat.add_mul (o+len)]at hle;rw[if_neg (by rw[hr.len];omega)]at hq;exact r9 a b d x q h2 hx hq
   have XE:∀d∈bP,d.length=i.size:=λd hm=>by
    rcases qT with⟨_,_,e⟩|⟨_,_,_,e,_⟩
    ·rw[e]at hm;rcases aql.1 hm with hm|hm
     ·rcases aql.1 hm with hm|hm
      ·exact ji d (List.mem_of_mem_take hm)
      ·exact hr.wid d hm
     ·exact ji d (List.mem_of_mem_drop hm)
    ·rw[e]at hm;rcases aql.1 hm with hm|hm
     ·exact ji d hm
     ·exact hr.wid d hm
   rcases qT with⟨hf,eL,ec⟩|⟨e0,e1,eL,ec,kM,pc⟩
   ·have gn:bP.length=cs.length:=by rw[ec];simp;omega
    obtain⟨G',k1,k2,k3,k4,k5⟩:=abN (us:=us) (off:=(o+len)*i.size) (bP:=bP) hi hn gQ r1 r2 r3 r4 r5 r6 r7 r8 mh gn XE fq;refine⟨_,_,G',dp,k1,by rw[k2];exact apU _,k3,?_⟩;refine .vec n o (len+ys.length) L' i.size (by rw[k2];exact o0) ⟨_,_,_,rfl⟩ (by rw[k5,eL,vQ.1,hL];exact apU _) λ_=> ?_;rw[k4];refine⟨by omega,⟨_,_,rfl,oy,c2,by omega,λho=> ?_⟩,λho hl=> ?_⟩
    ·rw[eL]at ho ⊢;obtain⟨g2,Ws,q1,q2,q3⟩:=c4 ho;exact⟨g2,Ws,q1,by rw[<-q2,rA],q3⟩
    ·subst ho;rw[r2,hL,<-eL,<-hl];simp at rc;subst rc;simp
   ·subst e0;subst e1;simp only[ap3,Nat.zero_mul]at*;subst rc;obtain⟨w',eQ⟩:∃w',w'=w.setRow g (cur.toList.take (len*i.size)++us++cur.toList.drop (len*i.size+us.length)).toArray:=⟨_,rfl⟩;rw[<-eQ]at dp;have iQ:∀b,b≠g->w'.heap[b]?=w.heap[b]?:=λb hb=>by rw[eQ];exact setRow_other w g b _ hb
    have mv:w'.heap[g]?=some (.cells (cur.toList.take (len*i.size)++us++cur.toList.drop (len*i.size+us.length)).toArray e (0,0)):=by rw[eQ];exact setRow_heap w g cur _ e _ r4
    have eY:w'.heap.size=w.heap.size:=by rw[eQ];exact MX w g _
    obtain⟨sv,mB⟩:∃sv,sv=Value.slice (some ⟨g,0,none⟩) L' c:=⟨_,rfl⟩;have gn:bP.length=L':=by rw[ec,apK,hL,eL]
    have me:G.fl n=len:=by rw[vQ.1,hL]
    have hE:bI G.N G w (G.grow n G.S sv L' (some g)) w':=⟨by rw[eY];exact apU _,λ_ _ h=>h,λb q hs=>World.cell?_of_block (iQ b (λe=>r8 q (e▸hs))),λ_ _=>rfl,λm _=>by
        by_cases em:m=n
        ·right;subst em;simp only[Gh.grow,if_true,me];omega
        ·left;exact⟨by simp [Gh.grow,em],by simp [Gh.grow,em]⟩,gp rfl,λb hb=>iQ b (λe=>r3 (e▸hb)),by rw[eQ];rfl,by rw[eQ];rfl,by rw[eQ];rfl,λb q hs=> .inl hs⟩
    refine⟨_,w',_,dp,hE,apU _,JC hi hn (λ_=>rfl) (λ_=>rfl) _ _ _ _ hE (λg' qz=>by cases qz;exact⟨.inr r1,by rw[eY];exact(apY.1 r4).1⟩) (λb q hs=> .inl hs) (λb _ fB=>iQ b (λe=>fB (by rw[e]))) ?_,?_⟩
    ·refine⟨by simp [Gh.grow,gn],by rw[gn];exact kM,XE, .inr ⟨g,c,_,by simp [Gh.grow],by simp [Gh.grow,mB,gn],r3,mv,by rw[gn];omega,r6,by rw[Xh _ _ _ mh];exact r7,r8,λa b d x q hd hx hq=> ?_⟩⟩;rw[abz _ _ _ _ mh]at hq;exact(fq a b d x q hd hx hq).aT hE (apU _)
    ·refine .vec n 0 (len+ys.length) L' i.size o0 ⟨_,_,_,rfl⟩ (by simp [Gh.grow]) λ_=>⟨by omega,⟨_,_,rfl,oy,c2,by omega,λ_=>⟨g,c,by simp [Gh.grow,mB],by simp,by simp⟩⟩,λ_ e=> ?_⟩;simp [Gh.grow,mB,eL]
  rcases vQ.2.2.2 with⟨b1,b2,A',b3⟩|⟨g,cap,cur,r1,r2,r3,r4,r5,r6,r7,r8,r9⟩
  ·
   subst b2;simp at hL;subst hL;have ho:o=0:=by omega
   have xm:len=0:=by omega
   subst ho;subst xm;have:=call rfl rfl;rw[b3]at this;injection this with q1 _ q2;subst q2;rcases qT with⟨hf,_,_⟩|⟨_,_,eL,ec,kM,pc⟩
   ·omega
   ·simp only[ap3,List.nil_append]at eL ec;subst ec;rw[eL]at kM pc;have Rr:bP.length<=9223372036854775807:=by simp only[maxLen]at kM;omega
    have hold:(Builtin.firstCells i.size 0 (.slice A 0 0)).run P w.drew= .ok ([]:aqx aqB).toArray w.drew:=by
     cases A with
     |none=>exact run_firstCells_none _ _ _ _ _
     |some a=>exact run_firstCells_some _ _ _ _ _ _ [] (by simp) (λj u hu=>by simp at hu)
    have dp:=run_append_grow_src (P:=P) w T tx ty e i z hT lf hz A 0 0 [] hold v bP.length us hs (by omega) (by omega) (growslice_fits (by omega) (by simpa using pc));simp only[ap3,List.nil_append]at dp;obtain⟨cap,j8⟩:∃cap,cap=grownCap w bP.length 0 e:=⟨_,rfl⟩;have jU:bP.length<=cap:=by rw[j8];exact grownCap_ge _ _ _ _
    have hle:cap<=maxLen:=by rw[j8];exact grownCap_le_maxLen _ _ _ _ kM
    rw[<-j8]at dp;obtain⟨cur,kx⟩:∃cur,cur=us.toArray++Builtin.zeroCells z.cells (cap-bP.length):=⟨_,rfl⟩;rw[<-kx]at dp;have gj:cur.size=cap*i.size:=by
      have:=size_zeroCells z.cells (cap-bP.length);rw[kx,Array.size_append,this,List.size_toArray,hr.len,kr,<-Nat.add_mul]
      congr 1
      omega
    have fq:(w.drew.alloc (.cells cur e)).heap[w.heap.size]?=some (.cells cur e (0,0)):=World.alloc_heap_new w.drew _;have yE:∀b,b<w.heap.size->(w.drew.alloc (.cells cur e)).heap[b]?=w.heap[b]?:=λb hb=>Below.heap_alloc w.drew _ b hb;obtain⟨sv,mB⟩:∃sv,sv=Value.slice (some ⟨w.heap.size,0,none⟩) L' cap:=⟨_,rfl⟩;have me:G.fl n=0:=by rw[vQ.1];rfl
    have hE:bI G.N G w (G.grow n G.S sv L' (some w.heap.size)) (w.drew.alloc (.cells cur e)):=⟨by simp,λ_ _ h=>h,λb q hs=>World.cell?_of_block (yE b (hi.S b q hs)),λ_ _=>rfl,λm _=>by
        by_cases em:m=n
        ·right;subst em;simp only[Gh.grow,if_true,me];omega
        ·left;exact⟨by simp [Gh.grow,em],by simp [Gh.grow,em]⟩,gp rfl,λb hb=>yE b (hi.z b hb),rfl,rfl,rfl,λb q hs=> .inl hs⟩
    refine⟨_,_,_,dp,hE,apU _,JC hi hn (λ_=>rfl) (λ_=>rfl) _ _ _ _ hE (λg' qz=>by cases qz;exact⟨.inl rfl,by simp⟩) (λb q hs=> .inl hs) (λb hb _=>yE b hb) ?_,?_⟩
    ·refine⟨by simp [Gh.grow,eL],kM,hr.wid, .inr ⟨w.heap.size,cap,cur,by simp [Gh.grow],by simp [Gh.grow,mB,eL],λhz=>aqn _ (hi.z _ hz),fq,jU,hle,gj,λq hs=>aqn _ (hi.S _ _ hs),λa b d x q hd hx hq=> ?_⟩⟩;have jl:b<i.size:=by rw[<-hr.wid d (apW hd)];exact(apJ.1 hx).1
     have aH:a*i.size+b<us.length:=by rw[hr.len];exact nf (apJ.1 hd).1 jl
     rw[kx,Array.getElem?_append_left (by simpa using aH),List.getElem?_toArray]at hq;exact(hr.rel a b d x q hd hx hq).aT hE (apU _)
    ·rw[ap3];refine .vec n 0 bP.length L' i.size o0 ⟨_,_,_,rfl⟩ (by simp [Gh.grow]) λ_=>⟨by omega,⟨_,_,rfl,jU,hle,by omega,λ_=>⟨w.heap.size,cap,by simp [Gh.grow,mB],by simp,by simp⟩⟩,λ_ e=> ?_⟩;simp [Gh.grow,mB,eL]
  ·
   rcases qT with⟨hf,eL,ec⟩|⟨e0,e1,eL,ec,kM,pc⟩
   ·obtain⟨g2,Ws,q1,q2,q3⟩:=c4 (by omega);rw[r2]at q1;injection q1 with q4 _ q5;cases q4
    subst q5;exact room (by omega) g cap cur r1 r2 r3 r4 r5 r6 r7 r8 r9 q2 q3
   ·have:=call e0 e1;rw[r2]at this;injection this with q2 _ q3;by_cases oy:len+ys.length<=c
    ·exact room oy g cap cur r1 r2 r3 r4 r5 r6 r7 r8 r9 (by rw[q2,e0];simp) (by omega)
    ·subst e0;subst q2;subst q3;rw[eL]at kM pc;have Rr:L+ys.length<=9223372036854775807:=by simp only[maxLen]at kM;omega
     have Lq:(cur.toList.take (len*i.size)).length=len*i.size:=by
      rw[List.length_take,aqg,r7];exact Nat.min_eq_left (Nat.mul_le_mul_right _ c1)
     have hold:(Builtin.firstCells i.size len (.slice (some ⟨g,0,none⟩) len c)).run P w.drew= .ok (cur.toList.take (len*i.size)).toArray w.drew:=
      run_firstCells_some _ _ _ _ _ _ _ Lq (λj q hq=>by
       rw[lC,ap3];show w.cell? ⟨g,j,none⟩=some q;rw[cell_of_row w g _ cur e (0,0) r4,<-ap6];have AF:=(apJ.1 hq).1;rw[Lq]at AF;rw[List.getElem?_take_of_lt AF]at hq;exact hq)
     have dp:=run_append_grow_src (P:=P) w T tx ty e i z hT lf hz (some ⟨g,0,none⟩) len c _ hold v ys.length us hs (by omega) (by omega) (growslice_fits (by omega) (by rw[e1];exact pc));obtain⟨cap,j8⟩:∃cap,cap=grownCap w (len+ys.length) c e:=⟨_,rfl⟩;have jU:len+ys.length<=cap:=by rw[j8];exact grownCap_ge _ _ _ _
     have hle:cap<=maxLen:=by rw[j8];exact grownCap_le_maxLen _ _ _ _ (by rw[e1];exact kM)
     rw[<-j8]at dp;obtain⟨uT,kx⟩:∃uT,uT=(cur.toList.take (len*i.size)++us).toArray++Builtin.zeroCells z.cells (cap-(len+ys.length)):=⟨_,rfl⟩;rw[<-kx]at dp;have Cn:(cur.toList.take (len*i.size)++us).length=(len+ys.length)*i.size:=by rw[apK,Lq,hr.len,<-Nat.add_mul]
     have gj:uT.size=cap*i.size:=by
      have:=size_zeroCells z.cells (cap-(len+ys.length));rw[kx,Array.size_append,this,List.size_toArray,Cn,kr,<-Nat.add_mul]
      congr 1
      omega
     have fq:(w.drew.alloc (.cells uT e)).heap[w.heap.size]?=some (.cells uT e (0,0)):=World.alloc_heap_new w.drew _;have yE:∀b,b<w.heap.size->(w.drew.alloc (.cells uT e)).heap[b]?=w.heap[b]?:=λb hb=>Below.heap_alloc w.drew _ b hb;obtain⟨sv,mB⟩:∃sv,sv=Value.slice (some ⟨w.heap.size,0,none⟩) L' cap:=⟨_,rfl⟩;have me:G.fl n=L:=by rw[vQ.1,hL]
     have gn:bP.length=L':=by rw[ec,apK,hL,eL]
     have hE:bI G.N G w (G.grow n G.S sv L' (some w.heap.size)) (w.drew.alloc (.cells uT e)):=⟨by simp,λ_ _ h=>h,λb q hs=>World.cell?_of_block (yE b (hi.S b q hs)),λ_ _=>rfl,λm _=>by
         by_cases em:m=n
         ·right;subst em;simp only[Gh.grow,if_true,me];omega
         ·left;exact⟨by simp [Gh.grow,em],by simp [Gh.grow,em]⟩,gp rfl,λb hb=>yE b (hi.z b hb),rfl,rfl,rfl,λb q hs=> .inl hs⟩
     refine⟨_,_,_,dp,hE,apU _,JC hi hn (λ_=>rfl) (λ_=>rfl) _ _ _ _ hE (λg' qz=>by cases qz;exact⟨.inl rfl,by simp⟩) (λb q hs=> .inl hs) (λb hb _=>yE b hb) ?_,?_⟩
     ·refine⟨by simp [Gh.grow,gn],by rw[gn,eL];exact kM,λd hd=> ?_, .inr ⟨w.heap.size,cap,uT,by simp [Gh.grow],by simp [Gh.grow,mB,gn],λhz=>aqn _ (hi.z _ hz),fq,by rw[gn];omega,hle,gj,λq hs=>aqn _ (hi.S _ _ hs),λa b d x q hd hx hq=> ?_⟩⟩
      ·rw[ec]at hd;rcases aql.1 hd with hd|hd
       ·exact ji d hd
       ·exact hr.wid d hd
      ·refine aD.aT hE (apU _) ?_;have Rz:d.length=i.size:=by
        have hm:=apW hd;rw[ec]at hm;rcases aql.1 hm with hm|hm
        ·exact ji d hm
        ·exact hr.wid d hm
       have jl:b<i.size:=by rw[<-Rz];exact(apJ.1 hx).1
       have hal:a<len+ys.length:=by
        have:=(apJ.1 hd).1;rw[gn,eL]at this;omega
       have aH:a*i.size+b<(cur.toList.take (len*i.size)++us).length:=by rw[Cn];exact nf hal jl
       rw[kx,Array.getElem?_append_left (by simpa using aH),List.getElem?_toArray,ao9 _ us len a b Lq jl]at hq;rw[ec]at hd;by_cases h1:a<len
       ·rw[if_pos h1,List.getElem?_take_of_lt (nf h1 jl),ap6]at hq;rw[apT (by omega)]at hd;exact r9 a b d x q hd hx hq
       ·rw[if_neg h1]at hq;rw[apZ (by omega)]at hd;exact hr.rel (a-len) b d x q (by rw[<-hd];congr 1;omega) hx hq
     ·refine .vec n 0 (len+ys.length) L' i.size o0 ⟨_,_,_,rfl⟩ (by simp [Gh.grow]) λ_=>⟨by omega,⟨_,_,rfl,jU,hle,by omega,λ_=>⟨w.heap.size,cap,by simp [Gh.grow,mB],by simp,by simp⟩⟩,λ_ e=> ?_⟩;simp [Gh.grow,mB,eL,e1]
theorem aaO{T tx ty e k da:Nat}{i:TypeInfo}{z:aqB}{A:aqz Addr}{v:aqB}{ys:aqx (aqx AV)}{us:aqx aqB}(hi:bD G w h)(hT:P.underlying T=some (.slice e))(lf:P.info? e=some i)(hz:i.zero=some z)(nZ:i.size=k)(xX:i.bytes=da)(kr:z.cells.size=k)(gQ:0<k)
 (hr:xV G w k ys us) (hs:Src P k tx v ys.length us w) (kM:ys.length<=maxLen) (pc:ys.length*da<=140737488355328):
 ∃r w' G',(Builtin.append_ #[T,tx] ty #[.slice A 0 0,v]).run P w= .ok r w'/\bI G.N G w G' w'/\G.N<=G'.N/\bD G' w' (h++[.vec e k ys])/\aD G' w' r (.vec h.length 0 ys.length ys.length k):=by
 subst nZ;subst xX;by_cases hy:ys.length=0
 ·have lq:ys=[]:=List.eq_nil_of_length_eq_zero hy;subst lq;have mq:us=[]:=List.eq_nil_of_length_eq_zero (by rw[hr.len];simp);subst mq;have dp:=run_append_nothing (P:=P) w T tx ty e i hT lf A 0 0 (apU _) v hs;obtain⟨hE,hI⟩:=NT (w':=w) hi (.vec e i.size []) (λ_ _=>rfl) (.slice A 0 0) 0 none ⟨λ_ _=>rfl,apU _,rfl,rfl,rfl⟩ (λg hg=>by cases hg) ⟨by simp [Gh.dZ],by simp,(λ_ h=>by cases h), .inl ⟨by simp [Gh.dZ],rfl,A,by simp [Gh.dZ]⟩⟩;refine⟨_,w,_,dp,hE,Nat.le_succ _,hI,?_⟩;rw[hi.len];exact .vec G.N 0 0 0 i.size (by simp [Gh.dZ]) ⟨_,_,_,rfl⟩ (by simp) λ_=>⟨by omega,⟨A,0,rfl,apU _,Nat.zero_le _,by omega,λh=>by omega⟩,λ_ _=>by simp [Gh.dZ]⟩
 ·have Rr:ys.length<=9223372036854775807:=by simp only[maxLen]at kM;omega
  have hold:(Builtin.firstCells i.size 0 (.slice A 0 0)).run P w.drew= .ok ([]:aqx aqB).toArray w.drew:=by
   cases A with
   |none=>exact run_firstCells_none _ _ _ _ _
   |some a=>exact run_firstCells_some _ _ _ _ _ _ [] (by simp) (λj u hu=>by simp at hu)
  have dp:=run_append_grow_src (P:=P) w T tx ty e i z hT lf hz A 0 0 [] hold v ys.length us hs (by omega) (by omega) (growslice_fits (by omega) (by simpa using pc));simp only[ap3,List.nil_append]at dp;obtain⟨cap,j8⟩:∃cap,cap=grownCap w ys.length 0 e:=⟨_,rfl⟩;have jU:ys.length<=cap:=by rw[j8];exact grownCap_ge _ _ _ _
  have hle:cap<=maxLen:=by rw[j8];exact grownCap_le_maxLen _ _ _ _ kM
  rw[<-j8]at dp;obtain⟨cur,kx⟩:∃cur,cur=us.toArray++Builtin.zeroCells z.cells (cap-ys.length):=⟨_,rfl⟩;rw[<-kx]at dp;have gj:cur.size=cap*i.size:=by
    have:=size_zeroCells z.cells (cap-ys.length);rw[kx,Array.size_append,this,List.size_toArray,hr.len,kr,<-Nat.add_mul]
    congr 1
    omega
  obtain⟨G',g1,g2,g3,g4⟩:=R6 (e:=e) (k:=i.size) (cap:=cap) (cs:=ys) (cur:=cur) hi jU hle gj hr.wid w.drew ⟨rfl,rfl,rfl,rfl⟩ (λa b d x q hd hx hq=>by
   have jl:b<i.size:=by rw[<-hr.wid d (apW hd)];exact(apJ.1 hx).1
   have aH:a*i.size+b<us.length:=by rw[hr.len];exact nf (apJ.1 hd).1 jl
   rw[kx,Array.getElem?_append_left (by simpa using aH),List.getElem?_toArray]at hq;exact hr.rel a b d x q hd hx hq)
  exact⟨_,_,G',dp,g1,g2,g3,g4 _ (apU _)⟩
end
theorem RN:∀(cs:aqx AV)(l:aqx fp),AV.x9 cs=some l->cs.length=l.length/\∀(i:Nat)(x:AV)(c:fp),cs[i]?=some x->l[i]?=some c->x.cap=some c
 |[],l,h=>by
  unfold AV.x9 at h;cases h;exact⟨rfl,λi x c hx=>by simp at hx⟩
 |x::cs,l,h=>by
  unfold AV.x9 at h;split at h
  ·next c l' e1 e2=>
   cases h
   obtain⟨h1,h2⟩:=RN cs l' e2;refine⟨by simp [h1],λi y d hy hd=> ?_⟩
   match i with
   |0=>simp only[List.getElem?_cons_zero,Option.some.injEq]at hy hd;subst hy;subst hd;exact e1
   |i+1=>exact h2 i y d (by simpa using hy) (by simpa using hd)
  ·cases h
theorem aD.cap{G:Gh}{w:aqC}{u:aqB}{x:AV}(h:aD G w u x):∀c,x.cap=some c->ov G.S w u c:=by
 induction h with
 |d h=>intro c hc;simp only[AV.cap]at hc;cases hc;exact .d h
 |own n xs h hp hle hf=>intro c hc;simp only[AV.cap]at hc;cases hc;exact .d hp
 |full xs hp hf=>intro c hc;simp only[AV.cap]at hc;cases hc;exact .d hp
 |bJ xs i off b o u x hx hS hu=>
  intro c hc;simp only[AV.cap,hx]at hc;cases hc
  exact .bJ x off b o u hS hu
 |fn f vs cs hl h ih=>
  intro c hc;simp only[AV.cap]at hc;split at hc
  ·next l e=>
   cases hc
   obtain⟨h1,h2⟩:=RN cs l e;refine .fn f vs l (hl.trans h1) λi v d hv hd=> ?_;have aH:i<cs.length:=by rw[h1];exact(apJ.1 hd).1
   exact ih i v _ hv (apN aH) d (h2 i _ d (apN aH) hd)
  ·cases hc
 |hid h h1=>intro c hc;simp only[AV.cap]at hc;cases hc;exact h
 |agg=>intro c hc;simp [AV.cap]at hc
 |bz=>intro c hc;simp [AV.cap]at hc
 |ptr=>intro c hc;simp [AV.cap]at hc
 |row=>intro c hc;simp [AV.cap]at hc
 |mp=>intro c hc;simp [AV.cap]at hc
 |cY=>intro c hc;simp [AV.cap]at hc
 |vec=>intro c hc;simp [AV.cap]at hc
 |dq=>intro c hc;simp [AV.cap]at hc
 |dead=>intro c hc;simp [AV.cap]at hc
section
variable {P:aqA} {r:aqz Nat} {n N0:Nat} {G:Gh} {w:aqC} {a:Act} {s:St} {o:Oper} {K:St->Prop} {Q:Exit->Act->aqC->Prop}
theorem yG(hs:cG G w a s)(l:Array Operand):(l.map a.eval).size=(l.toList.map (ev s)).length/\∀(i:Nat)(u:aqB)(c:AV),(l.map a.eval)[i]?=some u->(l.toList.map (ev s))[i]?=some c->aD G w u c:=by
 refine⟨by simp,λi u c hu hc=> ?_⟩;rw[Array.getElem?_map]at hu;rw[apQ,ap6]at hc;cases hx:l[i]? with
 |none=>rw[hx]at hu;cases hu
 |some x=>rw[hx]at hu hc;cases hu;cases hc;exact hs.ev x
theorem aap(hs:cG G w a s)(l:Array (Nat×Operand)):(l.map λ(i,x)=>(i,a.eval x)).toList.length=(l.toList.map λp=>(p.1,ev s p.2)).length/\
 ∀(i:Nat)(p:Nat×AV)(q:Nat×aqB),(l.toList.map λp=>(p.1,ev s p.2))[i]?=some p->(l.map λ(i,x)=>(i,a.eval x)).toList[i]?=some q->q.1=p.1/\aD G w q.2 p.2:=by
 refine⟨by simp,λi p q hp hq=> ?_⟩;rw[ap6,Array.getElem?_map]at hq;rw[apQ,ap6]at hp;cases hx:l[i]? with
 |none=>rw[hx]at hp;cases hp
 |some x=>rw[hx]at hp hq;cases hp;cases hq;exact⟨rfl,hs.ev x.2⟩
theorem GP{x y:Operand}{T U:TypeId}(c:Call)(hc:c.callee= .builtin .append)(h1:c.args.toList=[x,y])(h2:c.argTypes.toList=[T,U])(ho:o.op= .call c):
 (execOp a.eval o).run P w=((Builtin.append_ #[T,U] o.type #[a.eval x,a.eval y]).run P w).andThen λv w'=> .ok (.value v) w':=by
 have e1:c.args= #[x,y]:=by rw[<-Array.toList_inj];exact h1
 have e2:c.argTypes= #[T,U]:=by rw[<-Array.toList_inj];exact h2
 unfold execOp;simp only[ho,resolve,hc,e1,e2,invoke,builtin,Sem.run_bind,Sem.run_pure,Result.andThen_ok,List.map_toArray,ap8,List.map_nil]
theorem TC{x:Operand}{T:TypeId}(c:Call)(hc:c.callee= .builtin .len)(h1:c.args.toList=[x])(h2:c.argTypes.toList=[T])(ho:o.op= .call c):
 (execOp a.eval o).run P w=((Builtin.len_ #[T] o.type #[a.eval x]).run P w).andThen λv w'=> .ok (.value v) w':=by
 have e1:c.args= #[x]:=by rw[<-Array.toList_inj];exact h1
 have e2:c.argTypes= #[T]:=by rw[<-Array.toList_inj];exact h2
 unfold execOp;simp only[ho,resolve,hc,e1,e2,invoke,builtin,Sem.run_bind,Sem.run_pure,Result.andThen_ok,List.map_toArray,ap8,List.map_nil]
theorem aoD(c:Call)(hc:c.callee= .builtin .max)(ho:o.op= .call c):
 (execOp a.eval o).run P w=((Builtin.max_ c.argTypes o.type (c.args.map a.eval)).run P w).andThen λv w'=> .ok (.value v) w':=by
 unfold execOp;simp only[ho,resolve,hc,invoke,builtin,Sem.run_bind,Sem.run_pure,Result.andThen_ok]
theorem af2(c:Call)(hc:c.callee= .builtin .min)(ho:o.op= .call c):
 (execOp a.eval o).run P w=((Builtin.min_ c.argTypes o.type (c.args.map a.eval)).run P w).andThen λv w'=> .ok (.value v) w':=by
 unfold execOp;simp only[ho,resolve,hc,invoke,builtin,Sem.run_bind,Sem.run_pure,Result.andThen_ok]
theorem W3{mx:Bool}{k k':IntKind}{z:Int}:∀(l:aqx AV)(vs:aqx aqB)(x:Int),vs.length=l.length->(∀(i:Nat)(u:aqB)(c:AV),vs[i]?=some u->l[i]?=some c->aD G w u c)->Mo mx k x l=some (k',z)->
 (vs.foldlM (if mx then Builtin.max2 else Builtin.min2) (.int k x)).run P w= .ok (.int k' z) w
 |[],[],x,_,_,h=>by cases h;simp
 |[],_::_,_,hl,_,_=>by simp at hl
 |_::_,[],_,hl,_,_=>by simp at hl
 |y::l,u::vs,x,hl,hr,h=>by
  unfold Mo at h;split at h
  ·next e=>cases e
  ·next k2 b l' e=>
   cases e
   have e1:=(hr 0 u _ rfl rfl).val;subst e1;have ih:=W3 l vs _ (by simpa using hl) (λi u c hu hc=>hr (i+1) u c (by simpa using hu) (by simpa using hc)) h;rw[List.foldlM_cons,Sem.run_bind];cases mx with
   |true=>simp only[if_true,cond_true]at ih ⊢;simp only[Builtin.max2,Sem.run_pure,Result.andThen_ok];exact ih
   |false=>simp only[Bool.false_eq_true,if_false,cond_false]at ih ⊢;simp only[Builtin.min2,Sem.run_pure,Result.andThen_ok];exact ih
  ·cases h
theorem U2{mx:Bool}{k:IntKind}{z:Int}{l:aqx AV}{vs:Array aqB}(hl:vs.size=l.length)(hr:∀(i:Nat)(u:aqB)(c:AV),vs[i]?=some u->l[i]?=some c->aD G w u c)(h:BR mx l=some (k,z)):
 ∃u us,vs.toList=u::us/\(us.foldlM (if mx then Builtin.max2 else Builtin.min2) u).run P w= .ok (.int k z) w:=by
 unfold BR at h;split at h
 ·next k2 x l'=>
  cases hv:vs.toList with
  |nil=>rw[<-aqg,hv]at hl;simp at hl
  |cons u us=>
   refine⟨u,us,rfl,?_⟩;have ql:∀(i:Nat)(v:aqB)(c:AV),(u::us)[i]?=some v->(AV.d (.v (.int k2 x))::l')[i]?=some c->aD G w v c:=λi v c h1 h2=>hr i v c (by rw[<-ap6,hv];exact h1) h2;have e1:=(ql 0 u _ rfl rfl).val;subst e1;refine W3 l' us x ?_ (λi v c h1 h2=>ql (i+1) v c (by simpa using h1) (by simpa using h2)) h;rw[<-aqg,hv]at hl;simpa using hl
 ·cases h
theorem NY{f:FuncId}(h:Et P f=true)(args:Array aqB)(w:aqC):(callFunc f args).run P w= .ok (.enter f args) w:=by
 unfold Et at h;cases hq:P.funcs[f]? with
 |none=>rw[hq]at h;simp at h
 |some fn=>
  rw[hq]at h;simp only[apL,Bool.not_eq_true']at h;obtain⟨h1,h2⟩:=h;have h3:fn.body≠none:=by intro e;rw[e]at h1;cases h1
  have h4:fn.name≠ "runtime.NumGoroutine" :=by simpa using h2
  simp [callFunc,hq,h4,h3]
theorem ag1(hs:cG G w a s)(cm:N0<=G.N){x:AV}{h':aqx an}{p:Sd}(hx:qd P o.op (ev s) s.h=some (x,h',p))(hp:p.ok)(hK:K ((s.wh h').put o.dst x)):o.wpIn (WF r) n P a w (iN N0 G w K) Q:=by
 have db:=hs.ev;unfold qd at hx;split at hx
 next T ho=>
  split at hx
  ·next q hT=>
   cases hx
   obtain⟨i1,i2,i3⟩:=aip hs.inv;exact mm (by rw[ho];simp) hs cm (v:= .map (some w.heap.size)) (by unfold execOp;simp [ho,run_makeMap,Result.andThen]) i1 (Nat.le_succ _) i2 i3 hK
  ·cases hx
 next T m i ok ho=>
  split at hx
  ·next k e hT=>
   split at hx
   ·next z hz=>
    split at hx
    ·next b s' hm hi=>
     split at hx
     ·next kv hn=>
      cases hc:ia P k&&z.oneCell' with
      |false=>rw[hc]at hx;cases hx
      |true=>
       rw[hc]at hx;cases hx
       rw[apL]at hc;obtain⟨v,r1,r2⟩:=amJ (ok:=ok) (s:=s') hs.inv hT hz hc.1 hn;have e1:=db m;rw[hm]at e1;have e2:=db i;rw[hi]at e2;have e2:=e2.val;have C4:a.eval m= .map (some (G.aI b)):=by
         generalize a.eval m=u at e1;cases e1 with|mp _ _=>rfl
       exact fy (by rw[ho];simp) hs cm (by unfold execOp;simp [ho,C4,e2,r1,Result.andThen]) r2 hK
     ·cases hx
    ·cases hx
   ·cases hx
  ·cases hx
 next T m i y ho=>
  split at hx
  ·next k e hT=>
   split at hx
   ·next b s' d hm hi hd=>
    split at hx
    ·next kv hn=>
     cases hc:ia P k with
     |false=>rw[hc]at hx;cases hx
     |true=>
      rw[hc]at hx;cases hx
      obtain⟨w',r1,r2,r3⟩:=anO (s:=s') hs.inv hT hc hn ((db y).OI hd) hp;have e1:=db m;rw[hm]at e1;have e2:=db i;rw[hi]at e2;have e2:=e2.val;have C4:a.eval m= .map (some (G.aI b)):=by
       generalize a.eval m=u at e1;cases e1 with|mp _ _=>rfl
      exact Sn (by rw[ho];simp) hs cm (by unfold execOp;simp [ho,C4,e2,r1,Result.andThen]) r2 (apU _) r3 hK
    ·cases hx
   ·cases hx
  ·cases hx
 next=>cases hx
theorem ZY(hs:cG G w a s)(cm:N0<=G.N)(h:qG P o K s):o.wpIn (WF r) n P a w (iN N0 G w K) Q:=by
 have db:=hs.ev;unfold qG cz at h;split at h
 next x ho=>exact fy (by rw[ho];simp) hs cm (v:=a.eval x) (by unfold execOp;rw[ho];rfl) (db x) h
 next x ho=>exact fy (by rw[ho];simp) hs cm (v:=a.eval x) (by unfold execOp;rw[ho];rfl) (db x) h
 next c x y ho=>
  split at h
  next t hc=>
   have hb:=db c;rw[hc]at hb;have e:=hb.bool;cases t with
   |true=>exact fy (by rw[ho];simp) hs cm (v:=a.eval x) (by unfold execOp;simp [ho,e,asBool]) (db x) (h.1 rfl)
   |false=>exact fy (by rw[ho];simp) hs cm (v:=a.eval y) (by unfold execOp;simp [ho,e,asBool]) (db y) (h.2 rfl)
  next=>exact h.elim
 next e ho=>
  split at h
  next z hz=>
   obtain⟨i1,i2⟩:=ZC hs.inv z.cells e (z.cells.toList.map λu=> .d (.v u)) (by simp) (λi u c hu hc=>by
    rw[apQ,ap6,hu]at hc;cases hc;exact .d (.v u))
   exact mm (by rw[ho];simp) hs cm (by unfold execOp;simp [ho,Instr.alloc,Gz hz,newVar,newRow]) (tu G w hs.inv.z hs.inv.S _) (Nat.le_succ _) i1 i2 h
  next=>exact h.elim
 next e x ho=>
  obtain⟨hb,hK⟩:=bS.1 h;have hr:=(db x).Uh hb;obtain⟨i1,i2⟩:=ZC hs.inv (a.eval x).cells e (ev s x).cells hr.len hr.rel;exact mm (by rw[ho];simp) hs cm (by unfold execOp;simp [ho,Instr.box,newVar,newRow]) (tu G w hs.inv.z hs.inv.S _) (Nat.le_succ _) i1 i2 hK
 next t x ho=>
  obtain⟨u,y,h1,h2,h3⟩:=aa3 hs.inv (db x) h;exact fy (by rw[ho];simp) hs cm (by unfold execOp;simp [ho,h1]) h2 h3
 next t x y ho=>
  unfold xJ at h;split at h
  next m off hm=>
   split at h
   next cs gj=>
    split at h
    case h_2=>exact h.elim
    rename_i k hk
    obtain⟨eW,h4⟩:=bS.1 h;simp only[apL,beq_iff_eq,dI]at eW;obtain⟨⟨rfl,h2⟩,h3⟩:=eW;have h1:=hk;have hx:=db x;rw[hm]at hx;obtain⟨w',r1,r2,r3⟩:=aoM (P:=P) hs.inv gj (db y) h2 h1 h3;have ex:a.eval x= .pointer (some ⟨G.aI m,off,none⟩):=by
     generalize a.eval x=u at hx;cases hx with
     |ptr=>rfl
    exact Sn (by rw[ho];simp) hs cm (by unfold execOp;simp [ho,Instr.storeAt,Instr.sureAddr,ex,r1]) r2 (apU _) r3 h4
   next=>exact h.elim
  next=>exact h.elim
 next x ho=>
  have hx:=db x;split at h
  next m off hm=>
   rw[hm]at hx;generalize ea:a.eval x=u at hx;cases hx with
   |ptr _ _ xG=>exact fy (by rw[ho];simp) hs cm (by unfold execOp;simp [ho,ea]) (.ptr m off xG) h
  next xs i off hm=>
   rw[hm]at hx;generalize ea:a.eval x=u at hx;have uV:=hx;cases hx with
   |bJ=>exact fy (by rw[ho];simp) hs cm (by unfold execOp;simp [ho,ea]) uV h
  next f cs hm=>
   rw[hm]at hx;generalize ea:a.eval x=u at hx;have uV:=hx;cases hx with
   |fn=>exact fy (by rw[ho];simp) hs cm (by unfold execOp;simp [ho,ea]) uV h
  next=>exact h.elim
 next T x f ho=>
  split at h
  next fo k g hT=>
   have hx:=db x;split at h
   next m off hm=>
    rw[hm]at hx;generalize ea:a.eval x=u at hx;cases hx with
    |ptr _ _ xG=>exact fy (by rw[ho];simp) hs cm (by unfold execOp;simp [ho,ea,RP hT]) (.ptr m (off+fo) xG) h
   next xs i off hm=>
    rw[hm]at hx;generalize ea:a.eval x=u at hx;cases hx with
    |bJ _ _ _ b oo us c hx hS hu=>exact fy (by rw[ho];simp) hs cm (by unfold execOp;simp [ho,ea,RP hT];rfl) (by rw[Nat.add_assoc];exact .bJ xs i (off+fo) b oo us c hx hS hu) h
   next=>exact h.elim
  next=>exact h.elim
 next T x f ho=>
  obtain⟨u,y,h1,h2,h3⟩:=akT (db x) h;exact fy (by rw[ho];simp) hs cm (by unfold execOp;simp [ho,h1]) h2 h3
 next T x i ho=>
  obtain⟨u,y,h1,h2,h3⟩:=anc (db x) (db i) h;exact fy (by rw[ho];simp) hs cm (by unfold execOp;simp [ho,h1]) h2 h3
 next T x i ho=>
  split at h
  next b z hb hz=>
   obtain⟨hT,h0,h⟩:=bS.1 h;have hT:=uc hT;have hx:=db x;rw[hb]at hx;have ex:=hx.val;obtain⟨k,ei⟩:=(db i).int hz;split at h
   next c hc=>
    refine fy (by rw[ho];simp) hs cm (v:= .int .u8 c.toNat) ?_ (.d (.v _)) h;unfold execOp;simp [ho,Instr.index,ex,ei,asIntOf,run_underlying hT,h0,hc]
   next=>exact h.elim
  next=>exact h.elim
 next T ps ho=>
  obtain⟨p1,p2⟩:=aap hs ps;obtain⟨u,y,h1,h2,h3⟩:=aod p1 p2 h;exact fy (by rw[ho];simp) hs cm (by unfold execOp;simp only[ho,Sem.run_bind,h1];rfl) h2 h3
 next T len ps ho=>
  obtain⟨p1,p2⟩:=aap hs ps;obtain⟨u,w',G',y,h1,h2,h3,h4,h5,h6⟩:=aou (T:=T) hs.inv p1 p2 h;exact mm (by rw[ho];simp) hs cm (by unfold execOp;simp only[ho,Sem.run_bind,h1];rfl) h2 h3 h4 h5 h6
 next T x lo hi mx ho=>
  obtain⟨u,y,h1,h2,h3⟩:=amI hs (db x) h;exact fy (by rw[ho];simp) hs cm (by unfold execOp;simp [ho,h1]) h2 h3
 next x i ho=>
  have hx:=db x;split at h
  next cs gj=>
   rw[gj]at hx;generalize ea:a.eval x=u at hx;split at h
   next c hc=>
    cases hx with
    |bz vs _ hl hr=>
     have aH:i<vs.size:=by rw[hl];exact(apJ.1 hc).1
     exact fy (by rw[ho];simp) hs cm (v:=vs[i]) (by unfold execOp;simp [ho,ea,Instr.extract,aH]) (hr i _ c (ap5 aH) hc) h
   next=>exact h.elim
  next=>exact h.elim
 next f first c7 ho=>
  split at h
  ·next x hx=>
   unfold Qv at hx;split at hx
   ·next e1=>
    cases hx
    have aij:first= #[]:=by
     rw[<-Array.toList_inj];exact List.map_eq_nil_iff.1 e1
    subst aij;obtain⟨p1,p2⟩:=yG hs c7;exact fy (by rw[ho];simp) hs cm (v:= .func (.func f) #[] (c7.map a.eval)) (by unfold execOp;simp [ho,Instr.makeFunc]) (.fn f _ _ p1 p2) h
   ·split at hx
    ·next cs e1 e2=>
     cases hx
     have agp:c7= #[]:=by
      rw[<-Array.toList_inj];exact List.map_eq_nil_iff.1 e2
     subst agp;obtain⟨p1,p2⟩:=yG hs first
     obtain⟨c1,c2⟩:=RN _ _ e1;exact fy (by rw[ho];simp) hs cm (v:= .func (.func f) (first.map a.eval) #[]) (by unfold execOp;simp [ho,Instr.makeFunc]) (.hid (.dU f _ _ (p1.trans c1) λi u c hu hc=>by
      have aH:i<(first.toList.map (ev s)).length:=by rw[c1];exact(apJ.1 hc).1
      exact(p2 i u _ hu (apN aH)).cap c (c2 i _ c (apN aH) hc)) rfl) h
    ·cases hx
  ·exact h.elim
 next op T x y U ho=>
  obtain⟨u,z,h1,h2,h3⟩:=afi (X:=x) (Y:=y) (db x) (db y) h;refine fy (by rw[ho];simp) hs cm ?_ h2 h3;unfold execOp;simp only[ho];rw[Sem.run_bind,h1];rfl
 next op T x ho=>
  obtain⟨u,z,h1,h2,h3⟩:=ajG (P:=P) (db x) h;exact fy (by rw[ho];simp) hs cm (by unfold execOp;simp [ho,h1]) h2 h3
 next t u x ho=>
  obtain⟨u,z,h1,h2,h3⟩:=al6 (db x) h;exact fy (by rw[ho];simp) hs cm (by unfold execOp;simp [ho,h1]) h2 h3
 next c ho=>
  have gd:∀c,o.op≠ .defer c:=by rw[ho];simp
  split at h
  next hc=>
   split at h
   next x T h1 h2=>
    obtain⟨m,r1,r2⟩:=afV (ty:=o.type) (db x) h;exact fy gd hs cm (by rw[TC c hc h1 h2 ho,r1];rfl) (.d (.v _)) r2
   next=>exact h.elim
  next hc=>
   split at h
   next x y T U h1 h2=>
    obtain⟨hU,h⟩:=bS.1 h;obtain⟨⟨e',k'⟩,hU⟩:=Option.isSome_iff_exists.1 hU;obtain⟨p,w',G',q,h',r1,r2,r3,r4,r5,r6⟩:=alP (ty:=o.type) hs.inv (db x) (db y) (j5 hU).1 h;exact mm gd hs cm (by rw[GP c hc h1 h2 ho,r1];rfl) r2 r3 r4 r5 r6
   next=>exact h.elim
  next hc=>
   split at h
   next k z hf=>
    obtain⟨p1,p2⟩:=yG hs c.args;obtain⟨u,us,e1,e2⟩:=U2 (P:=P) p1 p2 hf;refine fy gd hs cm (v:= .int k z) ?_ (.d (.v _)) h;rw[aoD c hc ho];unfold Builtin.max_;rw[e1];simp only[if_true]at e2;rw[e2];rfl
   next=>exact h.elim
  next hc=>
   split at h
   next k z hf=>
    obtain⟨p1,p2⟩:=yG hs c.args;obtain⟨u,us,e1,e2⟩:=U2 (P:=P) p1 p2 hf;refine fy gd hs cm (v:= .int k z) ?_ (.d (.v _)) h;rw[af2 c hc ho];unfold Builtin.min_;rw[e1];simp only[Bool.false_eq_true,if_false]at e2;rw[e2];rfl
   next=>exact h.elim
  next f hc=>
   have call:∀(g:FuncId)(c7:aqx AV)(vs:Array aqB),a.eval f= .func (.func g) #[] vs->vs.size=c7.length->(∀(i:Nat)(u:aqB)(c:AV),vs[i]?=some u->c7[i]?=some c->aD G w u c)->
       cF P g (c.args.toList.map (ev s)++c7) s.h (λr h'=>K ((s.wh h').put o.dst r))->o.wpIn (WF r) n P a w (iN N0 G w K) Q:=by
       intro g c7 vs ea hl hr h;obtain⟨p1,p2⟩:=yG hs c.args;obtain⟨GO,jw⟩:=h;have nR:=jw G w (c.args.map a.eval++vs) hs.inv (by rw[Array.size_append,apK,p1,hl]) (λi u x hu hx=>by
        by_cases hi:i<(c.args.map a.eval).size
        ·rw[Array.getElem?_append_left hi]at hu;rw[apT (by rw[<-p1];exact hi)]at hx;exact p2 i u x hu hx
        ·rw[Array.getElem?_append_right (by omega)]at hu;rw[apZ (by rw[<-p1];omega)]at hx;rw[p1]at hu;exact hr _ u x hu hx)
       refine⟨λ_ _=>trivial,?_⟩;have dp:(o.semAt (WF r).round a.eval).run P w= .ok (.enter g (c.args.map a.eval++vs)) w:=by
        rw[Oper.semAt_eq _ _ _ gd];unfold execOp;simp only[ho,resolve,hc,ea];simp [Deferred.ofValue,invoke,NY GO]
       rw[dp];refine⟨λh=>(by simp [WF,Fence.wide]at h),?_⟩;have h2:=callsIn_wide (n:=n-1).2 nR;refine CallsIn.mono (F:=WF r) h2 ?_;rintro e w' ⟨v,G',x,h',rfl,x1,x2,x3,x4,x5⟩;exact⟨G',_,x1.less cm,ap1 cm x2,(hs.move x1 x2 x3).put x4 o.dst,x5⟩
   have aoT:∀(g:FuncId)(c7:aqx AV)(vs:Array aqB),a.eval f= .func (.func g) vs #[]->vs.size=c7.length->(∀(i:Nat)(u:aqB)(c:AV),vs[i]?=some u->c7[i]?=some c->aD G w u c)->
       cF P g (c7++c.args.toList.map (ev s)) s.h (λr h'=>K ((s.wh h').put o.dst r))->o.wpIn (WF r) n P a w (iN N0 G w K) Q:=by
       intro g c7 vs ea hl hr h;obtain⟨p1,p2⟩:=yG hs c.args;obtain⟨GO,jw⟩:=h;have nR:=jw G w (vs++c.args.map a.eval) hs.inv (by rw[Array.size_append,apK,p1,hl]) (λi u x hu hx=>by
        by_cases hi:i<vs.size
        ·rw[Array.getElem?_append_left hi]at hu;rw[apT (by rw[<-hl];exact hi)]at hx;exact hr i u x hu hx
        ·rw[Array.getElem?_append_right (by omega)]at hu;rw[apZ (by rw[<-hl];omega)]at hx;rw[hl]at hu;exact p2 _ u x hu hx)
       refine⟨λ_ _=>trivial,?_⟩;have dp:(o.semAt (WF r).round a.eval).run P w= .ok (.enter g (vs++c.args.map a.eval)) w:=by
        rw[Oper.semAt_eq _ _ _ gd];unfold execOp;simp only[ho,resolve,hc,ea];simp [Deferred.ofValue,invoke,NY GO]
       rw[dp];refine⟨λh=>(by simp [WF,Fence.wide]at h),?_⟩;have h2:=callsIn_wide (n:=n-1).2 nR;refine CallsIn.mono (F:=WF r) h2 ?_;rintro e w' ⟨v,G',x,h',rfl,x1,x2,x3,x4,x5⟩;exact⟨G',_,x1.less cm,ap1 cm x2,(hs.move x1 x2 x3).put x4 o.dst,x5⟩
   split at h
   next g c7 hg=>
    have hf:=db f;rw[hg]at hf;generalize ea:a.eval f=u at hf;cases hf with
    |fn _ vs _ hl hr=>exact call g c7 vs ea hl hr h
   next q hg=>
    obtain⟨g,as,eq,h⟩:=h;have hf:=db f;rw[hg]at hf;generalize ea:a.eval f=u at hf;cases hf with
    |hid hq h1=>
     cases hq with
     |d _=>simp [fp.app]at eq
     |bJ _ _ _ _ _ _ _=>simp [fp.app]at eq
     |dU g0 vs cs hl hr=>
      simp only[fp.app,Option.some.injEq,Prod.mk.injEq]at eq;obtain⟨rfl,rfl⟩:=eq;exact aoT _ (cs.map fp.av) vs ea (by rw[apO];exact hl) (λi u c hu hc=>by
       rw[apQ]at hc;cases hx:cs[i]? with
       |none=>rw[hx]at hc;cases hc
       |some d=>rw[hx]at hc;cases hc;exact(hr i u d hu hx).av) h
     |fn g0 vs cs hl hr=>
      simp only[fp.app,Option.some.injEq,Prod.mk.injEq]at eq;obtain⟨rfl,rfl⟩:=eq;exact call _ (cs.map fp.av) vs ea (by rw[apO];exact hl) (λi u c hu hc=>by
       rw[apQ]at hc;cases hx:cs[i]? with
       |none=>rw[hx]at hc;cases hc
       |some d=>rw[hx]at hc;cases hc;exact(hr i u d hu hx).av) h
   next=>exact h.elim
  next=>exact h.elim
 next op _=>
  split at h
  next x h' p hx=>exact ag1 hs cm hx h.1 h.2
  next=>exact h.elim
theorem N6(hs:cG G w a s){x:aqz Operand}{d:Nat}{z:Int}(h:vx (ev s) d x=some z)(h0:0<=z):BS a x d z.toNat:=by
 cases x with
 |none=>
  simp only[vx,Option.some.injEq]at h;subst h;show _=d;exact aqa d
 |some y=>
  simp only[vx]at h;obtain⟨k,e⟩:=(hs.ev y).int h;exact⟨k,z,e,h0,rfl⟩
theorem mo{α:Type}{b:Bool}{x y:α}(h:(bif b then some x else none)=some y):b=true/\x=y:=by
 cases b with
 |true=>exact⟨rfl,ap2 h⟩
 |false=>cases h
theorem ahY{α:Type}{b:Bool}{x:aqz α}{y:α}(h:(bif b then x else none)=some y):b=true/\x=some y:=by
 cases b with
 |true=>exact⟨rfl,h⟩
 |false=>cases h
theorem Ut(hs:cG G w a s)(cm:N0<=G.N)(h:G9 P o K s):o.wpIn (WF r) n P a w (iN N0 G w K) Q:=by
 obtain⟨va,x,h',p,hx,hp,hK⟩:=h;have db:=hs.ev;unfold iq at hx;split at hx
 next T y i ho=>
  split at hx
  ·next n' o' len L k z e k' i' e1 e2 e3=>
   split at hx
   ·next e4 k2 cs hn=>
    obtain⟨hb,he⟩:=mo hx;cases he
    rw[apL,beq_iff_eq,beq_iff_eq]at hb;obtain⟨rfl,rfl⟩:=hb;obtain⟨hL,h0,aH,rfl⟩:=hp;obtain⟨eR,fR⟩:=j5 e3;obtain⟨kz,ez⟩:=(db i).int e2;have hv:=db y;rw[e1]at hv;have lZ:=hv.oY hs.inv hn hL;obtain⟨Bh,⟨A,c,q1,q2,q3,q4,q5⟩,_⟩:=lZ;obtain⟨g,cap,s1,rfl,s3⟩:=q5 (by omega);have uD:z<(len:Int):=aH;refine fy (by rw[ho];simp) hs cm (v:= .pointer (some ⟨g,o'*k2+z.toNat*k2,none⟩)) ?_ (.dq n' (o'+z.toNat) 0 L k2 (hs.inv.lt hn) ⟨_,_,rfl⟩ (by rw[(hs.inv.cD n' _ hn).1,hL];exact apU _) λ_=>⟨by omega,g,cap,s1,?_⟩) hK
    ·unfold execOp;simp [ho,q1,ez,Instr.indexAt,asIntOf,run_underlying eR,h0,uD,mr fR,lC]
    ·rw[Nat.add_mul];rfl
   ·cases hx
  ·cases hx
 next T y f ho=>
  split at hx
  ·next n' i j L k fo q g e1 hT=>
   cases hx
   have hv:=db y;rw[e1]at hv;generalize ea:a.eval y=u at hv;cases hv with
   |dq _ _ _ _ _ o0 Ri hL hf=>
    obtain⟨pb,pq,rfl⟩:=Ri;refine fy (by rw[ho];simp) hs cm (v:= .pointer (some ⟨pb,pq+fo,none⟩)) (by unfold execOp;simp [ho,ea,RP hT]) (.dq n' i (j+fo) L k o0 ⟨_,_,rfl⟩ hL λe=> ?_) hK;obtain⟨a1,g2,cap,a2,a3⟩:=hf e;refine⟨a1,g2,cap,a2,?_⟩;injection a3 with a3;injection a3 with a3;injection a3 with a4 a5;subst a4;subst a5;rw[Nat.add_assoc]
  ·cases hx
 next y ho=>
  split at hx
  ·next n' i j L k e1=>
   cases hx
   have hv:=db y;rw[e1]at hv;have Jv:=hv;generalize ea:a.eval y=u at hv Jv;cases hv with
   |dq _ _ _ _ _ o0 Ri hL hf=>
    obtain⟨pb,pq,rfl⟩:=Ri;exact fy (by rw[ho];simp) hs cm (by unfold execOp;simp [ho,ea]) Jv hK
  ·cases hx
 next t y ho=>
  split at hx
  ·next n' i j L k c e1=>
   split at hx
   ·next e k' cs z hn hz=>
    obtain⟨hb,he⟩:=mo hx;cases he
    rw[beq_iff_eq]at hb;subst hb;have hv:=db y;rw[e1]at hv;obtain⟨u,r1,r2⟩:=ad6 hs.inv hn hp.1 hp.2 hz hv;exact fy (by rw[ho];simp) hs cm (by unfold execOp;simp [ho,r1]) r2 hK
   ·cases hx
  ·cases hx
 next t y z ho=>
  split at hx
  ·next n' i j L k c bP e1=>
   split at hx
   ·next e k' cs q hn hq=>
    obtain⟨hb,he⟩:=mo hx;cases he
    simp only[apL,beq_iff_eq,dI]at hb;obtain⟨⟨⟨⟨rfl,rfl⟩,Qq⟩,hj⟩,gQ⟩:=hb;obtain⟨hL,hc,rfl⟩:=hp;have hv:=db y;rw[e1]at hv;obtain⟨w',G',r1,r2,r3,r4⟩:=aiG hs.inv hn hL hc hv (db z) Qq hq hj gQ;exact Sn (by rw[ho];simp) hs cm (by unfold execOp;simp [ho,r1]) r2 r3 r4 hK
   ·cases hx
  ·cases hx
 next T y lo hi ho=>
  split at hx
  ·next n' o' len L k e k' oo ll e1 hT=>
   split at hx
   ·next l u hl hu=>
    split at hx
    ·next e4 k2 cs hn=>
     obtain⟨hb,he⟩:=mo hx;cases he
     rw[apL,beq_iff_eq,beq_iff_eq]at hb;obtain⟨rfl,rfl⟩:=hb;obtain⟨hL,h0,hlu,huL,rfl,rfl⟩:=hp;obtain⟨eR,fR⟩:=j5 hT;have hv:=db y;rw[e1]at hv;have lZ:=hv.oY hs.inv hn hL;obtain⟨Bh,⟨A,c,q1,q2,q3,q4,q5⟩,_⟩:=lZ;have hb:=Ed (P:=P) (Bl:=true) (N6 hs hl h0) (N6 hs hu (by omega)) (by omega) (show u.toNat<=c by omega) w;refine fy (by rw[ho];simp) hs cm (v:= .slice (if c=l.toNat then A else A.map (·.add (l.toNat*k2))) (u.toNat-l.toNat) (c-l.toNat)) ?_ (.vec n' (o'+l.toNat) (u.toNat-l.toNat) L k2 (hs.inv.lt hn) ⟨_,_,_,rfl⟩ (by rw[(hs.inv.cD n' _ hn).1,hL];exact apU _) λ_=>⟨by omega,⟨_,_,rfl,by omega,by omega,by omega,λho2=> ?_⟩,λh1 h2=> ?_⟩) hK
     ·unfold execOp;simp [ho,q1,Instr.sliceAt,Instr.slice,run_underlying eR,hb,mr fR]
     ·obtain⟨g,cap,s1,rfl,s3⟩:=q5 (by omega);refine⟨g,cap,s1,?_,by omega⟩;rw[if_neg (by omega)];simp [lC,Nat.add_mul]
     ·have ho0:o'=0:=by omega
      have xm:l.toNat=0:=by omega
      subst ho0;rw[xm];rw[xm]at h2;simp only[Nat.sub_zero]at h2 ⊢;by_cases yo:L=0
      ·subst yo;have:len=0:=by omega
       subst this
       rename_i eW
       rw[<-eW rfl rfl,q1,h2];split
       ·rfl
       ·cases A<;>simp [Addr.add]
      ·obtain⟨g,cap,s1,rfl,s3⟩:=q5 (by omega);rw[s1,h2];have:c=cap:=by omega
       subst this;split<;>simp [lC]
    ·cases hx
   ·cases hx
  ·cases hx
 next T l c ho=>
  split at hx
  ·next e k z1 z2 cs len m hT e1 e2=>
   split at hx
   ·next z da hz pR=>
    obtain⟨hb,he⟩:=mo hx;cases he
    simp only[apL,beq_iff_eq,dI]at hb;obtain⟨⟨gQ,kr⟩,_⟩:=hb;obtain⟨h0,lD,hl,hc,rfl,hm,nD⟩:=hp;obtain⟨eR,fR⟩:=j5 hT;obtain⟨inf,i1,i2,i3⟩:=Pr fR pR;have EM:inf.zero=some z:=by
     obtain⟨i',j1,j2⟩:=JE hz;rw[i1]at j1;cases j1;exact j2
    obtain⟨k1,ez1⟩:=(db l).int e1;obtain⟨k2,ez2⟩:=(db c).int e2;obtain⟨u,w',G',r1,r2,r3,r4,r5⟩:=ajL (kl:=k1) (kc:=k2) hs.inv eR i1 EM i2 i3 kr gQ h0 lD hl hc hm nD;exact mm (by rw[ho];simp) hs cm (by unfold execOp;simp [ho,ez1,ez2,r1]) r2 r3 r4 r5 hK
   ·cases hx
  ·cases hx
 next c ho=>
  have gd:∀c,o.op≠ .defer c:=by rw[ho];simp
  split at hx
  next hc=>
   split at hx
   ·next y T h1 h2=>
    split at hx
    ·next n' oo len L k e1=>
     split at hx
     ·next e4 k2 cs hn=>
      obtain⟨hb,he⟩:=mo hx;cases he
      rw[apL,beq_iff_eq]at hb;obtain⟨hT,rfl⟩:=hb;obtain⟨⟨e,q⟩,hT⟩:=Option.isSome_iff_exists.1 hT;have hv:=db y;rw[e1]at hv;have lZ:=hv.oY hs.inv hn hp;obtain⟨Bh,⟨A,cc,q1,q2,q3,q4,q5⟩,_⟩:=lZ;exact fy gd hs cm (v:= .int .i64 len) (by rw[TC c hc h1 h2 ho,q1];simp [Builtin.len_,run_underlying (j5 hT).1,goInt]) (.d (.v _)) hK
     ·cases hx
    ·cases hx
   ·cases hx
  next hc=>
   split at hx
   ·next y z T U h1 h2=>
    split at hx
    ·next e k pU bP ys L' gS hT hU=>
     split at hx
     ·next z0 da hz pR=>
      obtain⟨hb,hx⟩:=ahY hx;rw[apL,beq_iff_eq,dI]at hb;obtain⟨gQ,kr⟩:=hb;obtain⟨eR,fR⟩:=j5 hT;obtain⟨inf,i1,i2,i3⟩:=Pr fR pR;have EM:inf.zero=some z0:=by
       obtain⟨i',j1,j2⟩:=JE hz;rw[i1]at j1;cases j1;exact j2
      have jq:z0.cells.size=k:=by rw[<-aqg];exact kr
      obtain⟨eU,kU⟩:=pU;split at hx
      ·next n' oo len L k1 e1=>
       split at hx
       ·next e4 k2 cs hn=>
        obtain⟨hb,he⟩:=mo hx;cases he
        simp only[apL,beq_iff_eq]at hb;obtain⟨⟨rfl,rfl⟩,rfl⟩:=hb;obtain⟨hL,qM,rfl,qT⟩:=hp;obtain⟨us,hr,Cm⟩:=Rx (tx:=U) hs.inv (db z) qM gQ (j5 hU).1;have hv:=db y;rw[e1]at hv;obtain⟨u,w',G',r1,r2,r3,r4,r5⟩:=Yq (ty:=o.type) hs.inv eR i1 EM i2 i3 jq gQ hn hL hv hr Cm qT;exact mm gd hs cm (by rw[GP c hc h1 h2 ho,r1];rfl) r2 r3 r4 r5 hK
       ·cases hx
      ·next e1=>
       cases hx
       obtain⟨qM,rfl,rfl,rfl,kM,pc⟩:=hp;obtain⟨us,hr,Cm⟩:=Rx (tx:=U) hs.inv (db z) qM gQ (j5 hU).1;have hv:=db y;rw[e1]at hv;have ev:=hv.val;obtain⟨u,w',G',r1,r2,r3,r4,r5⟩:=aaO (ty:=o.type) (A:=none) hs.inv eR i1 EM i2 i3 jq gQ hr Cm kM pc;exact mm gd hs cm (by rw[GP c hc h1 h2 ho,ev,r1];rfl) r2 r3 r4 r5 hK
      ·next xs e1=>
       cases hx
       obtain⟨rfl,qM,rfl,rfl,rfl,kM,pc⟩:=hp;obtain⟨us,hr,Cm⟩:=Rx (tx:=U) hs.inv (db z) qM gQ (j5 hU).1;have hv:=db y;rw[e1]at hv;obtain⟨A,eA⟩:∃A,a.eval y= .slice A 0 0:=by
        generalize a.eval y=u at hv;cases hv with|full _ _ hf=>exact hf
       obtain⟨u,w',G',r1,r2,r3,r4,r5⟩:=aaO (ty:=o.type) (A:=A) hs.inv eR i1 EM i2 i3 jq gQ hr Cm kM pc;exact mm gd hs cm (by rw[GP c hc h1 h2 ho,eA,r1];rfl) r2 r3 r4 r5 hK
      ·cases hx
     ·cases hx
    ·cases hx
   ·cases hx
  next=>cases hx
 next=>cases hx
theorem ahp(hs:cG G w a s)(cm:N0<=G.N)(h:FE P o K s):o.wpIn (WF r) n P a w (iN N0 G w K) Q:=by
 have db:=hs.ev;unfold FE at h;split at h
 ·next op T x y U ho=>
  split at h
  ·next xs pT v1 v2 hx hy hT h1 h2=>
   obtain⟨e,k⟩:=pT;have eR:=(j5 hT).1;have hv:=db y;rw[hy]at hv;have ey:=hv.val;obtain⟨A,b,oo,c,k',u,ex,hA,_,_,_,_,_⟩:=((db x).list hx).pY;have hg:(eqGuard op T x y (a.eval x) (a.eval y)).run P w= .ok () w:=by rw[ex,ey];unfold eqGuard;cases op<;>simp
   have dp:(binOp op T (a.eval x) (a.eval y)).run P w= .ok (if A.isNone then v1 else v2) w:=by
    rw[ex,ey];have hq:=run_equal_slice_nil (P:=P) (w:=w) T e A xs.length c eR;cases op<;>simp [yd]at h1 h2<;>subst h1<;>subst h2<;>simp [binOp,hq]<;>cases A<;>rfl
   have hex:(execOp a.eval o).run P w= .ok (.value (if A.isNone then v1 else v2)) w:=by
    unfold execOp;simp only[ho];rw[Sem.run_bind,Sem.run_bind,hg];simp only[Result.andThen_ok];rw[dp];rfl
   cases A with
   |none=>
    have lW:xs=[]:=Classical.byContradiction λcy=>by have:=hA cy;cases this
    exact fy (by rw[ho];simp) hs cm hex (.d (.v _)) (h.1 lW)
   |some ad=>exact fy (by rw[ho];simp) hs cm hex (.d (.v _)) h.2
  ·exact h.elim
 ·exact h.elim
theorem OY(hs:cG G w a s)(cm:N0<=G.N)(h:ahB P o K s):o.wpIn (WF r) n P a w (iN N0 G w K) Q:=by
 rcases h with h|h|h
 ·exact Ut hs cm h
 ·exact ahp hs cm h
 ·exact ZY hs cm h
end
end Go.Proofs.YtmkmibahjanejaaGreatDoor
