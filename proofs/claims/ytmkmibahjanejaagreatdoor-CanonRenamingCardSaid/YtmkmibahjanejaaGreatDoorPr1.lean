/-
  Part 1 of the proof: AbsGlob, AbsCore, AbsOps, AbsHeap, AbsStore, AbsApp, AbsOp, AbsOp2, AbsOp3, AbsMap, AbsVec, AbsVec2, AbsOp4.
-/
import Derived.WalkKit
import Derived.Laws.Strings
import Derived.Lib.Hide
import Derived.OrdersIn
import Derived.RangeFuncIn
import Derived.RangeFuncCalls
import Derived.RangeFuncLeaves
import Derived.RangeFuncFrom
import Derived.Deep.MidRow
import Derived.Laws.AppendOwn
import Derived.Maps.OwnOps
import Derived.KernelRfl
import Derived.Deep.AppendSrc
import Derived.Deep.Upon
import Derived.Laws.BytesString
import Derived.Laws.StructEq
import Derived.Laws.MakeOwn
import Derived.Laws.Cover3
namespace Go.Proofs.YtmkmibahjanejaaGreatDoor
open Go.RowKit
abbrev aoR:=@Option.bind_some
abbrev aoS:=@List.getElem?_eq_some_iff
abbrev aoT:=@List.length_append
abbrev aoU:=@Bool.and_eq_true
abbrev aoV:=@List.length_cons
abbrev aoW:=@List.getElem?_eq_getElem
abbrev aoX:=@List.length_map
abbrev aoY:=@List.mem_cons_self
abbrev aoZ:=@List.getElem?_map
abbrev ao0:=@Nat.le_of_ble_eq_true
abbrev ao1:=@List.mem_cons_of_mem
abbrev ao2:=@List.getElem?_append_left
abbrev ao3:=@Nat.le_refl
abbrev ao4:=@List.length_nil
abbrev ao5:=@List.mem_of_getElem?
abbrev ao6:=@Nat.eq_of_beq_eq_true
abbrev ao7:=@Array.getElem?_eq_some_iff
abbrev ao8:=@List.getElem?_append_right
abbrev ao9:=@List.append_assoc
abbrev apa:=@Nat.le_trans
abbrev apb:=@Option.some.inj
abbrev apc:=@Nat.zero_add
abbrev apd:=@List.append_nil
abbrev ape:=@Array.getElem?_eq_getElem
abbrev apf:=@Array.getElem?_toList
abbrev apg:=@Nat.lt_of_lt_of_le
abbrev aph:=@List.map_cons
abbrev api:=@List.all_eq_true
abbrev apj:=@Int.toNat_natCast
abbrev apk:=@Nat.not_lt_zero
abbrev apl:=@List.getElem?_set_self
abbrev apm:=@List.mem_cons
abbrev apn:=@List.map_congr_left
abbrev apo:=@List.getElem?_eq_none
abbrev apq:=@Array.length_toList
abbrev apr:=@List.getElem?_set_ne
abbrev aps:=@List.drop_zero
abbrev apt:=@List.length_replicate
abbrev apu:=@List.getElem?_cons_succ
abbrev apv:=@List.mem_append
abbrev apw:=@List.take_append_drop
abbrev apx:=@Nat.lt_irrefl
abbrev apy:=@Nat.le_add_right
abbrev apz:=@List.not_mem_nil
abbrev apA:=@decide_eq_true
abbrev apB:=@decide_eq_false
abbrev apC:=@beq_self_eq_true
abbrev apD:=@List.all_cons
abbrev apE:=@List.any_cons
abbrev apF:=@Nat.lt_succ_self
abbrev apG:=@Bool.or_eq_false_iff
abbrev apH:Type->Type:=List
abbrev apI:=ByteArray
abbrev apJ:Type->Type:=Option
abbrev apK:=Program
abbrev apL:=Value
abbrev apM:=World
def bL(a:apI):apH UInt8:=a.data.toList
theorem Sk(a:apI):a.toList=bL a:=ByteArray.toList_eq a
theorem iJ{a b:apI}(h:bL a=bL b):a=b:=by cases a;cases b;simp only[bL,Array.toList_inj]at h;rw[h]
def p6(l:apH Nat):apH apL:=l.map λn=>Value.int .u8 (Int.ofNat n)
def zD(l:apH Nat):apH apL:=l.map λn=>Value.int .u64 (Int.ofNat n)
def Gl:apH Nat:=(List.range 256).map λn=>bif (Nat.ble 9 n&&Nat.ble n 13)||n==32 then 1 else 0
def Jt:apH Nat:=(List.range 20).map λn=>10^n
def VV:apH Nat:=[0,1,28,2,29,14,24,3,30,22,20,15,25,17,4,8,31,27,13,23,21,19,16,7,26,12,18,6,11,5,10,9]
def aaJ:apH Nat:=[0,1,56,2,57,49,28,3,61,58,42,50,38,29,17,4,62,47,59,36,45,43,51,22,53,39,33,30,24,18,12,5,63,55,48,27,60,41,37,16,46,35,44,21,52,32,23,11,54,26,40,15,34,20,31,10,25,14,19,9,13,8,7,6]
def yY:apH (Nat×apH apL):=
 (1,p6 Gl)::
 (0,zD Jt)::
 (2,p6 VV)::
 (3,p6 aaJ)::
  []
def zy:apH (Nat×apH apL)->Nat->apJ (apH apL)
 |[],_=>none
 |(k,l)::r,g=>bif k==g then some l else zy r g
theorem Te:∀{t:apH (Nat×apH apL)}{g:Nat}{l:apH apL},zy t g=some l->(g,l)∈t
 |[],g,l,h=>by cases h
 |(k,l')::r,g,l,h=>by
  unfold zy at h;cases e:k==g with
  |true=>rw[e]at h;cases h;rw[beq_iff_eq]at e;subst e;simp
  |false=>rw[e]at h;exact ao1 _ (Te h)
inductive D where
 |v (u:Value)
 |sl (xs:List (List D))
inductive e9 where
 |d (x:D)
 |bz (c:List D) (off:Nat)
 |fn (f:FuncId) (cs:List e9)
 |dS (f:FuncId) (cs:List e9)
inductive AV where
 |d (x:D)
 |agg (cs:List AV)
 |bA (cs:List AV)
 |ptr (n off:Nat)
 |bz (xs:List (List D)) (i off:Nat)
 |own (n:Nat) (xs:List (List D))
 |full (xs:List (List D))
 |row (n off len cap k:Nat)
 |fn (f:FuncId) (cU:List AV)
 |mp (n:Nat)
 |cO (n:Nat)
 |vec (n o len L k:Nat)
 |di (n i j L k:Nat)
 |hid (c:e9)
 |dead
inductive LS where
 |ready
 |busy
 |done (c:Code)
def LS.st:LS->LoopState
 | .ready=> .ready
 | .busy=> .busy
 | .done _=> .done
def LS.pd:LS->apJ Code
 | .done c=>some c
 |_=>none
inductive an where
 |cells (cs:List AV)
 |front (e:TypeId) (k len:Nat)
 |vec (e:TypeId) (k:Nat) (cs:List (List AV))
 |map (kv:List (ByteArray×D))
 |fR (kv:List (ByteArray×D))
 |lp (ls:LS) (p:Nat) (as bd:Code) (cs:List AV)
 |it (sn:Nat×List Nat) (cs:List AV)
 |aT (T:TypeId) (cs:List AV)
 |bg (e:TypeId) (b:ByteArray)
 |gone
structure Gh where
 N:Nat
 Z:Nat->Prop
 S:Nat->Nat->Prop
 aI:Nat->Nat
 sg:Nat->Value
 ow:Nat->Option Nat
 fl:Nat->Nat
 M:Nat
inductive dd(S:Nat->Nat->Prop)(w:World):Value->D->Prop
 |v (u:Value):dd S w u (.v u)
 |sl (A:Option Addr) (b o c k:Nat) (xs:List (List D)) (u:Nat->Nat->Value)
    (hA:xs≠ []->A=some ⟨b,o,none⟩) (hc:xs.length<=c) (hm:c<=maxLen)
    (hk:∀x∈xs,x.length=k)
    (hS:∀i j,i<xs.length->j<k->S b (o+i*k+j)/\w.cell? ⟨b,o+i*k+j,none⟩=some (u i j)/\(u i j).oneCell'=true)
    (hu:∀(i j:Nat)(x:List D)(d:D),xs[i]?=some x->x[j]?=some d->dd S w (u i j) d):dd S w (.slice A xs.length c) (.sl xs)
inductive nN(S:Nat->Nat->Prop)(w:World):Value->e9->Prop
 |d {u:Value} {x:D} (h:dd S w u x):nN S w u (.d x)
 |bz (c:List D) (off b o:Nat) (u:Nat->Value) (hS:∀j,j<c.length->S b (o+j)/\w.cell? ⟨b,o+j,none⟩=some (u j)) (hu:∀(j:Nat)(d:D),c[j]?=some d->dd S w (u j) d):nN S w (.pointer (some ⟨b,o+off,none⟩)) (.bz c off)
 |fn (f:FuncId) (vs:Array Value) (cs:List e9) (hl:vs.size=cs.length) (h:∀(i:Nat)(u:Value)(c:e9),vs[i]?=some u->cs[i]?=some c->nN S w u c):nN S w (.func (.func f) #[] vs) (.fn f cs)
 |dS (f:FuncId) (vs:Array Value) (cs:List e9) (hl:vs.size=cs.length) (h:∀(i:Nat)(u:Value)(c:e9),vs[i]?=some u->cs[i]?=some c->nN S w u c):nN S w (.func (.func f) vs #[]) (.dS f cs)
structure Xl(s u:Value)(o len L k:Nat):Prop where
 ol:o+len<=L
 sl:∃A c,u= .slice A len c/\len<=c/\c<=maxLen/\L<=c+o/\(o<L->∃g cap,s= .slice (some ⟨g,0,none⟩) L cap/\A=some ⟨g,o*k,none⟩/\o+c=cap)
 all:o=0->len=L->u=s
structure ZH(s u:Value)(i j L k:Nat):Prop where
 il:i<L
 pt:∃g cap,s= .slice (some ⟨g,0,none⟩) L cap/\u= .pointer (some ⟨g,i*k+j,none⟩)
inductive aD(G:Gh)(w:World):Value->AV->Prop
 |d {u:Value} {x:D} (h:dd G.S w u x):aD G w u (.d x)
 |agg (vs:Array Value) (cs:List AV) (hl:vs.size=cs.length) (h:∀(i:Nat)(u:Value)(c:AV),vs[i]?=some u->cs[i]?=some c->aD G w u c):aD G w (.agg vs) (.agg cs)
 |bA (vs:Array Value) (cs:List AV) (hl:vs.size=cs.length) (h:∀(i:Nat)(u:Value)(c:AV),vs[i]?=some u->cs[i]?=some c->aD G w u c):aD G w (.tuple vs) (.bA cs)
 |ptr (n off:Nat) (h:n<G.N):aD G w (.pointer (some ⟨G.aI n,off,none⟩)) (.ptr n off)
 |bz (xs:List (List D)) (i off b o:Nat) (u:Nat->Value) (x:List D) (hx:xs[i]?=some x)
  (hS:∀j,j<x.length->G.S b (o+j)/\w.cell? ⟨b,o+j,none⟩=some (u j)) (hu:∀(j:Nat)(d:D),x[j]?=some d->dd G.S w (u j) d):aD G w (.pointer (some ⟨b,o+off,none⟩)) (.bz xs i off)
 |own {u:Value} (n:Nat) (xs:List (List D)) (h:n<G.N) (hp:dd G.S w u (.sl xs)) (hle:xs.length<=G.fl n) (hf:xs.length=G.fl n->u=G.sg n):aD G w u (.own n xs)
 |full {u:Value} (xs:List (List D)) (hp:dd G.S w u (.sl xs)) (hf:∃A,u= .slice A xs.length xs.length):aD G w u (.full xs)
 |row (n off len cap k:Nat) (h:n<G.N) (hl:len<=cap) (hm:cap<=maxLen):aD G w (.slice (some ⟨G.aI n,off,none⟩) len cap) (.row n off len cap k)
 |fn (f:FuncId) (vs:Array Value) (cs:List AV) (hl:vs.size=cs.length) (h:∀(i:Nat)(u:Value)(c:AV),vs[i]?=some u->cs[i]?=some c->aD G w u c):aD G w (.func (.func f) #[] vs) (.fn f cs)
 |mp (n:Nat) (h:n<G.N):aD G w (.map (some (G.aI n))) (.mp n)
 |cO (n:Nat) (h:n<G.N):aD G w (.func (.yield (G.aI n)) #[] #[]) (.cO n)
 |vec {u:Value} (n o len L k:Nat) (h:n<G.N) (hs:∃A l c,u= .slice A l c) (hL:L<=G.fl n) (hf:L=G.fl n->Xl (G.sg n) u o len L k):aD G w u (.vec n o len L k)
 |di {u:Value} (n i j L k:Nat) (h:n<G.N) (hs:∃b q,u= .pointer (some ⟨b,q,none⟩)) (hL:L<=G.fl n) (hf:L=G.fl n->ZH (G.sg n) u i j L k):aD G w u (.di n i j L k)
 |hid {u:Value} {c:e9} (h:nN G.S w u c) (h1:u.oneCell'=true):aD G w u (.hid c)
 |dead (u:Value):aD G w u .dead
def eF:apH (apI×D)->apI->apJ D
 |[],_=>none
 |(k,d)::l,s=>bif bL k==bL s then some d else eF l s
structure o8(S:Nat->Nat->Prop)(w:World)(es:Array MapEntry)(clock:Nat)(kv:List (ByteArray×D)):Prop where
 size:es.size<=maxLen
 stamped:MapKept.Stamped es clock
 dY:∀e∈es.toList,∃s d,e.key= .string s/\eF kv s=some d/\dd S w e.val d
 all:∀s d,eF kv s=some d->∃e∈es.toList,e.key= .string s
 len:es.size<=kv.length
 born:∀(i:Nat)(e:MapEntry),es[i]?=some e->e.born=i
 A5:clock=es.size
structure vl(S:Nat->Nat->Prop)(w:World)(es:Array MapEntry)(clock:Nat)(kv:List (ByteArray×D)):Prop where
 ok:o8 S w es clock kv
 ord:∀(i:Nat)(e:MapEntry),es[i]?=some e->∃p,kv[i]?=some p/\e.key= .string p.1/\dd S w e.val p.2
 all:kv.length=es.size
def an.dC(G:Gh)(n:Nat):an->apJ Nat
 | .cells _=>some (G.aI n)
 | .front _ _ _=>G.ow n
 | .vec _ _ _=>G.ow n
 | .map _=>some (G.aI n)
 | .fR _=>some (G.aI n)
 | .lp _ _ _ _ _=>some (G.aI n)
 | .it _ _=>some (G.aI n)
 | .aT _ _=>some (G.aI n)
 | .bg _ _=>G.ow n
 | .gone=>none
def bB(h:apH an)(G:Gh)(n:Nat):apJ Nat:=(h[n]?).bind (an.dC G n)
theorem cZ{h:apH an}{G:Gh}{n:Nat}{B:an}(e:h[n]?=some B):bB h G n=B.dC G n:=by unfold bB;rw[e];rfl
theorem wx{h:apH an}{G:Gh}{n:Nat}(e:h[n]?=none):bB h G n=none:=by unfold bB;rw[e];rfl
theorem nL{h:apH an}{G:Gh}{n b:Nat}(e:bB h G n=some b):∃B,h[n]?=some B/\B.dC G n=some b:=by
 unfold bB at e;cases hx:h[n]? with
 |none=>rw[hx]at e;cases e
 |some B=>rw[hx]at e;exact⟨B,rfl,e⟩
def Ic(v:apL):Prop:=v= .slice none 0 0\/∃g n cap,v= .slice (some ⟨g,0,none⟩) n cap/\cap≠0
def dB(G:Gh)(w:apM)(n:Nat):an->Prop
 | .cells cs=>¬G.Z (G.aI n)/\(∀o,¬G.S (G.aI n) o)/\∃(vs:Array apL)(T:TypeId),w.heap[G.aI n]?=some (.cells vs T (0,0))/\vs.size=cs.length/\∀(i:Nat)(u:apL)(c:AV),vs[i]?=some u->cs[i]?=some c->aD G w u c
 | .front e k len=>G.fl n=len/\len<=maxLen/\((G.ow n=none/\∃A,G.sg n= .slice A len len)\/
  ∃(g cap:Nat)(cur:Array apL),G.ow n=some g/\G.sg n= .slice (some ⟨g,0,none⟩) len cap/\¬G.Z g/\w.heap[g]?=some (.cells cur e (0,0))/\len<=cap/\cap<=maxLen/\cur.size=cap*k/\∀o,len*k<=o->¬G.S g o)
 | .vec e k cs=>G.fl n=cs.length/\cs.length<=maxLen/\(∀c∈cs,c.length=k)/\((G.ow n=none/\cs=[]/\∃A,G.sg n= .slice A 0 0)\/
  ∃(g cap:Nat)(cur:Array apL),G.ow n=some g/\G.sg n= .slice (some ⟨g,0,none⟩) cs.length cap/\¬G.Z g/\w.heap[g]?=some (.cells cur e (0,0))/\cs.length<=cap/\cap<=maxLen/\cur.size=cap*k/\(∀o,¬G.S g o)/\
   ∀(i j:Nat)(c:apH AV)(x:AV)(u:apL),cs[i]?=some c->c[j]?=some x->cur[i*k+j]?=some u->aD G w u x)
 | .map kv=>¬G.Z (G.aI n)/\(∀o,¬G.S (G.aI n) o)/\∃(es:Array MapEntry)(clock:Nat),w.heap[G.aI n]?=some (.map es clock)/\o8 G.S w es clock kv
 | .fR kv=>¬G.Z (G.aI n)/\(∀o,¬G.S (G.aI n) o)/\∃(es:Array MapEntry)(clock:Nat),w.heap[G.aI n]?=some (.map es clock)/\vl G.S w es clock kv
 | .lp ls p as bd cs=>¬G.Z (G.aI n)/\(∀o,¬G.S (G.aI n) o)/\∃(fn:FuncId)(tm:Array apL)(D:Nat),w.heap[G.aI n]?=some (.loop {state:=ls.st,pending:=ls.pd,fn:=fn,tmps:=tm,params:= #[p],assign:=as,body:=bd,defers:=D})/\tm.size=cs.length/\∀(i:Nat)(u:apL)(c:AV),tm[i]?=some u->cs[i]?=some c->aD G w u c
 | .it sn cs=>¬G.Z (G.aI n)/\(∀o,¬G.S (G.aI n) o)/\∃(fn:Nat)(vs:Array apL)(_:Unit),w.heap[G.aI n]?=some (.mapIter (some fn) sn.1 sn.2.toArray sn.1)/\(vs.size=cs.length/\vs= #[.map (some fn)])/\∀(i:Nat)(u:apL)(c:AV),vs[i]?=some u->cs[i]?=some c->aD G w u c
 | .aT T cs=>¬G.Z (G.aI n)/\(∀o,¬G.S (G.aI n) o)/\∃(_:Unit)(vs:Array apL)(p:apL),w.heap[G.aI n]?=some (.cells (#[p]++vs) T (0,0))/\(vs.size=cs.length/\(p= .pointer none\/p= .pointer (some ⟨G.aI n,0,none⟩))/\∀v∈vs.toList,Ic v)/\∀(i:Nat)(u:apL)(c:AV),vs[i]?=some u->cs[i]?=some c->aD G w u c
 | .bg e b=>G.fl n=b.size/\b.size<=maxLen/\((G.ow n=none/\b.size=0/\∃A,G.sg n= .slice A 0 0)\/
  ∃(g cap:Nat)(cur:Array apL),G.ow n=some g/\G.sg n= .slice (some ⟨g,0,none⟩) b.size cap/\¬G.Z g/\w.heap[g]?=some (.cells cur e (0,0))/\b.size<=cap/\cap<=maxLen/\cur.size=cap/\(∀o,¬G.S g o)/\∀(i:Nat)(u:UInt8),(bL b)[i]?=some u->cur[i]?=some (.int .u8 u.toNat))
 | .gone=>True
def GD(G:Gh)(w:apM):Prop:=(∀(g:Nat)(l:apH apL),(g,l)∈yY->∀(j:Nat)(v:apL),l[j]?=some v->G.S g j/\w.cell? ⟨g,j,none⟩=some v)/\G.M<=w.heap.size
structure Inv(G:Gh)(w:World)(h:List an):Prop where
 len:h.length=G.N
 z:∀b,G.Z b->b<w.heap.size
 S:∀b o,G.S b o->b<w.heap.size
 cu:∀(n:Nat)(B:an),h[n]?=some B->dB G w n B
 inj:∀(m n b:Nat),bB h G m=some b->bB h G n=some b->m=n
 gl:GD G w
structure bx(N:Nat)(G:Gh)(w:World)(G':Gh)(w':World):Prop where
 size:w.heap.size<=w'.heap.size
 S:∀b o,G.S b o->G'.S b o
 cell:∀b o,G.S b o->w'.cell? ⟨b,o,none⟩=w.cell? ⟨b,o,none⟩
 aI:∀n,n<N->G'.aI n=G.aI n
 fr:∀n,n<N->(G'.fl n=G.fl n/\G'.sg n=G.sg n)\/G.fl n<G'.fl n
 Z:((∀b,G.Z b->G'.Z b)/\∀b,G'.Z b->G.Z b\/w.heap.size<=b)/\G'.M=G.M
 old:∀b,G.Z b->w'.heap[b]?=w.heap[b]?
 os:w'.os=w.os
 tape:w'.tape=w.tape
 output:w'.output=w.output
 new:∀b o,G'.S b o->G.S b o\/¬G.Z b
theorem fY{Z Z':Nat->Prop}{m M M':Nat}(h:Z'=Z)(hM:M'=M:=by rfl):((∀b,Z b->Z' b)/\∀b,Z' b->Z b\/m<=b)/\M'=M:=⟨⟨λ_ k=>h▸k,λ_ k=> .inl (h▸k)⟩,hM⟩
theorem bx.refl(N:Nat)(G:Gh)(w:apM):bx N G w G w:=
 ⟨ao3 _,λ_ _ h=>h,λ_ _ _=>rfl,λ_ _=>rfl,λ_ _=> .inl ⟨rfl,rfl⟩,fY rfl,λ_ _=>rfl,rfl,rfl,rfl,λ_ _ h=> .inl h⟩
theorem bx.trans{N:Nat}{G G1 G2:Gh}{w w1 w2:apM}(h:bx N G w G1 w1)(k:bx N G1 w1 G2 w2):bx N G w G2 w2:=
 ⟨apa h.size k.size,λb o hs=>k.S b o (h.S b o hs),λb o hs=>(k.cell b o (h.S b o hs)).trans (h.cell b o hs),λn hn=>(k.aI n hn).trans (h.aI n hn),
  λn hn=>by
   rcases h.fr n hn with⟨h1,h2⟩|h1<;>rcases k.fr n hn with⟨k1,k2⟩|k1
   ·exact .inl ⟨k1.trans h1,k2.trans h2⟩
   ·exact .inr (h1▸k1)
   ·exact .inr (k1▸h1)
   ·exact .inr (Nat.lt_trans h1 k1),
  ⟨⟨λb hb=>k.Z.1.1 b (h.Z.1.1 b hb),λb hb=>(k.Z.1.2 b hb).elim (h.Z.1.2 b) λhs=> .inr (apa h.size hs)⟩,k.Z.2.trans h.Z.2⟩,λb hb=>(k.old b (h.Z.1.1 b hb)).trans (h.old b hb),k.os.trans h.os,k.tape.trans h.tape,k.output.trans h.output,λb o hs=>(k.new b o hs).elim (h.new b o) (λhn=> .inr λhz=>hn (h.Z.1.1 b hz))⟩
theorem bx.less{N M:Nat}{G G':Gh}{w w':apM}(h:bx N G w G' w')(hM:M<=N):bx M G w G' w':=
 ⟨h.size,h.S,h.cell,λn hn=>h.aI n (apg hn hM),λn hn=>h.fr n (apg hn hM),h.Z,h.old,h.os,h.tape,h.output,h.new⟩
theorem bx.lB{N:Nat}{G G':Gh}{w w':apM}(h:bx N G w G' w'){b:Nat}(hb:b<w.heap.size)(hz:¬G.Z b):¬G'.Z b:=λk=>(h.Z.1.2 b k).elim hz λhs=>apx _ (apg hb hs)
def se(G:Gh)(w:apM)(ds:apH Deferred):Prop:=∃l:apH Nat,l.Nodup/\ds=l.map (λD=>{target:= .collected D,args:= #[]})/\∀D∈l,G.M<=D/\G.Z D/\w.heap[D]?=some (.deferred (some []))
theorem se.nil(G:Gh)(w:apM):se G w []:=⟨[],List.nodup_nil,rfl,λ_ h=>absurd h apz⟩
theorem se.aS{N:Nat}{G G':Gh}{w w':apM}{ds:apH Deferred}(h:se G w ds)(hE:bx N G w G' w'):se G' w' ds:=
 let ⟨l,h1,h2,h3⟩:=h
 ⟨l,h1,h2,λD hD=>⟨hE.Z.2▸(h3 D hD).1,hE.Z.1.1 D (h3 D hD).2.1,(hE.old D (h3 D hD).2.1).trans (h3 D hD).2.2⟩⟩
theorem GD.aS{N:Nat}{G G':Gh}{w w':apM}(h:GD G w)(hE:bx N G w G' w'):GD G' w':=⟨λg l hm j v hv=>
 ⟨hE.S _ _ (h.1 g l hm j v hv).1,(hE.cell _ _ (h.1 g l hm j v hv).1).trans (h.1 g l hm j v hv).2⟩,by rw[hE.Z.2];exact apa h.2 hE.size⟩
theorem dd.aS{S S':Nat->Nat->Prop}{w w':apM}(hS:∀b o,S b o->S' b o)(hc:∀b o,S b o->w'.cell? ⟨b,o,none⟩=w.cell? ⟨b,o,none⟩){u:apL}{x:D}(h:dd S w u x):dd S' w' u x:=by
 induction h with
 |v u=>exact .v u
 |sl A b o c k xs u hA im hm hk q8 _ ih=>
  exact .sl A b o c k xs u hA im hm hk (λi j hi hj=>⟨hS _ _ (q8 i j hi hj).1,(hc _ _ (q8 i j hi hj).1).trans (q8 i j hi hj).2.1,(q8 i j hi hj).2.2⟩) ih
theorem nN.aS{S S':Nat->Nat->Prop}{w w':apM}(hS:∀b o,S b o->S' b o)(hc:∀b o,S b o->w'.cell? ⟨b,o,none⟩=w.cell? ⟨b,o,none⟩){u:apL}{x:e9}(h:nN S w u x):nN S' w' u x:=by
 induction h with
 |d h=>exact .d (h.aS hS hc)
 |bz c off b o u h1 h2=>exact .bz c off b o u (λj hj=>⟨hS _ _ (h1 j hj).1,(hc _ _ (h1 j hj).1).trans (h1 j hj).2⟩) (λj d hd=>(h2 j d hd).aS hS hc)
 |fn f vs cs hl _ ih=>exact .fn f vs cs hl ih
 |dS f vs cs hl _ ih=>exact .dS f vs cs hl ih
theorem aD.aS{G G':Gh}{w w':apM}(hE:bx G.N G w G' w')(hN:G.N<=G'.N){u:apL}{x:AV}(h:aD G w u x):aD G' w' u x:=by
 induction h with
 |d h=>exact .d (h.aS hE.S hE.cell)
 |agg vs cs hl _ ih=>exact .agg vs cs hl ih
 |bA vs cs hl _ ih=>exact .bA vs cs hl ih
 |ptr n off h=>rw[<-hE.aI n h];exact .ptr n off (apg h hN)
 |bz xs i off b o u x hx hS hu=>exact .bz xs i off b o u x hx (λj hj=>⟨hE.S _ _ (hS j hj).1,(hE.cell _ _ (hS j hj).1).trans (hS j hj).2⟩) (λj d hd=>(hu j d hd).aS hE.S hE.cell)
 |own n xs h hp hle hf=>
  refine .own n xs (apg h hN) (hp.aS hE.S hE.cell) ?_ ?_
  ·rcases hE.fr n h with⟨h1,_⟩|h1
   ·omega
   ·omega
  ·intro e;rcases hE.fr n h with⟨h1,h2⟩|h1
   ·rw[h2];exact hf (e.trans h1)
   ·omega
 |full xs hp hf=>exact .full xs (hp.aS hE.S hE.cell) hf
 |row n off len cap k h hl hm=>rw[<-hE.aI n h];exact .row n off len cap k (apg h hN) hl hm
 |fn f vs cs hl _ ih=>exact .fn f vs cs hl ih
 |mp n h=>rw[<-hE.aI n h];exact .mp n (apg h hN)
 |cO n h=>rw[<-hE.aI n h];exact .cO n (apg h hN)
 |vec n o len L k h hs hL hf=>
  refine .vec n o len L k (apg h hN) hs ?_ ?_
  ·rcases hE.fr n h with⟨h1,_⟩|h1<;>omega
  ·intro e;rcases hE.fr n h with⟨h1,h2⟩|h1
   ·rw[h2];exact hf (e.trans h1)
   ·omega
 |di n i j L k h hs hL hf=>
  refine .di n i j L k (apg h hN) hs ?_ ?_
  ·rcases hE.fr n h with⟨h1,_⟩|h1<;>omega
  ·intro e;rcases hE.fr n h with⟨h1,h2⟩|h1
   ·rw[h2];exact hf (e.trans h1)
   ·omega
 |hid h h1=>exact .hid (h.aS hE.S hE.cell) h1
 |dead u=>exact .dead u
structure St where
 n:Nat
 t:List (Nat×AV)
 h:List an
def bp:apH (Nat×AV)->Nat->AV
 |[],_=> .dead
 |(k,x)::l,i=>bif i==k then x else bp l i
theorem mX(k:Nat)(x:AV)(l:apH (Nat×AV))(i:Nat):bp ((k,x)::l) i=if i=k then x else bp l i:=by
 simp only[bp,cond_eq_ite,beq_iff_eq]
def gq(b:Bool)(p:Prop):Prop:=cond b p False
theorem bN{b:Bool}{p:Prop}:gq b p↔b=true/\p:=by cases b<;>simp [gq]
def b7(a b:Nat):Bool:=a-b==0
theorem dI{a b:Nat}:b7 a b=true↔a<=b:=by simp [b7];omega
def Z0:IntKind->Nat
 | .i8=>0| .i16=>1| .i32=>2| .i64=>3| .u8=>4| .u16=>5| .u32=>6| .u64=>7
def yB(a b:IntKind):Bool:=Z0 a==Z0 b
theorem Ol{a b:IntKind}:yB a b=true↔a=b:=by cases a<;>cases b<;>decide
def St.put(s:St)(dst:apJ Nat)(x:AV):St:=
 match dst with
 |none=>s
 |some d=>bif s.n-d==0 then s else{s with t:=(d,x)::s.t}
theorem rG{s:St}{d:Nat}(h:d<s.n)(x:AV):s.put (some d) x={s with t:=(d,x)::s.t}:=by
 have:(s.n-d==0)=false:=by simp;omega
 simp only[St.put,this,cond_false]
theorem Ds{s:St}{d:Nat}(h:¬d<s.n)(x:AV):s.put (some d) x=s:=by
 have:(s.n-d==0)=true:=by simp;omega
 simp only[St.put,this,cond_true]
def St.wh(s:St)(h:apH an):St:={s with h:=h}
def PG:apL->AV
 | .agg vs=> .agg (vs.toList.map λu=> .d (.v u))
 | .tuple vs=> .bA (vs.toList.map λu=> .d (.v u))
 |u=> .d (.v u)
def ev(s:St):Operand->AV
 | .tmp t=>bp s.t t
 | .const v=>PG v
 | .func f=> .fn f []
 | .global g=>match zy yY g with
   |some l=> .bz [l.map .v] 0 0
   |none=> .dead
def AV.kG:AV->Bool
 | .d (.v u)=>u.oneCell'
 | .d (.sl _)| .ptr .. | .bz .. | .own .. | .full _| .row .. | .fn .. | .mp _| .cO _| .hid _| .vec .. | .di .. =>true
 | .agg _| .bA _| .dead=>false
def AV.cells:AV->apH AV
 | .agg cs=>cs
 |x=>[x]
def AV.jw:AV->Bool
 | .agg cs=>cs.all AV.kG
 |x=>x.kG
def D.Bk:D->D
 | .v (.slice none 0 0)=> .sl []
 |x=>x
def AV.xw:AV->apJ D
 | .d x=>some x.Bk
 | .own _ xs=>some (.sl xs)
 | .full xs=>some (.sl xs)
 |_=>none
def AV.fA:AV->apJ (apH (apH D))
 | .d (.sl xs)=>some xs
 | .own _ xs=>some xs
 | .full xs=>some xs
 | .d (.v (.slice none 0 0))=>some []
 |_=>none
def AV.int?:AV->apJ Int
 | .d (.v (.int _ n))=>some n
 |_=>none
def e9.av:e9->AV
 | .d x=> .d x
 | .bz c off=> .bz [c] 0 off
 | .fn f cs=> .hid (.fn f cs)
 | .dS f cs=> .hid (.dS f cs)
def e9.app(as:apH AV):e9->apJ (FuncId×apH AV)
 | .fn g cs=>some (g,as++cs.map e9.av)
 | .dS g cs=>some (g,cs.map e9.av++as)
 |_=>none
mutual
def AV.cap:AV->apJ e9
 | .d x=>some (.d x)
 | .own _ xs=>some (.d (.sl xs))
 | .full xs=>some (.d (.sl xs))
 | .bz xs i off=>match xs[i]? with
   |some c=>some (.bz c off)
   |none=>none
 | .fn f cs=>match AV.xC cs with
   |some l=>some (.fn f l)
   |none=>none
 | .hid c=>some c
 |_=>none
def AV.xC:apH AV->apJ (apH e9)
 |[]=>some []
 |x::l=>match x.cap,AV.xC l with
  |some c,some l=>some (c::l)
  |_,_=>none
end
def NI(f:FuncId)(first cU:apH AV):apJ AV:=
 match first with
 |[]=>some (.fn f cU)
 |l=>match AV.xC l,cU with
  |some cs,[]=>some (.hid (.dS f cs))
  |_,_=>none
def fQ(P:apK)(t:TypeId):apJ Nat:=(P.info? t).map (·.size)
def mn(P:apK)(t:TypeId):apJ Bool:=(P.underlying t).map fun| .struct _=>true| .array .. =>true|_=>false
def tz(P:apK)(t:TypeId)(i:Nat):apJ (Nat×Nat×Bool):=
 match P.underlying t with
 |some (.struct fs)=>match fs[i]? with
  |some f=>match fQ P f.type,mn P f.type with
   |some (k+1),some g=>some (f.offset,k+1,g)
   |_,_=>none
  |none=>none
 |_=>none
def eE(P:apK)(t:TypeId):apJ (TypeId×Nat):=
 match P.underlying t with
 |some (.slice e)=>(fQ P e).map λk=>(e,k)
 |_=>none
def uR(P:apK)(t:TypeId):apJ (Nat×TypeId×Nat):=
 match P.underlying t with
 |some (.array n e)=>(fQ P e).map λk=>(n,e,k)
 |_=>none
def strT(P:apK)(t:TypeId):Bool:=match P.underlying t with|some .string=>true|_=>false
def A8(P:apK)(t:TypeId):Bool:=match P.underlying t with|some .bool=>true|_=>false
def rh(P:apK)(t:TypeId):apJ IntKind:=match P.underlying t with|some (.int k)=>some k|_=>none
def Cz(P:apK)(t:TypeId):Bool:=match P.underlying t with|some (.int .u8)=>true|_=>false
def iw(P:apK)(t:TypeId):apJ apL:=(P.info? t).bind (·.zero)
def qK(P:apK)(t:TypeId):apJ Nat:=(P.info? t).map (·.bytes)
def RV(op:BinOp)(k:IntKind)(a b:Int):apJ apL:=
 match op with
 | .add=>some (.int k (k.wrap (a+b)))
 | .sub=>some (.int k (k.wrap (a-b)))
 | .mul=>some (.int k (k.wrap (a*b)))
 | .eql=>some (.bool (a==b))
 | .neq=>some (.bool (a !=b))
 | .lss=>some (.bool (a<b))
 | .leq=>some (.bool (a<=b))
 | .gtr=>some (.bool (a>b))
 | .geq=>some (.bool (a>=b))
 | .and=>some (.int k (k.wrap (BitVec.ofInt k.bits a&&&BitVec.ofInt k.bits b).toNat))
 | .or=>some (.int k (k.wrap (BitVec.ofInt k.bits a|||BitVec.ofInt k.bits b).toNat))
 | .xor=>some (.int k (k.wrap (BitVec.ofInt k.bits a^^^BitVec.ofInt k.bits b).toNat))
 | .andNot=>some (.int k (k.wrap (BitVec.ofInt k.bits a&&& ~~~BitVec.ofInt k.bits b).toNat))
 |_=>none
def Q0(op:BinOp)(a b:apI):apJ apL:=
 match op with
 | .eql=>some (.bool (bL a==bL b))
 | .neq=>some (.bool (!(bL a==bL b)))
 | .lss=>some (.bool (Op.bytesLess (bL a) (bL b)))
 | .leq=>some (.bool (Op.bytesLess (bL a) (bL b)||bL a==bL b))
 | .gtr=>some (.bool (!(Op.bytesLess (bL a) (bL b)||bL a==bL b)))
 | .geq=>some (.bool (!Op.bytesLess (bL a) (bL b)))
 |_=>none
def Pa(op:BinOp)(a b:Bool):apJ apL:=
 match op with
 | .eql=>some (.bool (a==b))
 | .neq=>some (.bool (!(a==b)))
 |_=>none
def Sv(op:BinOp)(k:IntKind)(a b:Int):apJ apL:=
 match op with
 | .quo=>some (.int k (k.wrap (a.tdiv b)))
 | .rem=>some (.int k (a.tmod b))
 |_=>none
def PW(op:BinOp)(k:IntKind)(a b:Int):apJ apL:=
 match op with
 | .shl=>some (.int k (k.wrap (a*2^(min b.toNat k.bits))))
 | .shr=>some (.int k (a.fdiv (2^(min b.toNat k.bits))))
 |_=>none
def Il(op:UnOp)(x:apL):apJ apL:=
 match op,x with
 | .not, .bool b=>some (.bool (!b))
 | .neg, .int k n=>some (.int k (k.wrap (0-n)))
 | .xor, .int k n=>some (.int k (k.wrap (BitVec.ofInt k.bits (if k.signed then-1 else k.max)^^^BitVec.ofInt k.bits n).toNat))
 |_,_=>none
def jj(cs:apH AV)(off:Nat)(ys:apH AV):apH AV:=cs.take off++ys++cs.drop (off+ys.length)
def ov(k:Nat):Nat->apH D->apH (apH D)
 |0,_=>[]
 |n+1,l=>l.take k::ov k n (l.drop k)
def pO(places:apH (Nat×Nat)):apH AV->apH (Nat×AV)->apJ (apH AV)
 |cs,[]=>some cs
 |cs,(i,x)::r=>
  match places[i]? with
  |some (off,k)=>bif x.cells.length==k&&b7 (off+k) cs.length then pO places (jj cs off x.cells) r else none
  |none=>none
def nJ:apH AV->apJ (apH D)
 |[]=>some []
 |x::r=>match x.xw,nJ r with
  |some d,some l=>some (d::l)
  |_,_=>none
def B8(P:apK)(fs:apH Field):apJ (apH (Nat×Nat)):=fs.mapM λf=>(fQ P f.type).map λk=>(f.offset,k)
def EG(P:apK)(f:FuncId):Bool:=
 match P.funcs[f]? with
 |some fn=>fn.body.isSome&& !(fn.name== "runtime.NumGoroutine")
 |none=>false
def cx(P:apK)(f:FuncId)(args:apH AV)(h:apH an)(K:AV->apH an->Prop):Prop:=
 EG P f=true/\∀(G:Gh)(w:apM)(vs:Array apL),Inv G w h->vs.size=args.length->(∀(i:Nat)(u:apL)(c:AV),vs[i]?=some u->args[i]?=some c->aD G w u c)->
  Calls P f vs w λe w'=>∃v G' r h',e= .returned v/\bx G.N G w G' w'/\G.N<=G'.N/\Inv G' w' h'/\aD G' w' v r/\K r h'
theorem cx.mono{P:apK}{f:FuncId}{args:apH AV}{h:apH an}{K K':AV->apH an->Prop}(hc:cx P f args h K)(hk:∀r h',K r h'->K' r h'):cx P f args h K':=
 ⟨hc.1,λG w vs hi hl hr=>(hc.2 G w vs hi hl hr).mono λ_ _ ⟨v,G',r,h',e,x1,x2,x3,x4,x5⟩=>⟨v,G',r,h',e,x1,x2,x3,x4,hk _ _ x5⟩⟩
def ux(h:apH an)(p:AV)(K:apH AV->Nat->Prop):Prop:=
 match p with
 | .ptr n off=>match h[n]? with
   |some (.cells cs)=>K cs off
   |_=>False
 | .bz xs i off=>match xs[i]? with
   |some cs=>K (cs.map .d) off
   |none=>False
 |_=>False
def oI(P:apK)(t:TypeId)(h:apH an)(p:AV)(K:AV->Prop):Prop:=
 ux h p λcs off=>match mn P t,fQ P t with
  |some true,some k=>gq (b7 (off+k) cs.length) (K (.agg ((cs.drop off).take k)))
  |some false,some _=>match cs[off]? with
   |some c=>K c
   |none=>False
  |_,_=>False
def yt(P:apK)(t:TypeId)(h:apH an)(p x:AV)(K:apH an->Prop):Prop:=
 match p with
 | .ptr n off=>match h[n]? with
   |some (.cells cs)=>match fQ P t with
    |some k=>gq (k==x.cells.length&&x.jw&&b7 (off+x.cells.length) cs.length) (K (h.set n (.cells (jj cs off x.cells))))
    |none=>False
   |_=>False
 |_=>False
def tC(P:apK)(T:TypeId)(x i:AV)(K:AV->Prop):Prop:=
 match eE P T with
 |some (_,k)=>
  match x with
  | .row n off len _ k'=>match i.int? with
    |some z=>gq (k'==k) (0<=z/\z<len/\K (.ptr n (off+z.toNat*k)))
    |none=>False
  |_=>match x.fA,i.int? with
   |some xs,some z=>0<=z/\(match xs[z.toNat]? with|some c=>c.length=k/\K (.bz [c] 0 0)|none=>False)
   |_,_=>False
 |none=>match uR P T,x,i.int? with
  |some (n,_,k), .ptr b off,some z=>0<=z/\z<n/\K (.ptr b (off+z.toNat*k))
  |some (n,_,k), .bz xs i off,some z=>gq (k==1) (0<=z/\z<n/\(match xs[i]? with|some c=>(match c[off+z.toNat]? with|some d=>K (.bz [[d]] 0 0)|none=>False)|none=>False))
  |_,_,_=>False
def sV(P:apK)(T:TypeId)(x:AV)(K:Nat->Prop):Prop:=
 match x with
 | .d (.v (.string s))=>gq (strT P T) (K s.size)
 | .row _ _ len _ _=>gq (eE P T).isSome (K len)
 |x=>match x.fA with
  |some xs=>gq (eE P T).isSome (K xs.length)
  |none=>False
def jV(ρ:Operand->AV)(x:apJ Operand)(aeM:Nat)(K:Nat->Prop):Prop:=
 match x with
 |none=>K aeM
 |some y=>match (ρ y).int? with
  |some z=>0<=z/\K z.toNat
  |none=>False
def u6(P:apK)(T:TypeId)(ρ:Operand->AV)(x:AV)(lo hi mx:apJ Operand)(K:AV->Prop):Prop:=
 match mx with
 |none=>
  match x with
  | .d (.v (.string b))=>gq (strT P T) (jV ρ hi b.size λh=>h<=b.size/\jV ρ lo 0 λl=>l<=h/\K (.d (.v (.string (b.extract l h)))))
  | .ptr n off=>match uR P T with
    |some (m,_,k)=>gq (b7 m 4096) (jV ρ hi m λh=>gq (b7 h m) (jV ρ lo 0 λl=>gq (b7 l h&& !b7 m l) (K (.row n (off+l*k) (h-l) (m-l) k))))
    |none=>False
  |x=>match x.fA,eE P T with
   |some xs,some (_,k)=>(∀c∈xs,c.length=k)/\jV ρ hi xs.length λh=>h<=xs.length/\jV ρ lo 0 λl=>l<=h/\K (.d (.sl ((xs.take h).drop l)))
   |_,_=>False
 |some m=>match lo,hi with
  |none,some y=>match x.fA,eE P T with
   |some xs,some (_,k)=>(∀c∈xs,c.length=k)/\jV ρ (some m) 0 λc=>c<=xs.length/\jV ρ (some y) 0 λh=>h=c/\K (.full (xs.take h))
   |_,_=>False
  |_,_=>False
def uH(h:apH an)(k:Nat)(x:AV)(K:apH (apH D)->Prop):Prop:=
 match x with
 | .row n off len _ k'=>match h[n]? with
   |some (.cells cs)=>match nJ ((cs.drop off).take (len*k))with
    |some ds=>gq (k'==k&&b7 (off+len*k) cs.length&&((cs.drop off).take (len*k)).all AV.kG) (K (ov k len ds))
    |none=>False
   |_=>False
 |x=>match x.fA with
  |some ys=>(∀c∈ys,c.length=k)/\K ys
  |none=>False
def uW(P:apK)(T:TypeId)(h:apH an)(x y:AV)(K:AV->apH an->Prop):Prop:=
 match eE P T with
 |some (e,k)=>match iw P e,qK P e with
  |some z,some cX=>gq (b7 1 k&&z.cells.toList.length==k)<|uH h k y λys=>
   match x with
   | .own n xs=>match h[n]? with
     |some (.front e' k' len)=>gq (e'==e&&k'==k)<|len=xs.length/\(∀c∈xs,c.length=k)/\xs.length+ys.length<=maxLen/\(xs.length+ys.length)*cX<=140737488355328/\K (.own n (xs++ys)) (h.set n (.front e k (xs.length+ys.length)))
     |_=>False
   | .d (.v (.slice none 0 0))=>ys.length<=maxLen/\ys.length*cX<=140737488355328/\K (.own h.length ys) (h++[.front e k ys.length])
   | .full xs=>(∀c∈xs,c.length=k)/\xs.length+ys.length<=maxLen/\(xs.length+ys.length)*cX<=140737488355328/\K (.own h.length (xs++ys)) (h++[.front e k (xs.length+ys.length)])
   |_=>False
  |_,_=>False
 |none=>False
def Ri(P:apK)(T:TypeId):apJ (apH (Nat×Nat)):=
 match P.underlying T with
 |some (.struct fs)=>B8 P fs.toList
 |_=>none
def yJ(P:apK)(T:TypeId)(ps:apH (Nat×AV))(K:AV->Prop):Prop:=
 match Ri P T,iw P T with
 |some places,some z=>match pO places (z.cells.toList.map λu=> .d (.v u)) ps with
  |some cs=>gq ((ps.all λp=>p.2.jw)&&z.cells.toList.all Value.oneCell') (K (.agg cs))
  |none=>False
 |_,_=>False
def vU(k:Nat):Nat->Nat->apH (Nat×Nat)
 |_,0=>[]
 |o,n+1=>(o,k)::vU k (o+k) n
def sG:Nat->apH AV->apH AV
 |0,_=>[]
 |n+1,l=>l++sG n l
def yo(P:apK)(T:TypeId)(len:Nat)(ps:apH (Nat×AV))(K:AV->Prop):Prop:=
 match eE P T with
 |some (e,k)=>match iw P e with
  |some z=>match pO (vU k 0 len) (sG len (z.cells.toList.map λu=> .d (.v u))) ps with
   |some cs=>match nJ cs with
    |some ds=>gq (b7 1 k&&b7 (len*k) 16777216&&z.cells.toList.length==k&&z.cells.toList.all Value.oneCell'&&(ps.all λp=>p.2.jw)) (K (.full (ov k len ds)))
    |none=>False
   |none=>False
  |none=>False
 |none=>False
def CC(P:apK)(t:TypeId)(x y:AV):apJ Bool:=
 match x,y with
 | .d (.v (.int k a)), .d (.v (.int k' b))=>bif yB k k'&&(rh P t).isSome then some (a==b)else none
 | .d (.v (.string a)), .d (.v (.string b))=>bif strT P t then some (bL a==bL b)else none
 | .d (.v (.bool a)), .d (.v (.bool b))=>bif A8 P t then some (a==b)else none
 |_,_=>none
def zu(P:apK)(sub:TypeId->apH AV->apH AV->apJ Bool):apH Field->apH AV->apH AV->apJ Bool
 |[],_,_=>some true
 |f::fs,xs,ys=>bif f.name== "_" then none else
  match mn P f.type with
  |some false=>match xs[f.offset]?,ys[f.offset]? with
   |some x,some y=>match CC P f.type x y,zu P sub fs xs ys with
    |some a,some b=>some (a&&b)
    |_,_=>none
   |_,_=>none
  |some true=>match fQ P f.type with
   |some k=>bif b7 (f.offset+k) xs.length&&b7 (f.offset+k) ys.length then match sub f.type ((xs.drop f.offset).take k) ((ys.drop f.offset).take k),zu P sub fs xs ys with
    |some a,some b=>some (a&&b)
    |_,_=>none
    else none
   |none=>none
  |none=>none
def Ig(P:apK):Nat->TypeId->apH AV->apH AV->apJ Bool
 |0=>λ_ _ _=>none
 |d+1=>λT xs ys=>match P.underlying T with
  |some (.struct fs)=>bif P.stoodInHeld T then none else zu P (Ig P d) fs.toList xs ys
  |_=>none
def MC(P:apK)(T:TypeId)(xs ys:apH AV):apJ Bool:=
 match P.underlying T with
 |some (.struct fs)=>bif P.stoodInHeld T||P.eqGuardType P.depth T then none else zu P (Ig P 4) fs.toList xs ys
 |_=>none
def xy(op:BinOp)(b:Bool):apJ apL:=
 match op with
 | .eql=>some (.bool b)
 | .neq=>some (.bool (!b))
 |_=>none
def yz(P:apK)(T:TypeId)(op:BinOp)(x y:AV)(K:AV->Prop):Prop:=
 match x,y with
 | .d (.v (.int k a)), .d (.v (.int k' b))=>
   match Sv op k a b with
   |some v=>gq (yB k k') (b≠0/\K (.d (.v v)))
   |none=>match PW op k a b with
    |some v=>0<=b/\K (.d (.v v))
    |none=>match RV op k a b with
     |some v=>gq (yB k k') (K (.d (.v v)))
     |none=>False
 | .d (.v (.string a)), .d (.v (.string b))=>match Q0 op a b with
   |some v=>K (.d (.v v))
   |none=>match op with
    | .add=>a.size+b.size<=maxLen/\K (.d (.v (.string (a++b))))
    |_=>False
 | .d (.v (.bool a)), .d (.v (.bool b))=>match Pa op a b with
   |some v=>gq (A8 P T) (K (.d (.v v)))
   |none=>False
 | .agg xs, .agg ys=>match MC P T xs ys with
   |some b=>match xy op b with
    |some v=>K (.d (.v v))
    |none=>False
   |none=>False
 |_,_=>False
def xc(op:UnOp)(x:AV)(K:AV->Prop):Prop:=
 match x with
 | .d (.v u)=>match Il op u with
   |some v=>K (.d (.v v))
   |none=>False
 |_=>False
def w6(P:apK)(src dst:TypeId)(x:AV)(K:AV->Prop):Prop:=
 match x with
 | .d (.v (.int _ n))=>match rh P src,rh P dst with
   |some _,some k=>K (.d (.v (.int k (k.wrap n))))
   |_,_=>False
 | .d (.v (.string b))=>gq (strT P src&&strT P dst) (K (.d (.v (.string b))))
 |x=>match x.fA,eE P src with
  |some xs,some (e,_)=>gq (Cz P e&&strT P dst) (∃ns:apH Int,xs=ns.map (λn=>[.v (.int .u8 n)])/\K (.d (.v (.string ⟨(ns.map λn=>UInt8.ofNat n.toNat).toArray⟩))))
  |_,_=>False
def x6(P:apK)(T:TypeId)(x:AV)(f:Nat)(K:AV->Prop):Prop:=
 match tz P T f,x with
 |some (off,k,true), .agg cs=>gq (b7 (off+k) cs.length) (K (.agg ((cs.drop off).take k)))
 |some (off,_,false), .agg cs=>match cs[off]? with
  |some c=>K c
  |none=>False
 |_,_=>False
def tY(P:apK)(T:TypeId):apJ (TypeId×TypeId):=
 match P.underlying T with
 |some (.map k e)=>some (k,e)
 |_=>none
inductive Sd
 |no
 |lt (n:Nat)
def Sd.ok:Sd->Prop
 | .no=>True
 | .lt n=>n<maxLen
def uU(aaF:Bool)(z:apL):apJ D->AV
 |some d=>bif aaF then .bA [.d d, .d (.v (.bool true))]else .d d
 |none=>bif aaF then .bA [.d (.v z), .d (.v (.bool false))]else .d (.v z)
def pN(P:apK)(op:Op)(ρ:Operand->AV)(h:apH an):apJ (AV×apH an×Sd):=
 match op with
 | .makeMap T none=>match tY P T with
   |some _=>some (.mp h.length,h++[.map []], .no)
   |none=>none
 | .lookup T m i ok=>match tY P T with
   |some (k,e)=>match iw P e with
    |some z=>match ρ m,ρ i with
     | .mp n, .d (.v (.string s))=>match h[n]? with
       |some (.map kv)=>bif strT P k&&z.oneCell' then some (uU ok z (eF kv s),h, .no)else none
       |_=>none
     |_,_=>none
    |none=>none
   |none=>none
 | .mapUpdate T m i x=>match tY P T with
   |some (k,_)=>match ρ m,ρ i,(ρ x).xw with
    | .mp n, .d (.v (.string s)),some d=>match h[n]? with
      |some (.map kv)=>bif strT P k then some (.d (.v undef),h.set n (.map ((s,d)::kv)), .lt kv.length)else none
      |_=>none
    |_,_,_=>none
   |none=>none
 |_=>none
inductive VA
 |no
 |el (c:List AV)
 |st (c:List AV) (cs:List (List AV))
 |mk (cs:List (List AV)) (len m:Nat)
 |ap (cs ys:List (List AV)) (L len:Nat)
 |ix (i:Nat)
 |ol (o len:Nat)
def Nj(P:apK)(t:TypeId)(c:apH AV)(j:Nat):apJ AV:=
 match mn P t,fQ P t with
 |some true,some k=>bif b7 (j+k) c.length then some (.agg ((c.drop j).take k))else none
 |some false,some _=>c[j]?
 |_,_=>none
def cD(xs:apH (apH D)):apH (apH AV):=xs.map λc=>c.map AV.d
def Ec(h:apH an)(k:Nat)(y:AV)(ys:apH (apH AV)):Prop:=
 (∃xs,y.fA=some xs/\(∀c∈xs,c.length=k)/\ys=cD xs)\/(∃n o len L e cs,y= .vec n o len L k/\h[n]?=some (.vec e k cs)/\cs.length=L/\ys=(cs.drop o).take len/\∀c∈ys,c.all AV.kG=true)
def vo(ρ:Operand->AV)(d:Int):apJ Operand->apJ Int
 |none=>some d
 |some y=>(ρ y).int?
def iq(P:apK)(op:Op)(ρ:Operand->AV)(h:apH an)(a:VA):apJ (AV×apH an×Prop):=
 match op with
 | .indexAddr T x i=>match ρ x,(ρ i).int?,eE P T,a with
   | .vec n o len L k,some z,some (_,k'), .ix i'=>match h[n]? with
     |some (.vec _ k2 cs)=>bif k'==k&&k2==k then some (.di n i' 0 L k,h,cs.length=L/\0<=z/\z<len/\i'=o+z.toNat)else none
     |_=>none
   |_,_,_,_=>none
 | .fieldAddr S x f=>match ρ x,tz P S f with
   | .di n i j L k,some (fo,_,_)=>some (.di n i (j+fo) L k,h,True)
   |_,_=>none
 | .nilCheck x=>match ρ x with
   | .di n i j L k=>some (.di n i j L k,h,True)
   |_=>none
 | .load t p=>match ρ p,a with
   | .di n i j L k, .el c=>match h[n]?,Nj P t c j with
     |some (.vec _ k' cs),some x=>bif k'==k then some (x,h,cs.length=L/\cs[i]?=some c)else none
     |_,_=>none
   |_,_=>none
 | .store t p x=>match ρ p,a with
   | .di n i j L k, .st c bJ=>match h[n]?,fQ P t with
     |some (.vec e k' cs),some q=>bif k'==k&&q==(ρ x).cells.length&&(ρ x).jw&&b7 (j+(ρ x).cells.length) k&&b7 1 k then some (.d (.v undef),h.set n (.vec e k bJ),cs.length=L/\cs[i]?=some c/\bJ=cs.set i (jj c j (ρ x).cells))else none
     |_,_=>none
   |_,_=>none
 | .slice T x lo hi none=>match ρ x,eE P T,a with
   | .vec n o len L k,some (_,k'), .ol o' gF=>match vo ρ 0 lo,vo ρ len hi with
     |some l,some u=>match h[n]? with
      |some (.vec _ k2 cs)=>bif k'==k&&k2==k then some (.vec n o' gF L k,h,cs.length=L/\0<=l/\l<=u/\u<=(L:Int)-o/\o'=o+l.toNat/\gF=u.toNat-l.toNat)else none
      |_=>none
     |_,_=>none
   |_,_,_=>none
 | .makeSlice T l c=>match eE P T,(ρ l).int?,(ρ c).int?,a with
   |some (e,k),some l,some c, .mk cs len m=>match iw P e,qK P e with
    |some z,some cX=>bif b7 1 k&&z.cells.toList.length==k&&z.cells.toList.all Value.oneCell' then some (.vec h.length 0 len m k,h++[.vec e k cs],0<=l/\l<=c/\l.toNat=len/\c.toNat=m/\cs=List.replicate m (z.cells.toList.map λu=> .d (.v u))/\m<=maxLen/\cX*m<=281474976710656)else none
    |_,_=>none
   |_,_,_,_=>none
 | .call c=>match c.callee with
   | .builtin .len=>match c.args.toList,c.argTypes.toList with
     |[x],[T]=>match ρ x with
      | .vec n _ len L k=>match h[n]? with
        |some (.vec _ k2 cs)=>bif (eE P T).isSome&&k2==k then some (.d (.v (.int .i64 len)),h,cs.length=L)else none
        |_=>none
      |_=>none
     |_,_=>none
   | .builtin .append=>match c.args.toList,c.argTypes.toList with
     |[x,y],[T,U]=>match eE P T,eE P U,a with
      |some (e,k),some _, .ap bJ ys L' gF=>match iw P e,qK P e with
       |some z,some cX=>bif b7 1 k&&z.cells.toList.length==k then
        match ρ x with
        | .vec n o len L k1=>match h[n]? with
          |some (.vec e1 k2 cs)=>bif k1==k&&k2==k&&e1==e then some (.vec n o gF L' k,h.set n (.vec e k bJ),cs.length=L/\Ec h k (ρ y) ys/\gF=len+ys.length/\
           ((o+len+ys.length<=L/\L'=L/\bJ=cs.take (o+len)++ys++cs.drop (o+len+ys.length))\/(o=0/\len=L/\L'=L+ys.length/\bJ=cs++ys/\L'<=maxLen/\L'*cX<=140737488355328)))else none
          |_=>none
        | .d (.v (.slice none 0 0))=>some (.vec h.length 0 gF L' k,h++[.vec e k bJ],Ec h k (ρ y) ys/\bJ=ys/\gF=ys.length/\L'=ys.length/\L'<=maxLen/\L'*cX<=140737488355328)
        | .full xs=>some (.vec h.length 0 gF L' k,h++[.vec e k bJ],xs=[]/\Ec h k (ρ y) ys/\bJ=ys/\gF=ys.length/\L'=ys.length/\L'<=maxLen/\L'*cX<=140737488355328)
        |_=>none
       else none
       |_,_=>none
      |_,_,_=>none
     |_,_=>none
   |_=>none
 |_=>none
def HZ(mx:Bool)(k:IntKind):Int->apH AV->apJ (IntKind×Int)
 |a,[]=>some (k,a)
 |a, .d (.v (.int _ b))::l=>HZ mx k (bif mx then(if b>a then b else a)else(if b<a then b else a)) l
 |_,_=>none
def BV(mx:Bool):apH AV->apJ (IntKind×Int)
 | .d (.v (.int k a))::l=>HZ mx k a l
 |_=>none
def cm(P:apK)(o:Oper)(ρ:Operand->AV)(h:apH an)(C:AV->apH an->Prop):Prop:=
 match o.op with
 | .move x| .assign x=>C (ρ x) h
 | .pick c a b=>match ρ c with
   | .d (.v (.bool t))=>(t=true->C (ρ a) h)/\(t=false->C (ρ b) h)
   |_=>False
 | .alloc e=>match iw P e with
   |some z=>C (.ptr h.length 0) (h++[an.cells (z.cells.toList.map λu=> .d (.v u))])
   |none=>False
 | .box _ x=>gq (ρ x).jw<|C (.ptr h.length 0) (h++[an.cells (ρ x).cells])
 | .load t a=>oI P t h (ρ a) λx=>C x h
 | .store t a x=>yt P t h (ρ a) (ρ x) λh'=>C (.d (.v undef)) h'
 | .nilCheck x=>match ρ x with
   | .ptr n off=>C (.ptr n off) h
   | .bz xs i off=>C (.bz xs i off) h
   | .fn f cs=>C (.fn f cs) h
   |_=>False
 | .fieldAddr S x f=>match tz P S f with
   |some (fo,_,_)=>match ρ x with
    | .ptr n off=>C (.ptr n (off+fo)) h
    | .bz xs i off=>C (.bz xs i (off+fo)) h
    |_=>False
   |none=>False
 | .field T x f=>x6 P T (ρ x) f λy=>C y h
 | .indexAddr T x i=>tC P T (ρ x) (ρ i) λy=>C y h
 | .index T x i=>match ρ x,(ρ i).int? with
   | .d (.v (.string b)),some z=>gq (strT P T) (0<=z/\(match b[z.toNat]? with|some c=>C (.d (.v (.int .u8 c.toNat))) h|none=>False))
   |_,_=>False
 | .build T ps=>yJ P T (ps.toList.map λp=>(p.1,ρ p.2)) λy=>C y h
 | .buildSlice T len ps=>yo P T len (ps.toList.map λp=>(p.1,ρ p.2)) λy=>C y h
 | .slice T x lo hi mx=>u6 P T ρ (ρ x) lo hi mx λy=>C y h
 | .extract x i=>match ρ x with
   | .bA cs=>match cs[i]? with
     |some c=>C c h
     |none=>False
   |_=>False
 | .makeFunc (.func f) first cU=>match NI f (first.toList.map ρ) (cU.toList.map ρ)with
   |some x=>C x h
   |none=>False
 | .binOp op T x y _=>yz P T op (ρ x) (ρ y) λv=>C v h
 | .unOp op _ x=>xc op (ρ x) λv=>C v h
 | .convert a b x=>w6 P a b (ρ x) λv=>C v h
 | .call c=>match c.callee with
   | .builtin .len=>match c.args.toList,c.argTypes.toList with
     |[x],[T]=>sV P T (ρ x) λn=>C (.d (.v (.int .i64 n))) h
     |_,_=>False
   | .builtin .append=>match c.args.toList,c.argTypes.toList with
     |[x,y],[T,U]=>gq (eE P U).isSome<|uW P T h (ρ x) (ρ y) λv h'=>C v h'
     |_,_=>False
   | .builtin .max=>match BV true (c.args.toList.map ρ)with
     |some (k,a)=>C (.d (.v (.int k a))) h
     |none=>False
   | .builtin .min=>match BV false (c.args.toList.map ρ)with
     |some (k,a)=>C (.d (.v (.int k a))) h
     |none=>False
   | .value f=>match ρ f with
     | .fn g cU=>cx P g (c.args.toList.map ρ++cU) h λr h'=>C r h'
     | .hid q=>∃g as,q.app (c.args.toList.map ρ)=some (g,as)/\cx P g as h λr h'=>C r h'
     |_=>False
   |_=>False
 |op=>match pN P op ρ h with
  |some (x,h',p)=>p.ok/\C x h'
  |none=>False
def Gf(P:apK)(o:Oper)(K:St->Prop)(s:St):Prop:=
 match o.op with
 | .binOp op T x y _=>match (ev s x).fA,ev s y,eE P T,xy op true,xy op false with
   |some xs, .d (.v (.slice none 0 0)),some _,some v1,some v2=>(xs=[]->K (s.put o.dst (.d (.v v1))))/\K (s.put o.dst (.d (.v v2)))
   |_,_,_,_,_=>False
 |_=>False
def He(P:apK)(o:Oper)(K:St->Prop)(s:St):Prop:=∃a x h' p,iq P o.op (ev s) s.h a=some (x,h',p)/\p/\K ((s.wh h').put o.dst x)
def rC(P:apK)(o:Oper)(K:St->Prop)(s:St):Prop:=cm P o (ev s) s.h λx h=>K ((s.wh h).put o.dst x)
def ahF(P:apK)(o:Oper)(K:St->Prop)(s:St):Prop:=He P o K s\/Gf P o K s\/rC P o K s
theorem kZ(b o n:Nat):(⟨b,o,none⟩:Addr).add n=⟨b,o+n,none⟩:=by unfold Addr.add;split<;>simp_all
structure cA(G:Gh)(w:World)(a:Act)(s:St):Prop where
 size:a.tmps.size=s.n
 tmp:∀i,aD G w (a.tmps.getD i undef) (bp s.t i)
 inv:Inv G w s.h
 df:se G w a.defers
theorem nN.av{G:Gh}{w:apM}{u:apL}{c:e9}(h:nN G.S w u c):aD G w u c.av:=by
 cases h with
 |d h=>exact .d h
 |bz c off b o u h1 h2=>exact .bz [c] 0 off b o u c rfl h1 h2
 |fn f vs cs hl h=>exact .hid (.fn f vs cs hl h) rfl
 |dS f vs cs hl h=>exact .hid (.dS f vs cs hl h) rfl
theorem aD.kG{G:Gh}{w:apM}{u:apL}{x:AV}(h:aD G w u x)(hb:x.kG=true):u.oneCell'=true:=by
 cases h with
 |d hp=>cases hp with
  |v u=>exact hb
  |sl=>rfl
 |agg=>simp [AV.kG]at hb
 |bA=>simp [AV.kG]at hb
 |own n xs _ hp=>cases hp;rfl
 |vec n o len L k _ hs=>obtain⟨A,l,c,rfl⟩:=hs;rfl
 |di n i j L k _ hs=>obtain⟨b,q,rfl⟩:=hs;rfl
 |full xs hp=>cases hp;rfl
 |hid h h1=>exact h1
 |dead=>simp [AV.kG]at hb
 |_=>rfl
theorem aD.cells{G:Gh}{w:apM}{u:apL}{x:AV}(h:aD G w u x)(hb:x.jw=true):
 u.cells.size=x.cells.length/\∀(i:Nat)(v:apL)(c:AV),u.cells[i]?=some v->x.cells[i]?=some c->aD G w v c/\v.oneCell'=true:=by
 have one:x.kG=true->x.cells=[x]->u.cells.size=x.cells.length/\∀(i:Nat)(v:apL)(c:AV),u.cells[i]?=some v->x.cells[i]?=some c->aD G w v c/\v.oneCell'=true:=by
  intro hc hx;have ho:=h.kG hc;have hu:u.cells= #[u]:=by cases u<;>simp_all [Value.cells,Value.oneCell']
  rw[hu,hx];refine⟨rfl,λi v c h1 h2=> ?_⟩
  match i with
  |0=>simp at h1 h2;subst h1;subst h2;exact⟨h,ho⟩
  |i+1=>simp at h2
 cases x with
 |agg cs=>
  cases h with
  |agg vs cs hl hr=>
   refine⟨hl,λi v c h1 h2=> ?_⟩;have hv:=hr i v c h1 h2;refine⟨hv,hv.kG ?_⟩;simp only[AV.jw,api]at hb;exact hb c (ao5 h2)
 |bA cs=>simp [AV.jw,AV.kG]at hb
 |dead=>simp [AV.jw,AV.kG]at hb
 |_=>exact one hb rfl
theorem Inv.lt{G:Gh}{w:apM}{h:apH an}(hi:Inv G w h){n:Nat}{B:an}(hb:h[n]?=some B):n<G.N:=by
 rw[<-hi.len];exact(aoS.1 hb).1
theorem Inv.gx{G:Gh}{w:apM}{h:apH an}(hi:Inv G w h){n b:Nat}(hb:bB h G n=some b):b<w.heap.size:=by
 obtain⟨B,hB,hb⟩:=nL hb;have hr:=hi.cu n B hB;cases B with
 |gone=>cases hb
 |cells cs=>
  obtain⟨_,_,vs,T,hh,_⟩:=hr;cases hb
  exact(ao7.1 hh).1
 |lp ls p as bd cs=>
  obtain⟨_,_,fn,vs,T,hh,_⟩:=hr;cases hb
  exact(ao7.1 hh).1
 |it sn cs=>
  obtain⟨_,_,fn,vs,T,hh,_⟩:=hr;cases hb
  exact(ao7.1 hh).1
 |aT T0 cs=>
  obtain⟨_,_,fn,vs,T,hh,_⟩:=hr;cases hb
  exact(ao7.1 hh).1
 |map kv=>
  obtain⟨_,_,es,c,hh,_⟩:=hr;cases hb
  exact(ao7.1 hh).1
 |fR kv=>
  obtain⟨_,_,es,c,hh,_⟩:=hr;cases hb
  exact(ao7.1 hh).1
 |front e k len=>
  have hb:G.ow n=some b:=hb;obtain⟨_,_,h1|⟨g,cap,cur,h1,_,_,hh,_⟩⟩:=hr
  ·rw[h1.1]at hb;cases hb
  ·rw[h1]at hb;cases hb;exact(ao7.1 hh).1
 |bg e b2=>
  have hb:G.ow n=some b:=hb;obtain⟨_,_,h1|⟨g,cap,cur,h1,_,_,hh,_⟩⟩:=hr
  ·rw[h1.1]at hb;cases hb
  ·rw[h1]at hb;cases hb;exact(ao7.1 hh).1
 |vec e k cs=>
  have hb:G.ow n=some b:=hb;obtain⟨_,_,_,h1|⟨g,cap,cur,h1,_,_,hh,_⟩⟩:=hr
  ·rw[h1.1]at hb;cases hb
  ·rw[h1]at hb;cases hb;exact(ao7.1 hh).1
theorem dB.lB{G:Gh}{w:apM}{n b:Nat}{B:an}(hr:dB G w n B)(hb:B.dC G n=some b):¬G.Z b:=by
 cases B with
 |gone=>cases hb
 |cells cs=>cases hb;exact hr.1
 |lp ls p as bd cs=>cases hb;exact hr.1
 |it sn cs=>cases hb;exact hr.1
 |aT T0 cs=>cases hb;exact hr.1
 |map kv=>cases hb;exact hr.1
 |fR kv=>cases hb;exact hr.1
 |front e k len=>
  have hb:G.ow n=some b:=hb;obtain⟨_,_,h1|⟨g,cap,cur,h1,_,hz,_⟩⟩:=hr
  ·rw[h1.1]at hb;cases hb
  ·rw[h1]at hb;cases hb;exact hz
 |bg e b2=>
  have hb:G.ow n=some b:=hb;obtain⟨_,_,h1|⟨g,cap,cur,h1,_,hz,_⟩⟩:=hr
  ·rw[h1.1]at hb;cases hb
  ·rw[h1]at hb;cases hb;exact hz
 |vec e k cs=>
  have hb:G.ow n=some b:=hb;obtain⟨_,_,_,h1|⟨g,cap,cur,h1,_,hz,_⟩⟩:=hr
  ·rw[h1.1]at hb;cases hb
  ·rw[h1]at hb;cases hb;exact hz
theorem o8.aS{S S':Nat->Nat->Prop}{w w':apM}{es:Array MapEntry}{c:Nat}{kv:apH (apI×D)}(h:o8 S w es c kv)(hS:∀b o,S b o->S' b o)(hc:∀b o,S b o->w'.cell? ⟨b,o,none⟩=w.cell? ⟨b,o,none⟩):o8 S' w' es c kv:=
 ⟨h.size,h.stamped,λe he=>let ⟨s,d,h1,h2,h3⟩:=h.dY e he;⟨s,d,h1,h2,h3.aS hS hc⟩,h.all,h.len,h.born,h.A5⟩
theorem vl.aS{S S':Nat->Nat->Prop}{w w':apM}{es:Array MapEntry}{c:Nat}{kv:apH (apI×D)}(h:vl S w es c kv)(hS:∀b o,S b o->S' b o)(hc:∀b o,S b o->w'.cell? ⟨b,o,none⟩=w.cell? ⟨b,o,none⟩):vl S' w' es c kv:=
 ⟨h.ok.aS hS hc,λi e he=>let ⟨p,h1,h2,h3⟩:=h.ord i e he;⟨p,h1,h2,h3.aS hS hc⟩,h.all⟩
theorem dB.aS{G G':Gh}{w w':apM}{n:Nat}(hn:n<G.N)(hE:bx G.N G w G' w')(hN:G.N<=G'.N){B:an}
 (hg:G'.fl n=G.fl n/\G'.sg n=G.sg n/\G'.ow n=G.ow n)
 (ho:∀b,B.dC G n=some b->w'.heap[b]?=w.heap[b]?/\∀o,¬G.S b o->¬G'.S b o)
 (h:dB G w n B):dB G' w' n B:=by
 obtain⟨f1,f2,f3⟩:=hg;cases B with
 |gone=>trivial
 |cells cs=>
  obtain⟨h1,h2,vs,T,h3,h4,h5⟩:=h;obtain⟨c2,c1⟩:=ho _ rfl;refine⟨by rw[hE.aI n hn];exact hE.lB (ao7.1 h3).1 h1,by rw[hE.aI n hn];exact λo=>c1 o (h2 o),vs,T,by rw[hE.aI n hn,c2];exact h3,h4,λi u c hu hc=>(h5 i u c hu hc).aS hE hN⟩
 |lp ls p as bd cs=>
  obtain⟨h1,h2,fn,vs,T,h3,h4,h5⟩:=h;obtain⟨c2,c1⟩:=ho _ rfl;refine⟨by rw[hE.aI n hn];exact hE.lB (ao7.1 h3).1 h1,by rw[hE.aI n hn];exact λo=>c1 o (h2 o),fn,vs,T,by rw[hE.aI n hn,c2];exact h3,h4,λi u c hu hc=>(h5 i u c hu hc).aS hE hN⟩
 |it sn cs=>
  obtain⟨h1,h2,fn,vs,T,h3,h4,h5⟩:=h;obtain⟨c2,c1⟩:=ho _ rfl;refine⟨by rw[hE.aI n hn];exact hE.lB (ao7.1 h3).1 h1,by rw[hE.aI n hn];exact λo=>c1 o (h2 o),fn,vs,T,by rw[hE.aI n hn,c2];exact h3,h4,λi u c hu hc=>(h5 i u c hu hc).aS hE hN⟩
 |aT T0 cs=>
  obtain⟨h1,h2,fn,vs,T,h3,h4,h5⟩:=h;obtain⟨c2,c1⟩:=ho _ rfl;refine⟨by rw[hE.aI n hn];exact hE.lB (ao7.1 h3).1 h1,by rw[hE.aI n hn];exact λo=>c1 o (h2 o),fn,vs,T,by rw[hE.aI n hn,c2];exact h3,by rw[hE.aI n hn];exact h4,λi u c hu hc=>(h5 i u c hu hc).aS hE hN⟩
 |map kv=>
  obtain⟨h1,h2,es,c,h3,h4⟩:=h;obtain⟨c2,c1⟩:=ho _ rfl;exact⟨by rw[hE.aI n hn];exact hE.lB (ao7.1 h3).1 h1,by rw[hE.aI n hn];exact λo=>c1 o (h2 o),es,c,by rw[hE.aI n hn,c2];exact h3,h4.aS hE.S hE.cell⟩
 |fR kv=>
  obtain⟨h1,h2,es,c,h3,h4⟩:=h;obtain⟨c2,c1⟩:=ho _ rfl;exact⟨by rw[hE.aI n hn];exact hE.lB (ao7.1 h3).1 h1,by rw[hE.aI n hn];exact λo=>c1 o (h2 o),es,c,by rw[hE.aI n hn,c2];exact h3,h4.aS hE.S hE.cell⟩
 |bg e b=>
  obtain⟨h1,hm,h2⟩:=h;refine⟨f1.trans h1,hm,?_⟩;rcases h2 with⟨h2,h0,A,h3⟩|⟨g,cap,cur,h2,h3,h4,h5,h6,h7,h8,h9,bM⟩
  ·exact .inl ⟨f3.trans h2,h0,A,f2.trans h3⟩
  ·obtain⟨f5,f6⟩:=ho g h2;exact .inr ⟨g,cap,cur,f3.trans h2,f2.trans h3,hE.lB (ao7.1 h5).1 h4,f5.trans h5,h6,h7,h8,λo=>f6 o (h9 o),bM⟩
 |front e k len=>
  obtain⟨h1,hm,h2⟩:=h;refine⟨f1.trans h1,hm,?_⟩;rcases h2 with⟨h2,A,h3⟩|⟨g,cap,cur,h2,h3,h4,h5,h6,h7,h8,h9⟩
  ·exact .inl ⟨f3.trans h2,A,f2.trans h3⟩
  ·obtain⟨f5,f6⟩:=ho g h2;exact .inr ⟨g,cap,cur,f3.trans h2,f2.trans h3,hE.lB (ao7.1 h5).1 h4,f5.trans h5,h6,h7,h8,λo ho=>f6 o (h9 o ho)⟩
 |vec e k cs=>
  obtain⟨h1,hm,hk,h2⟩:=h;refine⟨f1.trans h1,hm,hk,?_⟩;rcases h2 with⟨h2,e2,A,h3⟩|⟨g,cap,cur,h2,h3,h4,h5,h6,h7,h8,h9,bM⟩
  ·exact .inl ⟨f3.trans h2,e2,A,f2.trans h3⟩
  ·obtain⟨f5,f6⟩:=ho g h2;exact .inr ⟨g,cap,cur,f3.trans h2,f2.trans h3,hE.lB (ao7.1 h5).1 h4,f5.trans h5,h6,h7,h8,λo=>f6 o (h9 o),λi j c x u hc hx hu=>(bM i j c x u hc hx hu).aS hE hN⟩
theorem cA.put{G:Gh}{w:apM}{a:Act}{s:St}(h:cA G w a s){v:apL}{x:AV}(hv:aD G w v x)(dst:apJ Nat):cA G w (a.put dst v) (s.put dst x):=by
 cases dst with
 |none=>exact h
 |some d=>
  by_cases hd:d<s.n
  ·have e1:s.put (some d) x={s with t:=(d,x)::s.t}:=rG hd x;rw[e1];refine⟨by simp [Act.put,h.size],λi=> ?_,h.inv,h.df⟩;by_cases hi:i=d
   ·subst hi;have:(a.tmps.setIfInBounds i v).getD i undef=v:=by simp [Array.getD,h.size,hd]
    simp only[Act.put,this,mX,if_true];exact hv
   ·have:(a.tmps.setIfInBounds d v).getD i undef=a.tmps.getD i undef:=by simp [Array.getElem?_setIfInBounds_ne (Ne.symm hi)]
    simp only[Act.put,this,mX,if_neg hi];exact h.tmp i
  ·have e1:s.put (some d) x=s:=Ds hd x;have e2:a.put (some d) v=a:=by
    have:a.tmps.setIfInBounds d v=a.tmps:=Array.setIfInBounds_eq_of_size_le (by rw[h.size];omega);simp [Act.put,this]
   rw[e1,e2];exact h
theorem cA.move{G G':Gh}{w w':apM}{a:Act}{s:St}(h:cA G w a s)(hE:bx G.N G w G' w')(hN:G.N<=G'.N){h':apH an}(hi:Inv G' w' h'):cA G' w' a {s with h:=h'}:=
 ⟨h.size,λi=>(h.tmp i).aS hE hN,hi,h.df.aS hE⟩
theorem cA.ev{G:Gh}{w:apM}{a:Act}{s:St}(h:cA G w a s)(x:Operand):aD G w (a.eval x) (ev s x):=by
 cases x with
 |tmp t=>exact h.tmp t
 |const v=>
  show aD G w v (PG v);unfold PG;split
  ·rename_i vs
   exact .agg vs _ (by simp) λi u c hu hc=>by
    simp only[aoZ,apf,hu,Option.map_some,Option.some.injEq]at hc;subst hc;exact .d (.v u)
  ·rename_i vs
   exact .bA vs _ (by simp) λi u c hu hc=>by
    simp only[aoZ,apf,hu,Option.map_some,Option.some.injEq]at hc;subst hc;exact .d (.v u)
  ·exact .d (.v v)
 |global g=>
  show aD G w (.pointer (some ⟨g,0,none⟩)) (match zy yY g with|some l=> .bz [l.map .v] 0 0|none=> .dead);split
  ·next l hl=>
   have hg:=h.inv.gl.1 g l (Te hl);have:=aD.bz (G:=G) (w:=w) [l.map .v] 0 0 g 0 (λj=>l.getD j undef) (l.map .v) rfl (λj hj=> ?_) (λj d hd=> ?_)
   ·exact this
   ·rw[aoX]at hj;have e:l[j]?=some l[j]:=aoW hj;rw[apc];refine⟨(hg j _ e).1,?_⟩;rw[(hg j _ e).2];simp [hj]
   ·rw[aoZ]at hd;cases e:l[j]? with
    |none=>rw[e]at hd;cases hd
    |some v=>
     rw[e]at hd;cases hd
     have:l.getD j undef=v:=by simp [List.getD,e]
     rw[this];exact .v v
  ·exact .dead _
 |func f=>exact .fn f #[] [] rfl λi u c hu=>by simp at hu
def Gh.cG(G:Gh)(b:Nat):Gh:={G with N:=G.N+1,aI:=λn=>if n=G.N then b else G.aI n}
theorem uk(G:Gh)(w:apM)(hz:∀b,G.Z b->b<w.heap.size)(hS:∀b o,G.S b o->b<w.heap.size)(o:Obj):bx G.N G w (G.cG w.heap.size) (w.alloc o):=
 ⟨by simp,λ_ _ h=>h,λb _ h=>World.cell?_alloc_lt _ _ _ (hS _ _ h),λn hn=>by simp [Gh.cG,Nat.ne_of_lt hn],λ_ _=> .inl ⟨rfl,rfl⟩,fY rfl,
  λb hb=>Below.heap_alloc w o b (hz b hb),rfl,rfl,rfl,λ_ _ h=> .inl h⟩
theorem acC{G:Gh}{w:apM}{h:apH an}(hi:Inv G w h)(vs:Array apL)(T:TypeId)(cs:apH AV)(hl:vs.size=cs.length)
 (hr:∀(i:Nat)(u:apL)(c:AV),vs[i]?=some u->cs[i]?=some c->aD G w u c):
 Inv (G.cG w.heap.size) (w.alloc (.cells vs T)) (h++[.cells cs])/\aD (G.cG w.heap.size) (w.alloc (.cells vs T)) (.pointer (some ⟨w.heap.size,0,none⟩)) (.ptr h.length 0):=by
 have hE:=uk G w hi.z hi.S (.cells vs T);have hN:G.N<=(G.cG w.heap.size).N:=Nat.le_succ _;have fO:(G.cG w.heap.size).aI h.length=w.heap.size:=by simp [Gh.cG,hi.len]
 have lg:∀n(B:an),n<G.N->B.dC (G.cG w.heap.size) n=B.dC G n:=λn B hn=>by
  cases B<;>simp [an.dC,Gh.cG,Nat.ne_of_lt hn]
 have e7:∀n,n<G.N->bB (h++[.cells cs]) (G.cG w.heap.size) n=bB h G n:=λn hn=>by
  have aH:n<h.length:=by rw[hi.len];exact hn
  unfold bB;rw[ao2 aH,aoW aH];exact lg n _ hn
 have sS:bB (h++[.cells cs]) (G.cG w.heap.size) h.length=some w.heap.size:=by
  rw[cZ (B:= .cells cs) (by simp)];exact congrArg some fO
 refine⟨⟨by simp [Gh.cG,hi.len],λb hb=>apg (hi.z b hb) hE.size,λb o hs=>apg (hi.S b o hs) hE.size,λn B hB=> ?_,λm n b hm hn=> ?_,hi.gl.aS hE⟩,?_⟩
 ·by_cases hn:n<h.length
  ·rw[ao2 hn]at hB;have ee:n<G.N:=hi.len▸hn;exact dB.aS ee hE hN ⟨rfl,rfl,rfl⟩ (λb hb=>⟨Below.heap_alloc w _ _ (hi.gx (n:=n) ((cZ hB).trans hb)),λo h=>h⟩) (hi.cu n B hB)
  ·have jT:n=h.length:=by
    have:=(aoS.1 hB).1;simp at this;omega
   subst jT;simp at hB;subst hB;exact⟨by rw[fO];exact λhz=>apx _ (hi.z _ hz),λo hs=>by rw[fO]at hs;exact apx _ (hi.S _ _ hs),vs,T,by rw[fO];exact World.alloc_heap_new w _,hl,λi u c hu hc=>(hr i u c hu hc).aS hE hN⟩
 ·have key:∀n b,bB (h++[.cells cs]) (G.cG w.heap.size) n=some b->(n<G.N/\bB h G n=some b)\/(n=h.length/\b=w.heap.size):=λn b hn=>by
   by_cases aH:n<G.N
   ·exact .inl ⟨aH,by rw[<-e7 n aH];exact hn⟩
   ·by_cases e:n=h.length
    ·subst e;rw[sS]at hn;cases hn;exact .inr ⟨rfl,rfl⟩
    ·rw[wx (apo (by simp;have:=hi.len;omega))]at hn;cases hn
  rcases key m b hm with⟨_,jf⟩|⟨rfl,rfl⟩<;>rcases key n _ hn with⟨_,ee⟩|⟨rfl,hb⟩
  ·exact hi.inj m n b jf ee
  ·have:=hi.gx jf;omega
  ·have:=hi.gx ee;omega
  ·rfl
 ·have:=aD.ptr (G:=G.cG w.heap.size) (w:=w.alloc (.cells vs T)) h.length 0 (by simp [Gh.cG,hi.len])
  rwa [fO]at this
theorem MG(w:apM)(g:Nat)(cs:Array apL):(w.setRow g cs).heap.size=w.heap.size:=by simp [World.setRow]
theorem amE(w:apM)(g:Nat)(cs:Array apL)(b o:Nat)(h:b≠g):(w.setRow g cs).cell? ⟨b,o,none⟩=w.cell? ⟨b,o,none⟩:=World.cell?_of_block (setRow_other w g b cs h)
theorem al5{G:Gh}{w:apM}{g:Nat}(cs:Array apL)(hg:¬G.Z g)(hS:∀b o,G.S b o->(w.setRow g cs).cell? ⟨b,o,none⟩=w.cell? ⟨b,o,none⟩):bx G.N G w G (w.setRow g cs):=
 ⟨by rw[MG];exact ao3 _,λ_ _ h=>h,hS,λ_ _=>rfl,λ_ _=> .inl ⟨rfl,rfl⟩,fY rfl,λb hb=>setRow_other w g b cs (λe=>hg (e▸hb)),rfl,rfl,rfl,λ_ _ h=> .inl h⟩
theorem FX(cs ys:apH AV)(off:Nat)(h:off+ys.length<=cs.length):(jj cs off ys).length=cs.length:=by
 simp [jj];omega
theorem an3{R:apL->AV->Prop}(vs us:Array apL)(cs ys:apH AV)(off:Nat)(hl:vs.size=cs.length)(hu:us.size=ys.length)(hb:off+ys.length<=cs.length)
 (hr:∀(i:Nat)(u:apL)(c:AV),vs[i]?=some u->cs[i]?=some c->R u c) (qp:∀(i:Nat)(u:apL)(c:AV),us[i]?=some u->ys[i]?=some c->R u c):
 ∀(i:Nat)(u:apL)(c:AV),(vs.toList.take off++us.toList++vs.toList.drop (off+us.toList.length)).toArray[i]?=some u->(jj cs off ys)[i]?=some c->R u c:=by
 intro i u c h1 h2;have oP:us.toList.length=ys.length:=by rw[apq,hu]
 rw[oP]at h1;rw[List.getElem?_toArray]at h1;unfold jj at h2;simp only[ao9]at h1 h2;have yg:vs.toList.length=cs.length:=by rw[apq,hl]
 by_cases h:i<off
 ·rw[ao2 (by simp;omega),List.getElem?_take_of_lt h]at h1;rw[ao2 (by simp;omega),List.getElem?_take_of_lt h]at h2;exact hr i u c (by rw[<-apf];exact h1) h2
 ·rw[ao8 (by simp;omega)]at h1 h2;simp only[List.length_take,yg]at h1 h2;rw[Nat.min_eq_left (by omega)]at h1 h2;by_cases h':i-off<ys.length
  ·rw[ao2 (by rw[oP];exact h')]at h1;rw[ao2 h']at h2;exact qp (i-off) u c (by rw[<-apf];exact h1) h2
  ·rw[ao8 (by rw[oP];omega),List.getElem?_drop]at h1;rw[ao8 (by omega),List.getElem?_drop]at h2;rw[oP]at h1;rw[show off+ys.length+(i-off-ys.length)=i by omega]at h1 h2;exact hr i u c (by rw[<-apf];exact h1) h2
theorem ahL{P:apK}{G:Gh}{w:apM}{h:apH an}(hi:Inv G w h){n off:Nat}{cs:apH AV}(hn:h[n]?=some (.cells cs)){t:TypeId}{v:apL}{x:AV}
 (hv:aD G w v x) (hb:x.jw=true) (ht:fQ P t=some x.cells.length) (ho:off+x.cells.length<=cs.length):
 ∃w',(storeVar t ⟨G.aI n,off,none⟩ v).run P w= .ok () w'/\bx G.N G w G w'/\Inv G w' (h.set n (.cells (jj cs off x.cells))):=by
 obtain⟨hz,hS,vs,T,hh,hl,hr⟩:=hi.cu n _ hn;obtain⟨AO,Xw⟩:=hv.cells hb;obtain⟨i,jN,kJ⟩:∃i,P.info? t=some i/\i.size=x.cells.length:=by
  unfold fQ at ht;cases hq:P.info? t with
  |none=>rw[hq]at ht;cases ht
  |some i=>rw[hq]at ht;exact⟨i,rfl,by simpa using ht⟩
 have lY:=run_storeCells_at P (G.aI n) off T v.cells.toList 0 vs w hh (by rw[apq,AO,hl];simpa using ho) (λu hu=>by
  obtain⟨j,hj⟩:=List.mem_iff_getElem?.1 hu;have iC:v.cells[j]?=some u:=by rw[<-apf];exact hj
  have BT:j<x.cells.length:=by rw[<-AO];exact(ao7.1 iC).1
  exact(Xw j u _ iC (aoW BT)).2)
 simp only[Nat.add_zero]at lY;obtain⟨w',eH⟩:∃w',w'=w.setRow (G.aI n) (vs.toList.take off++v.cells.toList++vs.toList.drop (off+v.cells.toList.length)).toArray:=⟨_,rfl⟩;rw[<-eH]at lY;have hE:bx G.N G w G w':=by
  rw[eH];exact al5 _ hz λb o hs=>amE w _ _ b o (λe=>hS o (e▸hs))
 have ej:∀m,m≠n->(h.set n (.cells (jj cs off x.cells)))[m]?=h[m]?:=λm hm=>by rw[apr (Ne.symm hm)]
 have kN:(h.set n (.cells (jj cs off x.cells)))[n]?=some (.cells (jj cs off x.cells)):=by
  rw[apl (aoS.1 hn).1]
 have dQ:∀m,bB (h.set n (.cells (jj cs off x.cells))) G m=bB h G m:=λm=>by
  by_cases e:m=n
  ·subst e;rw[cZ kN,cZ hn];rfl
  ·unfold bB;rw[ej m e]
 have kM:bB h G n=some (G.aI n):=cZ hn;refine⟨w',?_,hE,⟨by rw[List.length_set];exact hi.len,λb hb=>apg (hi.z b hb) hE.size,λb o hs=>apg (hi.S b o hs) hE.size,λm B hB=> ?_,λm m' b h1 h2=>hi.inj m m' b (by rw[<-dQ];exact h1) (by rw[<-dQ];exact h2),hi.gl.aS hE⟩⟩
 ·unfold storeVar;simp only[sizeOf,typeInfo,Sem.run_bind,AO];simp [jN,kJ,lY]
 ·by_cases e:m=n
  ·subst e;rw[kN]at hB;cases hB
   refine⟨hz,hS,_,T,by rw[eH];exact setRow_heap w _ vs _ T _ hh,?_,λi u c hu hc=> ?_⟩
   ·rw[FX _ _ _ ho];have:v.cells.toList.length=x.cells.length:=by rw[apq];exact AO
    simp only[List.size_toArray,aoT,List.length_take,List.length_drop,apq,hl,AO];omega
   ·exact(an3 (R:=aD G w) vs v.cells cs x.cells off hl AO ho hr (λi u c h1 h2=>(Xw i u c h1 h2).1) i u c hu hc).aS hE (ao3 _)
  ·rw[ej m e]at hB;have cp:∀b,bB h G m=some b->b≠G.aI n:=λb hb eb=>e (hi.inj m n b hb (by rw[eb];exact kM));refine dB.aS (hi.lt hB) hE (ao3 _) ⟨rfl,rfl,rfl⟩ (λb hb=>⟨?_,λo h=>h⟩) (hi.cu m B hB);rw[eH];exact setRow_other w _ _ _ (cp _ ((cZ hB).trans hb))
theorem dd.pP{S:Nat->Nat->Prop}{w:apM}{v:apL}{xs:apH (apH D)}(h:dd S w v (.sl xs)):
 ∃(A:apJ Addr)(b o c k:Nat)(u:Nat->Nat->apL),v= .slice A xs.length c/\(xs≠ []->A=some ⟨b,o,none⟩)/\xs.length<=c/\c<=maxLen/\(∀x∈xs,x.length=k)/\
  (∀i j,i<xs.length->j<k->S b (o+i*k+j)/\w.cell? ⟨b,o+i*k+j,none⟩=some (u i j)/\(u i j).oneCell'=true)/\
  (∀(i j:Nat)(x:apH D)(d:D),xs[i]?=some x->x[j]?=some d->dd S w (u i j) d):=by
 cases h with
 |sl A b o c k xs u hA hc hm hk hS hu=>exact⟨A,b,o,c,k,u,rfl,hA,hc,hm,hk,hS,hu⟩
structure Rd(S:Nat->Nat->Prop)(w:World)(k:Nat)(xs:List (List D))(us:List Value):Prop where
 len:us.length=xs.length*k
 wid:∀x∈xs,x.length=k
 one:∀u∈us,u.oneCell'=true
 rel:∀(i j:Nat)(x:List D)(d:D),xs[i]?=some x->x[j]?=some d->∃u,us[i*k+j]?=some u/\dd S w u d
theorem Rd.aS{S S':Nat->Nat->Prop}{w w':apM}{k:Nat}{xs:apH (apH D)}{us:apH apL}(h:Rd S w k xs us)(hS:∀b o,S b o->S' b o)(hc:∀b o,S b o->w'.cell? ⟨b,o,none⟩=w.cell? ⟨b,o,none⟩):Rd S' w' k xs us:=
 ⟨h.len,h.wid,h.one,λi j x d hx hd=>let ⟨u,h1,h2⟩:=h.rel i j x d hx hd;⟨u,h1,h2.aS hS hc⟩⟩
theorem Rd.append{S:Nat->Nat->Prop}{w:apM}{k:Nat}{xs ys:apH (apH D)}{us vs:apH apL}(h:Rd S w k xs us)(h':Rd S w k ys vs):Rd S w k (xs++ys) (us++vs):=by
 refine⟨by rw[aoT,aoT,h.len,h'.len,Nat.add_mul],λx hx=> ?_,λu hu=> ?_,λi j x d hx hd=> ?_⟩
 ·rcases apv.1 hx with hx|hx
  ·exact h.wid x hx
  ·exact h'.wid x hx
 ·rcases apv.1 hu with hu|hu
  ·exact h.one u hu
  ·exact h'.one u hu
 ·by_cases hi:i<xs.length
  ·rw[ao2 hi]at hx;obtain⟨u,h1,h2⟩:=h.rel i j x d hx hd;exact⟨u,by rw[ao2 (aoS.1 h1).1];exact h1,h2⟩
  ·rw[ao8 (by omega)]at hx;obtain⟨u,h1,h2⟩:=h'.rel (i-xs.length) j x d hx hd;refine⟨u,?_,h2⟩;have e:i*k+j=xs.length*k+((i-xs.length)*k+j):=by rw[Nat.sub_mul];have:=Nat.mul_le_mul_right k (Nat.le_of_not_lt hi);omega
   rw[e,ao8 (by rw[h.len];omega),h.len,Nat.add_sub_cancel_left];exact h1
theorem Rd.KM{S:Nat->Nat->Prop}{w:apM}{k:Nat}{xs:apH (apH D)}{us:apH apL}(h:Rd S w k xs us)(b c:Nat)(hc:xs.length<=c)(hm:c<=maxLen)
 (hS:∀o,o<xs.length*k->S b o) (gz:∀(o:Nat)(u:apL),us[o]?=some u->w.cell? ⟨b,o,none⟩=some u):dd S w (.slice (some ⟨b,0,none⟩) xs.length c) (.sl xs):=by
 refine .sl _ b 0 c k xs (λi j=>us.getD (i*k+j) undef) (λ_=>rfl) hc hm h.wid (λi j hi hj=> ?_) (λi j x d hx hd=> ?_)
 ·have aH:i*k+j<xs.length*k:=by
   have:(i+1)*k<=xs.length*k:=Nat.mul_le_mul_right k hi;rw[Nat.add_mul]at this;omega
  have hg:us[i*k+j]?=some (us[i*k+j]'(by rw[h.len];exact aH)):=aoW (by rw[h.len];exact aH);rw[apc];refine⟨hS _ aH,?_,?_⟩
  ·rw[gz _ _ hg];simp [hg]
  ·simp only[List.getD_eq_getElem?_getD,hg,Option.getD_some];exact h.one _ (List.getElem_mem _)
 ·obtain⟨u,h1,h2⟩:=h.rel i j x d hx hd;simp only[List.getD_eq_getElem?_getD,h1,Option.getD_some];exact h2
theorem dd.rd{S:Nat->Nat->Prop}{w:apM}{v:apL}{xs:apH (apH D)}{k:Nat}(h:dd S w v (.sl xs))(gL:0<k)(hk:∀x∈xs,x.length=k):
 ∃us,Rd S w k xs us/\∃A c,v= .slice A xs.length c/\xs.length<=c/\c<=maxLen/\(xs≠ []->∃b o,A=some ⟨b,o,none⟩/\∀(j:Nat)(u:apL),us[j]?=some u->S b (o+j)/\w.cell? ⟨b,o+j,none⟩=some u):=by
 obtain⟨A,b,o,c,k',u,rfl,hA,hc,hm,lF,hS,hu⟩:=h.pP;by_cases hx:xs=[]
 ·subst hx;exact⟨[],⟨by simp,(λ_ h=>by cases h),(λ_ h=>by cases h),λi j x d hx=>by simp at hx⟩,A,c,rfl,hc,hm,λh=>absurd rfl h⟩
 ·have ek:k'=k:=by
   obtain⟨x,pz⟩:=List.exists_mem_of_ne_nil xs hx;rw[<-lF x pz,hk x pz]
  subst ek;refine⟨(List.range (xs.length*k')).map λt=>u (t / k') (t%k'),⟨by simp,hk,λv hv=> ?_,λi j x d hx hd=> ?_⟩,A,c,rfl,hc,hm,λcp=>⟨b,o,hA cp,λj v hv=> ?_⟩⟩
  ·obtain⟨t,ht,rfl⟩:=List.mem_map.1 hv;have q9:=List.mem_range.1 ht;exact(hS (t / k') (t%k') (Nat.div_lt_of_lt_mul (by rw[Nat.mul_comm];exact q9)) (Nat.mod_lt _ gL)).2.2
  ·have hj:j<k':=by rw[<-hk x (ao5 hx)];exact(aoS.1 hd).1
   have hi:i<xs.length:=(aoS.1 hx).1;refine⟨u i j,?_,hu i j x d hx hd⟩;have aH:i*k'+j<xs.length*k':=by
    have:(i+1)*k'<=xs.length*k':=Nat.mul_le_mul_right k' hi;rw[Nat.add_mul]at this;omega
   rw[aoZ,List.getElem?_range aH];simp only[Option.map_some,Option.some.injEq];rw[show(i*k'+j)/ k'=i by rw[Nat.add_comm,Nat.add_mul_div_right _ _ gL,Nat.div_eq_of_lt hj,apc],show(i*k'+j)%k'=j by rw[Nat.add_comm,Nat.add_mul_mod_self_right,Nat.mod_eq_of_lt hj]]
  ·rw[aoZ]at hv;by_cases hj:j<xs.length*k'
   ·rw[List.getElem?_range hj]at hv;simp only[Option.map_some,Option.some.injEq]at hv;subst hv;have:=hS (j / k') (j%k') (Nat.div_lt_of_lt_mul (by rw[Nat.mul_comm];exact hj)) (Nat.mod_lt _ gL);have e:o+j / k'*k'+j%k'=o+j:=by have:=Nat.div_add_mod j k';rw[Nat.mul_comm]at this;omega
    rw[e]at this;exact⟨this.1,this.2.1⟩
   ·rw[apo (by simp;omega)]at hv;cases hv
theorem dd.src{P:apK}{S:Nat->Nat->Prop}{w:apM}{v:apL}{xs:apH (apH D)}{k:Nat}(h:dd S w v (.sl xs))(gL:0<k)(hk:∀x∈xs,x.length=k){tx e':TypeId}(ht:P.underlying tx=some (.slice e')):
 ∃us,Rd S w k xs us/\Src P k tx v xs.length us w:=by
 obtain⟨us,hr,A,c,rfl,_,_,hA⟩:=h.rd gL hk;refine⟨us,hr,?_⟩;by_cases hx:xs=[]
 ·subst hx;have mo:us=[]:=List.eq_nil_of_length_eq_zero (by rw[hr.len];simp);subst mo;cases A with
  |none=>exact Src.ofNil w ht c
  |some a=>exact Src.ofSlice w ht a 0 c [] (by simp) (λj u hu=>by simp at hu) (λu hu=>by cases hu)
 ·obtain⟨b,o,rfl,hc⟩:=hA hx;exact Src.ofSlice w ht _ _ c us hr.len (λj u hu=>by rw[kZ];exact(hc j u hu).2) hr.one
def Gh.ia(G:Gh)(v:apL)(len:Nat):Gh:=
 {G with N:=G.N+1,sg:=λn=>if n=G.N then v else G.sg n,fl:=λn=>if n=G.N then len else G.fl n,ow:=λn=>if n=G.N then none else G.ow n}
theorem Qw{G:Gh}{w:apM}{h:apH an}(hi:Inv G w h){v:apL}{xs:apH (apH D)}(hv:dd G.S w v (.sl xs))(hf:∃A,v= .slice A xs.length xs.length)(e:TypeId)(k:Nat):
 bx G.N G w (G.ia v xs.length) w/\G.N<=(G.ia v xs.length).N/\Inv (G.ia v xs.length) w (h++[.front e k xs.length])/\aD (G.ia v xs.length) w v (.own h.length xs):=by
 have cp:∀n,n<G.N->n≠G.N:=λn hn=>Nat.ne_of_lt hn;have hE:bx G.N G w (G.ia v xs.length) w:=⟨ao3 _,λ_ _ h=>h,λ_ _ _=>rfl,λ_ _=>rfl,λn hn=> .inl ⟨by simp [Gh.ia,cp n hn],by simp [Gh.ia,cp n hn]⟩,fY rfl,λ_ _=>rfl,rfl,rfl,rfl,λ_ _ h=> .inl h⟩;have hN:G.N<=(G.ia v xs.length).N:=Nat.le_succ _;have hml:xs.length<=maxLen:=by
  obtain⟨A,b,o,c,k',u,_,_,h1,h2,_⟩:=hv.pP;exact apa h1 h2
 have lg:∀n(B:an),n<G.N->B.dC (G.ia v xs.length) n=B.dC G n:=λn B hn=>by
  cases B<;>simp [an.dC,Gh.ia,Nat.ne_of_lt hn]
 have hold:∀n b,bB (h++[.front e k xs.length]) (G.ia v xs.length) n=some b->bB h G n=some b:=λn b hb=>by
  by_cases hn:n<h.length
  ·unfold bB at hb ⊢;rw[ao2 hn,aoW hn]at hb;rw[aoW hn];rw[<-hb];exact(lg n _ (hi.len▸hn)).symm
  ·by_cases en:n=h.length
   ·subst en;rw[cZ (B:= .front e k xs.length) (by simp)]at hb;simp [an.dC,Gh.ia,hi.len]at hb
   ·rw[wx (apo (by simp;omega))]at hb;cases hb
 refine⟨hE,hN,⟨by simp [Gh.ia,hi.len],hi.z,hi.S,λn B hB=> ?_,λm n b hm hn=>hi.inj m n b (hold m b hm) (hold n b hn),hi.gl.aS hE⟩,?_⟩
 ·by_cases hn:n<h.length
  ·rw[ao2 hn]at hB;have ee:n<G.N:=hi.len▸hn;exact dB.aS ee hE hN ⟨by simp [Gh.ia,cp n ee],by simp [Gh.ia,cp n ee],by simp [Gh.ia,cp n ee]⟩ (λb hb=>⟨rfl,λo h=>h⟩) (hi.cu n B hB)
  ·have jT:n=h.length:=by
    have:=(aoS.1 hB).1;simp at this;omega
   subst jT;simp at hB;subst hB;obtain⟨A,hA⟩:=hf;exact⟨by simp [Gh.ia,hi.len],hml, .inl ⟨by simp [Gh.ia,hi.len],A,by simp [Gh.ia,hi.len,hA]⟩⟩
 ·exact .own h.length xs (by simp [Gh.ia,hi.len]) hv (by simp [Gh.ia,hi.len]) (λ_=>by simp [Gh.ia,hi.len])
theorem PA{P:apK}{e k b:Nat}(hk:fQ P e=some k)(hb:qK P e=some b):∃i,P.info? e=some i/\i.size=k/\i.bytes=b:=by
 unfold fQ at hk;unfold qK at hb;cases hq:P.info? e with
 |none=>rw[hq]at hk;cases hk
 |some i=>rw[hq]at hk hb;exact⟨i,rfl,by simpa using hk,by simpa using hb⟩
def Gh.grow(G:Gh)(n:Nat)(S:Nat->Nat->Prop)(v:apL)(len:Nat)(ow:apJ Nat):Gh:=
 {G with S:=S,sg:=λm=>if m=n then v else G.sg m,fl:=λm=>if m=n then len else G.fl m,ow:=λm=>if m=n then ow else G.ow m}
theorem WE{G:Gh}{w w':apM}{h:apH an}(hi:Inv G w h){n e k len gF:Nat}(hn:h[n]?=some (.front e k len))(S:Nat->Nat->Prop)(v:apL)(g:Nat)
 (hE:bx G.N G w (G.grow n S v gF (some g)) w') (hg:g=w.heap.size\/G.ow n=some g) (hgw:g<w'.heap.size)
 (hS:∀b o,S b o->G.S b o\/b=g) (iT:∀b,b<w.heap.size->b≠g->w'.heap[b]?=w.heap[b]?)
 (hB:dB (G.grow n S v gF (some g)) w' n (.front e k gF)):Inv (G.grow n S v gF (some g)) w' (h.set n (.front e k gF)):=by
 have ej:∀m,m≠n->(h.set n (.front e k gF))[m]?=h[m]?:=λm hm=>by rw[apr (Ne.symm hm)]
 have kN:(h.set n (.front e k gF))[n]?=some (.front e k gF):=by rw[apl (aoS.1 hn).1]
 have lg:∀m(B:an),m≠n->B.dC (G.grow n S v gF (some g)) m=B.dC G m:=λm B hm=>by
  cases B<;>simp [an.dC,Gh.grow,hm]
 have dQ:∀m,m≠n->bB (h.set n (.front e k gF)) (G.grow n S v gF (some g)) m=bB h G m:=λm hm=>by
  unfold bB;rw[ej m hm];cases h[m]? with
  |none=>rfl
  |some B=>exact lg m B hm
 have w8:∀m,m≠n->bB h G m≠some g:=λm hm hb=>by
  rcases hg with hg|hg
  ·have:=hi.gx hb;omega
  ·exact hm (hi.inj m n g hb ((cZ hn).trans hg))
 refine⟨by rw[List.length_set];exact hi.len,λb hb=>apg (hi.z b hb) hE.size,λb o hs=> ?_,λm B hm=> ?_,λm m' b h1 h2=> ?_,hi.gl.aS hE⟩
 ·rcases hS b o hs with hs|hs
  ·exact apg (hi.S b o hs) hE.size
  ·rw[hs];exact hgw
 ·by_cases em:m=n
  ·subst em;rw[kN]at hm;cases hm;exact hB
  ·rw[ej m em]at hm;refine dB.aS (hi.lt hm) hE (ao3 _) ⟨by simp [Gh.grow,em],by simp [Gh.grow,em],by simp [Gh.grow,em]⟩ (λb hb=> ?_) (hi.cu m B hm);have hr:bB h G m=some b:=(cZ hm).trans hb;have cp:b≠g:=λe'=>w8 m em (by rw[hr,e']);refine⟨iT _ (hi.gx hr) cp,λo jq hs=> ?_⟩;rcases hS _ o hs with hs|hs
   ·exact jq hs
   ·exact cp hs
 ·by_cases e1:m=n<;>by_cases e2:m'=n
  ·rw[e1,e2]
  ·subst e1;rw[dQ m' e2]at h2;have:bB (h.set m (.front e k gF)) (G.grow m S v gF (some g)) m=some g:=by rw[cZ kN];simp [an.dC,Gh.grow]
   rw[this]at h1;cases h1;exact absurd h2 (w8 m' e2)
  ·subst e2;rw[dQ m e1]at h1;have:bB (h.set m' (.front e k gF)) (G.grow m' S v gF (some g)) m'=some g:=by rw[cZ kN];simp [an.dC,Gh.grow]
   rw[this]at h2;cases h2;exact absurd h1 (w8 m e1)
  ·rw[dQ m e1]at h1;rw[dQ m' e2]at h2;exact hi.inj m m' b h1 h2
set_option maxHeartbeats 1000000 in
theorem ZZ{P:apK}{G:Gh}{w:apM}{h:apH an}(hi:Inv G w h){T tx ty e k cX:Nat}{i:TypeInfo}{z:apL}(hT:P.underlying T=some (.slice e))(kS:P.info? e=some i)(hz:i.zero=some z)(om:i.size=k)(yc:i.bytes=cX)(jZ:z.cells.size=k)
 (gL:0<k) {n:Nat} {xs ys:apH (apH D)} (hn:h[n]?=some (.front e k xs.length)) {u v:apL} (hu:aD G w u (.own n xs)) (nV:∀x∈xs,x.length=k)
 {us:apH apL} (hr:Rd G.S w k ys us) (hs:Src P k tx v ys.length us w) (ym:xs.length+ys.length<=maxLen) (ql:(xs.length+ys.length)*cX<=140737488355328):
 ∃r w' G',(Builtin.append_ #[T,tx] ty #[u,v]).run P w= .ok r w'/\bx G.N G w G' w'/\G.N<=G'.N/\Inv G' w' (h.set n (.front e k (xs.length+ys.length)))/\aD G' w' r (.own n (xs++ys)):=by
 subst om;subst yc;have py:=hi.lt hn;obtain⟨mw,hml,hbr⟩:=hi.cu n _ hn;obtain⟨hp,huf⟩:dd G.S w u (.sl xs)/\u=G.sg n:=by
  cases hu with
  |own _ _ _ hp hle hf=>exact⟨hp,hf mw.symm⟩
 obtain⟨olds,zd,A,c,BD,kW,yb,hA⟩:=hp.rd gL nV;have M7:h.set n (.front e i.size (xs.length+0))=h:=by
  rw[Nat.add_zero];refine List.ext_getElem? λm=> ?_;by_cases em:m=n
  ·subst em;rw[apl (aoS.1 hn).1,hn]
  ·rw[apr (Ne.symm em)]
 by_cases hy:ys.length=0
 ·have kV:ys=[]:=List.eq_nil_of_length_eq_zero hy;subst kV;have mo:us=[]:=List.eq_nil_of_length_eq_zero (by rw[hr.len];simp);subst mo;have:=run_append_nothing (P:=P) w T tx ty e i hT kS A xs.length c kW v hs;refine⟨u,w,G,by rw[BD];exact this,bx.refl _ _ _,ao3 _,?_,by rw[apd];exact hu⟩;simp only[ao4];rw[M7];exact hi
 ·have hy0:0<ys.length:=Nat.pos_of_ne_zero hy;have NL:xs.length+ys.length<=9223372036854775807:=by simp only[maxLen]at ym;omega
  have Qk:Rd G.S w i.size (xs++ys) (olds++us):=zd.append hr;have grow:c<xs.length+ys.length->∃r w' G',(Builtin.append_ #[T,tx] ty #[u,v]).run P w= .ok r w'/\bx G.N G w G' w'/\G.N<=G'.N/\Inv G' w' (h.set n (.front e i.size (xs.length+ys.length)))/\aD G' w' r (.own n (xs++ys)):=by
   intro hg;have hold:(Builtin.firstCells i.size xs.length (.slice A xs.length c)).run P w.drew= .ok olds.toArray w.drew:=by
    by_cases hx:xs=[]
    ·subst hx;have:olds=[]:=List.eq_nil_of_length_eq_zero (by rw[zd.len];simp);subst this;cases A with
     |none=>exact run_firstCells_none _ _ _ _ _
     |some a=>exact run_firstCells_some _ _ _ _ _ _ [] (by simp) (λj u hu=>by simp at hu)
    ·obtain⟨b,o,rfl,hc⟩:=hA hx;exact run_firstCells_some _ _ _ _ _ _ olds zd.len (λj u hu=>by rw[kZ];exact(hc j u hu).2)
   have db:=run_append_grow_src (P:=P) w T tx ty e i z hT kS hz A xs.length c olds hold v ys.length us hs hg (by omega) (growslice_fits hg ql);obtain⟨cap,j7⟩:∃cap,cap=grownCap w (xs.length+ys.length) c e:=⟨_,rfl⟩;have jM:xs.length+ys.length<=cap:=by rw[j7];exact grownCap_ge _ _ _ _
   have hle:cap<=maxLen:=by rw[j7];exact grownCap_le_maxLen _ _ _ _ ym
   rw[<-j7]at db;obtain⟨cur,j9⟩:∃cur,cur=(olds++us).toArray++Builtin.zeroCells z.cells (cap-(xs.length+ys.length)):=⟨_,rfl⟩;rw[<-j9]at db;obtain⟨w',eH⟩:∃w',w'=w.drew.alloc (.cells cur e):=⟨_,rfl⟩;rw[<-eH]at db;have gd:cur.size=cap*i.size:=by
     have:=size_zeroCells z.cells (cap-(xs.length+ys.length));rw[j9,Array.size_append,this,List.size_toArray,Qk.len,jZ,aoT,<-Nat.add_mul]
     congr 1
     omega
   have e7:w'.heap[w.heap.size]?=some (.cells cur e (0,0)):=by rw[eH];exact World.alloc_heap_new w.drew _
   have RA:∀b,b<w.heap.size->w'.heap[b]?=w.heap[b]?:=λb hb=>by rw[eH];exact Below.heap_alloc w.drew _ b hb
   have eN:w'.heap.size=w.heap.size+1:=by rw[eH];simp
   obtain⟨S,hS⟩:∃S:Nat->Nat->Prop,S=λb o=>G.S b o\/(b=w.heap.size/\o<(xs.length+ys.length)*i.size):=⟨_,rfl⟩;have gz:∀b o,G.S b o->w'.cell? ⟨b,o,none⟩=w.cell? ⟨b,o,none⟩:=λb o hs=>World.cell?_of_block (RA b (hi.S b o hs));have hE:bx G.N G w (G.grow n S (.slice (some ⟨w.heap.size,0,none⟩) (xs.length+ys.length) cap) (xs.length+ys.length) (some w.heap.size)) w':=
    ⟨by rw[eN];exact Nat.le_succ _,λb o h=>by show S b o;rw[hS];exact .inl h,gz,λ_ _=>rfl,
     λm _=>by
      by_cases em:m=n
      ·right;subst em;simp only[Gh.grow,if_true,mw];omega
      ·left;exact⟨by simp [Gh.grow,em],by simp [Gh.grow,em]⟩,
     fY rfl,λb hb=>RA b (hi.z b hb),by rw[eH];rfl,by rw[eH];rfl,by rw[eH];rfl,λb o hs=>by
      have b8:S b o:=hs;rw[hS]at b8;rcases b8 with h|⟨rfl,_⟩
      ·exact .inl h
      ·exact .inr λhz=>apx _ (hi.z _ hz)⟩
   have hP:dd S w' (.slice (some ⟨w.heap.size,0,none⟩) (xs++ys).length cap) (.sl (xs++ys)):=by
    refine(Qk.aS (S':=S) (w':=w') (λb o h=>by rw[hS];exact .inl h) gz).KM w.heap.size cap (by rw[aoT];exact jM) hle (λo ho=>by rw[hS];exact .inr ⟨rfl,by rw[aoT]at ho;exact ho⟩) (λo x ho=> ?_);rw[cell_of_row w' w.heap.size o cur e (0,0) e7,j9,Array.getElem?_append_left (by simp only[List.size_toArray];exact(aoS.1 ho).1),List.getElem?_toArray];exact ho
   rw[aoT]at hP;refine⟨_,w',_,by rw[BD];exact db,hE,ao3 _,WE hi hn S _ w.heap.size hE (.inl rfl) (by rw[eN];exact apF _) (λb o hs=> ?_) (λb hb _=>RA b hb) ?_,?_⟩
   ·rw[hS]at hs;exact hs.imp id And.left
   ·refine⟨by simp [Gh.grow],ym, .inr ⟨w.heap.size,cap,cur,by simp [Gh.grow],by simp [Gh.grow],λhz=>apx _ (hi.z _ hz),e7,jM,hle,gd,λo ho hs=> ?_⟩⟩;have b8:S w.heap.size o:=hs;rw[hS]at b8;rcases b8 with b8|⟨_,b8⟩
    ·have:=hi.S _ _ b8;omega
    ·omega
   ·exact .own n (xs++ys) py hP (by simp [Gh.grow]) (λ_=>by simp [Gh.grow])
  rcases hbr with⟨iL,A',jS⟩|⟨g,cap,cur,iL,jS,pL,qJ,Ot,Pn,hb7,Xy⟩
  ·refine grow ?_;rw[huf,jS]at BD;cases BD
   omega
  ·have acm:=BD;rw[huf,jS]at acm;injection acm with eA0 _ e1;have e2:=e1.symm;subst e2;subst eA0;by_cases nM:xs.length+ys.length<=c
   ·
    have mg:xs.length*i.size+us.length<=cur.size:=by rw[hr.len,hb7,<-Nat.add_mul];exact Nat.mul_le_mul_right _ nM
    have Ct:∀o,w.cell? ⟨g,o,none⟩=cur[o]?:=λo=>cell_of_row w g o cur e (0,0) qJ;have Ax:∀j,j<us.length->(w.cell? ⟨g,0+xs.length*i.size+j,none⟩).isSome=true:=λj hj=>by
     rw[Ct,apc,ape (by omega)];rfl
    have db:=run_append_room_src (P:=P) w T tx ty e i hT kS g 0 xs.length c v ys.length us hs nM Ax
     (λj hj=>by unfold World.frozen?;rw[qJ];simp)
    rw[apc]at db Ax;obtain⟨w',eH⟩:∃w',w'=w.setCells g (xs.length*i.size) us:=⟨_,rfl⟩;rw[<-eH]at db;have aeY:g<w.heap.size:=(ao7.1 qJ).1;have lY:=run_storeCells_at P g (xs.length*i.size) e us 0 cur w qJ (by simpa using mg) hs.one;have yG:=run_storeCells_cells (P:=P) g (xs.length*i.size) us 0 w (by simpa using Ax) (λj hj=>by unfold World.frozen?;rw[qJ];simp) hs.one;simp only[Nat.add_zero]at lY yG;rw[lY]at yG;have yC:w'=w.setRow g (cur.toList.take (xs.length*i.size)++us++cur.toList.drop (xs.length*i.size+us.length)).toArray:=by
      rw[eH];injection yG with _ e2;exact e2.symm
    obtain⟨lk,PB⟩:∃lk:Array apL,lk=(cur.toList.take (xs.length*i.size)++us++cur.toList.drop (xs.length*i.size+us.length)).toArray:=⟨_,rfl⟩;rw[<-PB]at yC;have mf:w'.heap[g]?=some (.cells lk e (0,0)):=by rw[yC];exact setRow_heap w g cur lk e _ qJ
    have iT:∀b,b≠g->w'.heap[b]?=w.heap[b]?:=λb hb=>by rw[yC];exact setRow_other w g b lk hb
    have eN:w'.heap.size=w.heap.size:=by rw[yC];exact MG w g lk
    have im:∀o,lk[o]?=if o<xs.length*i.size then cur[o]? else if o<xs.length*i.size+us.length then us[o-xs.length*i.size]? else cur[o]?:=λo=>by
     rw[PB,List.getElem?_toArray,ao9];have hl:cur.toList.length=cur.size:=apq;by_cases h1:o<xs.length*i.size
     ·rw[if_pos h1,ao2 (by simp;omega),List.getElem?_take_of_lt h1,apf]
     ·rw[if_neg h1,ao8 (by simp;omega)];simp only[List.length_take,hl];rw[Nat.min_eq_left (by omega)];by_cases h2:o<xs.length*i.size+us.length
      ·rw[if_pos h2,ao2 (by omega)]
      ·rw[if_neg h2,ao8 (by omega),List.getElem?_drop,show xs.length*i.size+us.length+(o-xs.length*i.size-us.length)=o by omega,apf]
    have aiI:lk.size=cur.size:=by
     rw[PB];simp only[List.size_toArray,aoT,List.length_take,List.length_drop,apq];omega
    have gz:∀b o,G.S b o->w'.cell? ⟨b,o,none⟩=w.cell? ⟨b,o,none⟩:=λb o hs=>by
     by_cases eb:b=g
     ·subst eb;have ho:o<xs.length*i.size:=Nat.lt_of_not_le λhle=>Xy o hle hs;rw[Ct,cell_of_row w' b o lk e (0,0) mf,im,if_pos ho]
     ·exact World.cell?_of_block (iT b eb)
    obtain⟨S,hS⟩:∃S:Nat->Nat->Prop,S=λb o=>G.S b o\/(b=g/\o<(xs.length+ys.length)*i.size):=⟨_,rfl⟩;have hE:bx G.N G w (G.grow n S (.slice (some ⟨g,0,none⟩) (xs.length+ys.length) c) (xs.length+ys.length) (some g)) w':=
     ⟨by rw[eN];exact ao3 _,λb o h=>by show S b o;rw[hS];exact .inl h,gz,λ_ _=>rfl,
      λm _=>by
       by_cases em:m=n
       ·right;subst em;simp only[Gh.grow,if_true,mw];omega
       ·left;exact⟨by simp [Gh.grow,em],by simp [Gh.grow,em]⟩,
      fY rfl,λb hb=>iT b (λe=>pL (e▸hb)),by rw[yC];rfl,by rw[yC];rfl,by rw[yC];rfl,λb o hs=>by
       have b8:S b o:=hs;rw[hS]at b8;rcases b8 with h|⟨rfl,_⟩
       ·exact .inl h
       ·exact .inr pL⟩
    have hP:dd S w' (.slice (some ⟨g,0,none⟩) (xs++ys).length c) (.sl (xs++ys)):=by
     refine(Qk.aS (S':=S) (w':=w') (λb o h=>by rw[hS];exact .inl h) gz).KM g c (by rw[aoT];exact nM) Pn (λo ho=>by rw[hS];exact .inr ⟨rfl,by rw[aoT]at ho;exact ho⟩) (λo x ho=> ?_);rw[cell_of_row w' g o lk e (0,0) mf,im];have j6:olds.length=xs.length*i.size:=zd.len;by_cases h1:o<xs.length*i.size
     ·rw[if_pos h1];rw[ao2 (by omega)]at ho;have hx:xs≠ []:=λe=>by subst e;simp at h1
      obtain⟨b,o',eA,hc⟩:=hA hx;cases eA
      have:=(hc o x ho).2;rw[apc,Ct]at this;exact this
     ·rw[if_neg h1];rw[ao8 (by omega),j6]at ho;have:=(aoS.1 ho).1;rw[if_pos (by omega)];exact ho
    rw[aoT]at hP;refine⟨_,w',_,by rw[BD];exact db,hE,ao3 _,WE hi hn S _ g hE (.inr iL) (by rw[eN];exact aeY) (λb o hs=> ?_) (λb _ hb=>iT b hb) ?_,?_⟩
    ·rw[hS]at hs;exact hs.imp id And.left
    ·refine⟨by simp [Gh.grow],ym, .inr ⟨g,c,lk,by simp [Gh.grow],by simp [Gh.grow],pL,mf,nM,Pn,by rw[aiI,hb7],λo ho hs=> ?_⟩⟩;have b8:S g o:=hs;rw[hS]at b8;rcases b8 with b8|⟨_,b8⟩
     ·exact Xy o (apa (Nat.mul_le_mul_right _ (apy _ _)) ho) b8
     ·omega
    ·exact .own n (xs++ys) py hP (by simp [Gh.grow]) (λ_=>by simp [Gh.grow])
   ·exact grow (by omega)
def WF(r:apJ Nat):Fence:={Fence.wide with round:=r}
def iQ(N0:Nat)(G:Gh)(w:apM)(K:St->Prop)(a':Act)(w':apM):Prop:=∃G' s',bx N0 G w G' w'/\N0<=G'.N/\cA G' w' a' s'/\K s'
section
variable {P:apK} {r:apJ Nat} {n N0:Nat} {G:Gh} {w:apM} {a:Act} {s:St} {o:Oper} {K:St->Prop} {Q:Exit->Act->apM->Prop}
theorem mA(hop:∀c,o.op≠ .defer c)(hs:cA G w a s)(b6:N0<=G.N){v:apL}{x:AV}{w':apM}{G':Gh}{h':apH an}(hr:(execOp a.eval o).run P w= .ok (.value v) w')
 (hE:bx G.N G w G' w') (hN:G.N<=G'.N) (hi:Inv G' w' h') (hv:aD G' w' v x) (hK:K ((s.wh h').put o.dst x)):o.wpIn (WF r) n P a w (iQ N0 G w K) Q:=by
 refine⟨λ_ _=>trivial,?_⟩;rw[Oper.semAt_eq _ _ _ hop,hr];exact⟨G',_,hE.less b6,apa b6 hN,((hs.move hE hN hi).put hv o.dst),hK⟩
theorem fe(hop:∀c,o.op≠ .defer c)(hs:cA G w a s)(b6:N0<=G.N){v:apL}{x:AV}(hr:(execOp a.eval o).run P w= .ok (.value v) w)(hv:aD G w v x)(hK:K (s.put o.dst x)):
 o.wpIn (WF r) n P a w (iQ N0 G w K) Q:=
 mA hop hs b6 hr (bx.refl _ _ _) (ao3 _) hs.inv hv hK
theorem Ny(hop:∀c,o.op≠ .defer c)(hs:cA G w a s)(b6:N0<=G.N){w':apM}{G':Gh}{h':apH an}(hr:(execOp a.eval o).run P w= .ok .skip w')
 (hE:bx G.N G w G' w') (hN:G.N<=G'.N) (hi:Inv G' w' h') (hK:K ((s.wh h').put o.dst (.d (.v undef)))):o.wpIn (WF r) n P a w (iQ N0 G w K) Q:=by
 refine⟨λ_ _=>trivial,?_⟩;rw[Oper.semAt_eq _ _ _ hop,hr];exact⟨G',_,hE.less b6,apa b6 hN,((hs.move hE hN hi).put (.d (.v undef)) o.dst),hK⟩
theorem Xi{t k:Nat}(h:fQ P t=some k):∃i,P.info? t=some i/\i.size=k:=by
 unfold fQ at h;cases hq:P.info? t with
 |none=>rw[hq]at h;cases h
 |some i=>rw[hq]at h;exact⟨i,rfl,by simpa using h⟩
theorem KI{t:Nat}{z:apL}(h:iw P t=some z):∃i,P.info? t=some i/\i.zero=some z:=by
 unfold iw at h;cases hq:P.info? t with
 |none=>rw[hq]at h;cases h
 |some i=>rw[hq]at h;exact⟨i,rfl,by simpa using h⟩
theorem En{t:Nat}{z:apL}(h:iw P t=some z)(w:apM):(zeroValue t).run P w= .ok z w:=by
 obtain⟨i,h1,h2⟩:=KI h;simp [zeroValue,typeInfo,h1,h2]
theorem mB{t k:Nat}(h:fQ P t=some k)(w:apM):(sizeOf t).run P w= .ok k w:=by
 obtain⟨i,h1,h2⟩:=Xi h;simp [sizeOf,typeInfo,h1,h2]
theorem Ce{t:Nat}{g:Bool}(h:mn P t=some g)(w:apM):(isAgg t).run P w= .ok g w:=by
 unfold mn at h;cases hq:P.underlying t with
 |none=>rw[hq]at h;cases h
 |some d=>
  rw[hq]at h;unfold isAgg;rw[Sem.run_bind,run_underlying hq w];simp only[Option.map_some,Option.some.injEq]at h;subst h;cases d<;>rfl
theorem ajp{t:Nat}(h:mn P t=some true):∃d,P.underlying t=some d/\d.isRow=true:=by
 unfold mn at h;cases hq:P.underlying t with
 |none=>rw[hq]at h;cases h
 |some d=>rw[hq]at h;refine⟨d,rfl,?_⟩;cases d<;>simp_all [TypeDesc.isRow]
theorem XD{t:Nat}{C:AV->Prop}:∀(b o:Nat)(cs:apH AV)(off:Nat)(us:Nat->apL),(∀j,j<cs.length->w.cell? ⟨b,o+j,none⟩=some (us j))->(∀(j:Nat)(c:AV),cs[j]?=some c->aD G w (us j) c)->
 (match mn P t,fQ P t with
  |some true,some k=>gq (b7 (off+k) cs.length) (C (.agg ((cs.drop off).take k)))
  |some false,some _=>match cs[off]? with
   |some c=>C c
   |none=>False
  |_,_=>False)->∃u x,(loadVar t ⟨b,o+off,none⟩).run P w= .ok u w/\aD G w u x/\C x:=by
 intro b o cs off us h1 h2 h3;split at h3
 ·rename_i k hg hk
  obtain⟨hlen,hC⟩:=bN.1 h3;rw[dI]at hlen;obtain⟨d,Gc,mI⟩:=ajp hg;have L9:((List.range k).map λj=>us (off+j)).length=k:=by simp
  have db:=run_loadVar_mid (P:=P) w b (o+off) t ((List.range k).map λj=>us (off+j)) d (λj u hu=>by
   rw[aoZ]at hu;by_cases hj:j<k
   ·rw[List.getElem?_range hj]at hu;simp only[Option.map_some,Option.some.injEq]at hu;subst hu;have:=h1 (off+j) (by omega)
    rwa [<-Nat.add_assoc]at this
   ·rw[apo (by simp;omega)]at hu;cases hu) Gc mI (by rw[L9];exact hk)
  refine⟨_,_,db, .agg _ _ (by simp;omega) λi u c hu hc=> ?_,hC⟩;rw[List.getElem?_toArray,aoZ]at hu;rw[List.getElem?_take]at hc;split at hc
  ·rename_i om
   rw[List.getElem?_range om]at hu;simp only[Option.map_some,Option.some.injEq]at hu;subst hu;rw[List.getElem?_drop]at hc;exact h2 (off+i) c hc
  ·cases hc
 ·rename_i k hg hk
  split at h3
  ·rename_i c hc
   refine⟨us off,c,?_,h2 off c hc,h3⟩;unfold loadVar;rw[Sem.run_bind,Ce hg w];simp only[Result.andThen_ok,Bool.false_eq_true,if_false];unfold load;simp only[Sem.run,h1 off (aoS.1 hc).1]
  ·exact h3.elim
 ·exact h3.elim
theorem Ty{t:Nat}{p:AV}{v:apL}{C:AV->Prop}(hi:Inv G w s.h)(hv:aD G w v p)(h:oI P t s.h p C):∃u x,(Instr.loadAt t v).run P w= .ok u w/\aD G w u x/\C x:=by
 have key:=XD (P:=P) (G:=G) (w:=w) (t:=t) (C:=C);unfold oI ux at h;cases p with
 |ptr m off=>
  simp only at h;split at h
  ·rename_i cs hm
   obtain⟨_,_,vs,T,hh,hl,hr⟩:=hi.cu m _ hm;cases hv with
   |ptr _ _ yT=>
    obtain⟨u,x,h1,h2,h3⟩:=key (G.aI m) 0 cs off (λj=>vs.getD j undef) (λj hj=>by
     have iC:j<vs.size:=by rw[hl];exact hj
     rw[apc,cell_of_row w (G.aI m) j vs T (0,0) hh];simp [Array.getD,iC]) (λj c hc=>by
     have iC:j<vs.size:=by rw[hl];exact(aoS.1 hc).1
     exact hr j _ c (by simp [Array.getD,iC]) hc) h
    rw[apc]at h1;exact⟨u,x,by simp [Instr.loadAt,Instr.sureAddr,h1],h2,h3⟩
  ·exact h.elim
 |bz xs i off=>
  simp only at h;split at h
  ·rename_i cs gd
   cases hv with
   |bz _ _ _ b o us x hx hS hu=>
    rw[hx]at gd;cases gd
    obtain⟨u,y,h1,h2,h3⟩:=key b o (cs.map .d) off us (λj hj=>(hS j (by simpa using hj)).2) (λj c hc=>by
     rw[aoZ]at hc;cases hd:cs[j]? with
     |none=>rw[hd]at hc;cases hc
     |some d=>rw[hd]at hc;cases hc;exact .d (hu j d hd)) h
    exact⟨u,y,by simp [Instr.loadAt,Instr.sureAddr,h1],h2,h3⟩
  ·exact h.elim
 |_=>exact h.elim
theorem aD.list{u:apL}{x:AV}{xs:apH (apH D)}(h:aD G w u x)(hx:x.fA=some xs):dd G.S w u (.sl xs):=by
 unfold AV.fA at hx;split at hx
 ·cases hx;cases h with|d h=>exact h
 ·cases hx;cases h with|own _ _ _ h=>exact h
 ·cases hx;cases h with|full _ h=>exact h
 ·cases hx
  cases h with
  |d h=>
   cases h with
   |v=>exact .sl none 0 0 0 0 [] (λ_ _=>undef) (λh=>absurd rfl h) (ao3 _) (by simp) (λ_ h=>by cases h) (λi j hi=>by simp at hi) (λi j x d hx=>by simp at hx)
 ·cases hx
theorem aD.int{u:apL}{x:AV}{z:Int}(h:aD G w u x)(hx:x.int?=some z):∃k,u= .int k z:=by
 unfold AV.int? at hx;split at hx
 ·rename_i k m
  cases hx
  cases h with
  |d h=>cases h with|v=>exact⟨k,rfl⟩
 ·cases hx
theorem aD.bool{u:apL}{t:Bool}(h:aD G w u (.d (.v (.bool t)))):u= .bool t:=by
 cases h with|d h=>cases h with|v=>rfl
theorem aD.val{u v:apL}(h:aD G w u (.d (.v v))):u=v:=by
 cases h with|d h=>cases h with|v=>rfl
theorem jO{T e k:Nat}(h:eE P T=some (e,k)):P.underlying T=some (.slice e)/\fQ P e=some k:=by
 unfold eE at h;split at h
 ·rename_i e' he
  cases hq:fQ P e' with
  |none=>rw[hq]at h;cases h
  |some k'=>rw[hq]at h;simp at h;obtain⟨rfl,rfl⟩:=h;exact⟨he,hq⟩
 ·cases h
theorem MM{T m e k:Nat}(h:uR P T=some (m,e,k)):P.underlying T=some (.array m e)/\fQ P e=some k:=by
 unfold uR at h;split at h
 ·rename_i m' e' he
  cases hq:fQ P e' with
  |none=>rw[hq]at h;cases h
  |some k'=>rw[hq]at h;simp at h;obtain⟨rfl,rfl,rfl⟩:=h;exact⟨he,hq⟩
 ·cases h
theorem adY{T:Nat}{x i:AV}{u v:apL}{C:AV->Prop}(hu:aD G w u x)(hv:aD G w v i)(h:tC P T x i C):∃p y,(Instr.indexAt T u v).run P w= .ok p w/\aD G w p y/\C y:=by
 unfold tC at h;split at h
 ·rename_i e k hT
  obtain⟨eJ,fF⟩:=jO hT;split at h
  ·rename_i m off len cap k'
   split at h
   ·rename_i z hz
    obtain⟨uZ,h0,aH,hC⟩:=bN.1 h;rw[beq_iff_eq]at uZ;subst uZ;obtain⟨kz,rfl⟩:=hv.int hz;cases hu with
    |row _ _ _ _ _ hm hl qq=>
     have hN:(z.toNat:Int)=z:=Int.toNat_of_nonneg h0;refine⟨_,_,?_, .ptr m (off+z.toNat*k') hm,hC⟩;simp [Instr.indexAt,asIntOf,run_underlying eJ,h0,aH,mB fF,kZ]
   ·exact h.elim
  ·split at h
   ·rename_i xs z lJ hz
    obtain⟨h0,h⟩:=h;obtain⟨kz,rfl⟩:=hv.int hz;split at h
    ·rename_i c hc
     obtain⟨hk,hC⟩:=h;obtain⟨A,b,o,cc,k',us,rfl,hA,kW,yb,lF,hS,mo⟩:=(hu.list lJ).pP;have aH:z.toNat<xs.length:=(aoS.1 hc).1;have cp:xs≠ []:=λe=>by subst e;simp at aH
     have ek:k'=k:=by rw[<-lF c (ao5 hc),hk]
     subst ek;rw[hA cp];have wN:z<(xs.length:Int):=by omega
     refine⟨_, .bz [c] 0 0,?_, .bz [c] 0 0 b (o+z.toNat*k') (us z.toNat) c rfl (λj hj=> ?_) (λj d hd=>mo _ _ _ _ hc hd),hC⟩
     ·simp [Instr.indexAt,asIntOf,run_underlying eJ,h0,wN,mB fF,kZ]
     ·have:=hS z.toNat j aH (by rw[hk]at hj;exact hj);exact⟨this.1,this.2.1⟩
    ·exact h.elim
   ·exact h.elim
 ·split at h
  ·rename_i m e k b off z hT hz
   obtain⟨h0,aH,hC⟩:=h;obtain⟨eJ,fF⟩:=MM hT;obtain⟨kz,rfl⟩:=hv.int hz;cases hu with
   |ptr _ _ hb=>
    refine⟨_,_,?_, .ptr b (off+z.toNat*k) hb,hC⟩;simp [Instr.indexAt,Instr.sureAddr,asIntOf,run_underlying eJ,h0,aH,mB fF,kZ]
  ·rename_i m e k xs i' off z hT hz
   obtain⟨vF,h0,aH,h9⟩:=bN.1 h;rw[beq_iff_eq]at vF;subst vF;obtain⟨eJ,fF⟩:=MM hT;obtain⟨kz,rfl⟩:=hv.int hz;split at h9
   ·rename_i c hc
    split at h9
    ·rename_i d hd
     cases hu with
     |bz _ _ _ b o us c' im hS mo=>
      rw[hc]at im;cases im
      have ajT:=(aoS.1 hd).1;refine⟨_, .bz [[d]] 0 0,?_, .bz [[d]] 0 0 b (o+(off+z.toNat)) (λ_=>us (off+z.toNat)) [d] rfl (λj hj=> ?_) (λj d' gy=> ?_),h9⟩
      ·simp [Instr.indexAt,Instr.sureAddr,asIntOf,run_underlying eJ,h0,aH,mB fF,kZ,Nat.add_assoc]
      ·simp at hj;subst hj;exact hS _ ajT
      ·match j with
       |0=>simp at gy;subst gy;exact mo _ _ hd
       |j+1=>simp at gy
    ·exact h9.elim
   ·exact h9.elim
  ·exact h.elim
theorem sY{T:Nat}(h:strT P T=true):P.underlying T=some .string:=by
 unfold strT at h;split at h
 ·assumption
 ·cases h
theorem aiJ{T:Nat}{x:AV}{u:apL}{ty:Nat}{C:Nat->Prop}(hu:aD G w u x)(h:sV P T x C):∃m:Nat,(Builtin.len_ #[T] ty #[u]).run P w= .ok (.int .i64 m) w/\C m:=by
 have xT:∀(A:apJ Addr)(l c:Nat),(eE P T).isSome=true->(Builtin.len_ #[T] ty #[.slice A l c]).run P w= .ok (.int .i64 l) w:=by
  intro A l c hT;obtain⟨⟨e,k⟩,hT⟩:=Option.isSome_iff_exists.1 hT;simp [Builtin.len_,run_underlying (jO hT).1,goInt]
 unfold sV at h;split at h
 ·rename_i b
  have:=hu.val;subst this;obtain⟨hT,hC⟩:=bN.1 h;exact⟨b.size,by simp [Builtin.len_,run_underlying (sY hT),goInt],hC⟩
 ·cases hu with
  |row=>exact⟨_,xT _ _ _ (bN.1 h).1,(bN.1 h).2⟩
 ·split at h
  ·rename_i xs lJ
   obtain⟨A,b,o,c,k,us,rfl,_⟩:=(hu.list lJ).pP;exact⟨_,xT _ _ _ (bN.1 h).1,(bN.1 h).2⟩
  ·exact h.elim
def BW(a:Act)(x:apJ Operand)(d m:Nat):Prop:=match x with|none=>m=d|some y=>∃k z,a.eval y= .int k z/\0<=z/\m=z.toNat
theorem wD{x:apJ Operand}{d:Nat}{C:Nat->Prop}(hs:cA G w a s)(h:jV (ev s) x d C):∃m,C m/\BW a x d m:=by
 cases x with
 |none=>exact⟨_,h,rfl⟩
 |some y=>
  unfold jV at h;simp only at h;split at h
  ·rename_i z hz
   obtain⟨k,hk⟩:=(hs.ev y).int hz;exact⟨_,h.2,k,z,hk,h.1,rfl⟩
  ·exact h.elim
theorem AA{k:IntKind}{z:Int}{y:Nat}{code:BoundsCode}(h0:0<=z)(h:z.toNat<=y)(w:apM):(Instr.sliceBound (.int k z) y code).run P w= .ok z.toNat w:=by
 have:z<=(y:Int):=by omega
 simp [Instr.sliceBound,asIntOf,h0,this]
theorem CK{lo hi:apJ Operand}{len cap l h:Nat}{Bu:Bool}(j6:BW a lo 0 l)(rD:BW a hi len h)(hl:l<=h)(hh:h<=cap)(w:apM):
 (Instr.sliceBounds Bu len cap (lo.map a.eval) (hi.map a.eval) none).run P w= .ok (l,h,cap) w:=by
 unfold BW at j6 rD;cases lo with
 |none=>
  subst j6;cases hi with
  |none=>subst rD;simp [Instr.sliceBounds]
  |some y=>
   obtain⟨k,z,e,h0,rfl⟩:=rD;simp [Instr.sliceBounds,e,AA h0 hh]
 |some x=>
  obtain⟨k',z',e',XG,rfl⟩:=j6;cases hi with
  |none=>subst rD;simp [Instr.sliceBounds,e',AA XG hl]
  |some y=>
   obtain⟨k,z,e,h0,rfl⟩:=rD;simp [Instr.sliceBounds,e,e',AA h0 hh,AA XG hl]
theorem dd.part{S:Nat->Nat->Prop}{v:apL}{xs:apH (apH D)}{k:Nat}(hp:dd S w v (.sl xs))(hk:∀c∈xs,c.length=k){l h:Nat}(hl:l<=h)(hh:h<=xs.length):
 ∃A c,v= .slice A xs.length c/\xs.length<=c/\dd S w (.slice (if c=l then A else A.map (·.add (l*k))) (h-l) (c-l)) (.sl ((xs.take h).drop l)):=by
 obtain⟨A,b,o,c,k',us,rfl,hA,kW,yb,lF,hS,mo⟩:=hp.pP;refine⟨A,c,rfl,kW,?_⟩;have hlen:((xs.take h).drop l).length=h-l:=by simp;omega
 rw[<-hlen];by_cases hx:xs=[]
 ·subst hx;have e:((([]:apH (apH D)).take h).drop l)=[]:=by simp
  rw[e];exact .sl _ 0 0 (c-l) 0 [] (λ_ _=>undef) (λh=>absurd rfl h) (Nat.zero_le _) (by omega) (λ_ h=>by cases h) (λi j hi=>by simp at hi) (λi j x d hx=>by simp at hx)
 ·have ek:k'=k:=by
   obtain⟨x,pz⟩:=List.exists_mem_of_ne_nil xs hx;rw[<-lF x pz,hk x pz]
  subst ek;have ej:∀i,i<h-l->((xs.take h).drop l)[i]?=xs[l+i]?:=λi hi=>by
   rw[List.getElem?_drop,List.getElem?_take_of_lt (by omega)]
  refine .sl _ b (o+l*k') (c-l) k' _ (λi j=>us (l+i) j) (λcp=> ?_) (by rw[hlen];omega) (by omega) (λx hx=>hk x (List.mem_of_mem_take (List.mem_of_mem_drop hx))) (λi j hi hj=> ?_) (λi j x d hx hd=> ?_)
  ·have Rj:0<((xs.take h).drop l).length:=List.length_pos_iff.2 cp;rw[hlen]at Rj;rw[if_neg (by omega),hA hx];simp [kZ]
  ·rw[hlen]at hi;have:=hS (l+i) j (by omega) hj;rw[Nat.add_mul,<-Nat.add_assoc]at this;exact this
  ·have hi:=(aoS.1 hx).1;rw[hlen]at hi;rw[ej i hi]at hx;exact mo _ _ _ _ hx hd
theorem afu{T:Nat}{x:AV}{u:apL}{lo hi mx:apJ Operand}{C:AV->Prop}(hs:cA G w a s)(hu:aD G w u x)(h:u6 P T (ev s) x lo hi mx C):
 ∃p y,(Instr.sliceAt T u (lo.map a.eval) (hi.map a.eval) (mx.map a.eval)).run P w= .ok p w/\aD G w p y/\C y:=by
 unfold u6 at h;split at h
 ·split at h
  ·rename_i b
   obtain⟨hT,h⟩:=bN.1 h;have hT:=sY hT;have:=hu.val;subst this;obtain⟨m,h,hm⟩:=wD hs h;obtain⟨xt,h⟩:=h;obtain⟨l,h,hl⟩:=wD hs h;obtain⟨sr,h⟩:=h;refine⟨_,_,?_, .d (.v _),h⟩;have hb:=CK (P:=P) (Bu:=false) hl hm sr xt w;simp [Instr.sliceAt,Instr.slice,run_underlying hT,hb]
  ·rename_i m off
   split at h
   ·rename_i c e k hT
    rw[bN,dI]at h;obtain⟨yb,h⟩:=h;have yb:c<=maxLen:=by unfold maxLen;omega
    obtain⟨eJ,fF⟩:=MM hT;obtain⟨hh,h,hm⟩:=wD hs h;obtain⟨xt,h⟩:=bN.1 h;rw[dI]at xt;obtain⟨l,h,hl⟩:=wD hs h;obtain⟨sr,h⟩:=bN.1 h;simp only[aoU,dI,Bool.not_eq_true',<-Bool.not_eq_true,Nat.not_le]at sr;obtain⟨sr,kW⟩:=sr;have hb:=CK (P:=P) (Bu:=false) hl hm sr xt w;cases hu with
    |ptr _ _ yT=>
     refine⟨_,_,?_, .row m (off+l*k) (hh-l) (c-l) k yT (by omega) (by omega),h⟩;simp [Instr.sliceAt,Instr.sureAddr,run_underlying eJ,hb,mB fF,kZ,Nat.ne_of_gt kW]
   ·exact h.elim
  ·split at h
   ·rename_i xs e k lJ hT
    obtain⟨hk,h⟩:=h;obtain⟨eJ,fF⟩:=jO hT;obtain⟨hh,h,hm⟩:=wD hs h;obtain⟨xt,h⟩:=h;obtain⟨l,h,hl⟩:=wD hs h;obtain⟨sr,h⟩:=h;obtain⟨A,c,rfl,kW,hp⟩:=(hu.list lJ).part hk sr xt;have hb:=CK (P:=P) (Bu:=true) hl hm sr (apa xt kW) w;refine⟨_,_,?_, .d hp,h⟩;simp [Instr.sliceAt,Instr.slice,run_underlying eJ,hb,mB fF]
   ·exact h.elim
 ·rename_i y
  split at h
  case h_2=>exact h.elim
  rename_i yh
  split at h
  ·rename_i xs e k lJ hT
   obtain⟨hk,h⟩:=h;obtain⟨eJ,fF⟩:=jO hT;obtain⟨c',h3,hc⟩:=wD hs h;obtain⟨fX,h3⟩:=h3;obtain⟨hh,h4,hm⟩:=wD hs h3;obtain⟨rfl,h5⟩:=h4;clear h h3;obtain⟨k1,z1,e1,p1,q1⟩:=hc;obtain⟨k2,z2,e2,p2,q2⟩:=hm;obtain⟨A,c,rfl,kW,hp⟩:=(hu.list lJ).part hk (Nat.zero_le hh) fX;have M6:dd G.S w (.slice A hh hh) (.sl (xs.take hh)):=by
    have h1:(if c=0 then A else A.map (·.add (0*k)))=A:=by
     split
     ·rfl
     ·cases A<;>simp [Addr.add]
    rw[h1,aps]at hp;obtain⟨A',b,o,c2,k',us,e,r1,r2,r3,r4,r5,r6⟩:=hp.pP;have hl:(xs.take hh).length=hh:=by simp;omega
    injection e with eA e3 e4;subst eA;have:=dd.sl (S:=G.S) (w:=w) A b o hh k' (xs.take hh) us r1 (by omega) (by omega) r4 r5 r6
    rwa [hl]at this
   refine⟨.slice A hh hh, .full (xs.take hh),?_, .full _ M6 ⟨A,by simp;omega⟩,h5⟩;have b1:(Instr.sliceBound (.int k1 z1) c .slice3Acap).run P w= .ok hh w:=by rw[AA p1 (by omega),q1]
   have b2:(Instr.sliceBound (.int k2 z2) hh .slice3B).run P w= .ok hh w:=by rw[AA p2 (by omega),<-q2]
   simp only[Option.map_some,Option.map_none,e1,e2];have hA:A.map (·.add 0)=A:=by cases A<;>simp [Addr.add]
   simp [Instr.sliceAt,Instr.slice,Instr.sliceBounds,run_underlying eJ,b1,b2,mB fF,hA]
  ·exact h.elim
theorem P9:∀{cs:apH AV}{ds:apH D},nJ cs=some ds->ds.length=cs.length/\∀(i:Nat)(c:AV)(d:D),cs[i]?=some c->ds[i]?=some d->c.xw=some d
 |[],ds,h=>by simp [nJ]at h;subst h;simp
 |c::cs,ds,h=>by
  unfold nJ at h;split at h
  ·rename_i d l hd hl
   cases h
   obtain⟨h1,h2⟩:=P9 hl;refine⟨by simp [h1],λi c' d' hc gy=> ?_⟩
   match i with
   |0=>simp at hc gy;subst hc;subst gy;exact hd
   |i+1=>exact h2 i c' d' (by simpa using hc) (by simpa using gy)
  ·cases h
theorem dd.Bk{S:Nat->Nat->Prop}{w:apM}{u:apL}{x:D}(h:dd S w u x):dd S w u x.Bk:=by
 unfold D.Bk;split
 ·cases h with
  |v=>exact .sl none 0 0 0 0 [] (λ_ _=>undef) (λh=>absurd rfl h) (ao3 _) (Nat.zero_le _) (λ_ h=>absurd h apz) (λi j hi=>absurd hi (apk _)) (λi j x d hx=>by simp at hx)
 ·exact h
theorem aD.O7{u:apL}{x:AV}{d:D}(h:aD G w u x)(hx:x.xw=some d):dd G.S w u d:=by
 unfold AV.xw at hx;split at hx
 ·cases hx;cases h with|d h=>exact h.Bk
 ·cases hx;cases h with|own _ _ _ h=>exact h
 ·cases hx;cases h with|full _ h=>exact h
 ·cases hx
theorem ui(k:Nat):∀(m:Nat)(l:apH D),(ov k m l).length=m
 |0,_=>rfl
 |m+1,l=>by simp [ov,ui k m]
theorem Q7(k:Nat):∀(m:Nat)(l:apH D)(i:Nat),i<m->(ov k m l)[i]?=some ((l.drop (i*k)).take k)
 |0,_,_,h=>by omega
 |m+1,l,0,_=>by simp [ov]
 |m+1,l,i+1,h=>by
  have:=Q7 k m (l.drop k) i (by omega);rw[ov,apu,this,List.drop_drop,Nat.add_mul,Nat.one_mul,Nat.add_comm k]
theorem Z2{k m:Nat}{us:apH apL}{ds:apH D}(hl:ds.length=m*k)(hu:us.length=m*k)(h1:∀u∈us,u.oneCell'=true)
 (hr:∀(i:Nat)(u:apL)(d:D),us[i]?=some u->ds[i]?=some d->dd G.S w u d):Rd G.S w k (ov k m ds) us:=by
 have hb:∀i,i<m->(i+1)*k<=m*k:=λi hi=>Nat.mul_le_mul_right k hi;refine⟨by rw[ui,hu],λx hx=> ?_,h1,λi j x d hx hd=> ?_⟩
 ·obtain⟨i,hi⟩:=List.mem_iff_getElem?.1 hx;have Jv:i<m:=by have:=(aoS.1 hi).1;rwa [ui]at this
  rw[Q7 k m ds i Jv]at hi;cases hi
  have:=hb i Jv;rw[Nat.add_mul]at this;simp;omega
 ·have Jv:i<m:=by have:=(aoS.1 hx).1;rwa [ui]at this
  rw[Q7 k m ds i Jv]at hx;cases hx
  rw[List.getElem?_take]at hd;split at hd
  ·rw[List.getElem?_drop]at hd;have:=(aoS.1 hd).1;have aH:i*k+j<us.length:=by omega
   exact⟨us[i*k+j],aoW aH,hr _ _ _ (aoW aH) hd⟩
  ·cases hd
theorem amJ{k U e':Nat}{y:AV}{v:apL}{C:apH (apH D)->Prop}(hi:Inv G w s.h)(hv:aD G w v y)(hk:0<k)(hU:P.underlying U=some (.slice e'))(h:uH s.h k y C):
 ∃ys us,Rd G.S w k ys us/\Src P k U v ys.length us w/\C ys:=by
 unfold uH at h;split at h
 ·rename_i m off len cap k'
  split at h
  ·rename_i cs hm
   split at h
   ·rename_i ds sF
    obtain⟨eK,hC⟩:=bN.1 h;simp only[aoU,beq_iff_eq,dI]at eK;obtain⟨⟨rfl,hlen⟩,jh⟩:=eK;obtain⟨h1,h2⟩:=P9 sF;obtain⟨_,_,vs,T,hh,hl,hr⟩:=hi.cu m _ hm;cases hv with
    |row _ _ _ _ _ yT kW qq=>
     have hdl:ds.length=len*k':=by rw[h1];simp;omega
     have oP:((vs.toList.drop off).take (len*k')).length=len*k':=by simp;omega
     have Bf:∀(i:Nat)(u:apL)(c:AV),((vs.toList.drop off).take (len*k'))[i]?=some u->((cs.drop off).take (len*k'))[i]?=some c->aD G w u c:=λi u c hu hc=>by
      rw[List.getElem?_take]at hu hc;split at hu
      ·rename_i om
       rw[if_pos om]at hc;rw[List.getElem?_drop]at hu hc;exact hr _ u c (by rw[<-apf];exact hu) hc
      ·cases hu
     have fX:((cs.drop off).take (len*k')).length=len*k':=by simp;omega
     have W2:∀u∈(vs.toList.drop off).take (len*k'),u.oneCell'=true:=λu hu=>by
      obtain⟨i,hi⟩:=List.mem_iff_getElem?.1 hu;have kd:i<len*k':=by rw[<-oP];exact(aoS.1 hi).1
      have Ga:=aoW (l:=(cs.drop off).take (len*k')) (i:=i) (by rw[fX];exact kd);exact(Bf i u _ hi Ga).kG (api.1 jh _ (ao5 Ga))
     have Ed:=Z2 (G:=G) (w:=w) (k:=k') (m:=len) hdl oP W2 (λi u d hu hd=>by
      have kd:i<len*k':=by rw[<-oP];exact(aoS.1 hu).1
      have Ga:=aoW (l:=(cs.drop off).take (len*k')) (i:=i) (by rw[fX];exact kd);exact(Bf i u _ hu Ga).O7 (h2 i _ d Ga hd))
     refine⟨_,_,Ed,?_,hC⟩;rw[ui];refine Src.ofSlice w hU _ len cap _ oP (λj u hu=> ?_) W2;rw[List.getElem?_take]at hu;split at hu
     ·rw[List.getElem?_drop,apf]at hu;rw[kZ,cell_of_row w _ _ vs T (0,0) hh];exact hu
     ·cases hu
   ·exact h.elim
  ·exact h.elim
 ·split at h
  ·rename_i ys kV
   obtain⟨us,h1,h2⟩:=(hv.list kV).src (P:=P) hk h.1 hU;exact⟨ys,us,h1,h2,h.2⟩
  ·exact h.elim
theorem EH:dd G.S w (.slice none 0 0) (.sl []):=
 .sl none 0 0 0 0 [] (λ_ _=>undef) (λh=>absurd rfl h) (ao3 _) (by simp) (λ_ h=>by cases h) (λi j hi=>by simp at hi) (λi j x d hx=>by simp at hx)
theorem alL(h:apH an)(x y:an):(h++[x]).set h.length y=h++[y]:=by simp
theorem ajw{T U ty e':Nat}{x y:AV}{u v:apL}{C:AV->apH an->Prop}(hi:Inv G w s.h)(hu:aD G w u x)(hv:aD G w v y)(hU:P.underlying U=some (.slice e'))(h:uW P T s.h x y C):
 ∃p w' G' q h',(Builtin.append_ #[T,U] ty #[u,v]).run P w= .ok p w'/\bx G.N G w G' w'/\G.N<=G'.N/\Inv G' w' h'/\aD G' w' p q/\C q h':=by
 unfold uW at h;split at h
 ·rename_i e k hT
  obtain⟨eJ,fF⟩:=jO hT;split at h
  ·rename_i z cX hz ql
   obtain⟨eK,h⟩:=bN.1 h;simp only[aoU,beq_iff_eq,dI,apq]at eK;obtain⟨hk,jZ⟩:=eK;obtain⟨i,jN,kJ,Is⟩:=PA fF ql;have hi4:i.zero=some z:=by
    obtain⟨i',h1,h2⟩:=KI hz;rw[jN]at h1;cases h1;exact h2
   obtain⟨ys,us,hr,hs,h2⟩:=amJ hi hv hk hU h;clear h;have fresh:∀(xs:apH (apH D)),dd G.S w u (.sl xs)->(∃A,u= .slice A xs.length xs.length)->(∀c∈xs,c.length=k)->xs.length+ys.length<=maxLen->(xs.length+ys.length)*cX<=140737488355328->
    C (.own s.h.length (xs++ys)) (s.h++[.front e k (xs.length+ys.length)])->
    ∃p w' G' q h',(Builtin.append_ #[T,U] ty #[u,v]).run P w= .ok p w'/\bx G.N G w G' w'/\G.N<=G'.N/\Inv G' w' h'/\aD G' w' p q/\C q h':=by
    intro xs hp hf nV hm hb hC;obtain⟨a1,a2,a3,a4⟩:=Qw hi hp hf e k;obtain⟨p,w',G',r1,r2,r3,r4,r5⟩:=ZZ (P:=P) (ty:=ty) a3 eJ jN hi4 kJ Is jZ hk (n:=s.h.length) (xs:=xs) (ys:=ys) (by simp) a4 nV (hr.aS a1.S a1.cell) hs hm hb;rw[alL]at r4;exact⟨p,w',G',_,_,r1,a1.trans (r2.less a2),apa a2 r3,r4,r5,hC⟩
   split at h2
   ·rename_i m xs
    split at h2
    ·rename_i e2 k2 len hm
     obtain⟨eK,rfl,nV,qq,hb,hC⟩:=bN.1 h2;simp only[aoU,beq_iff_eq]at eK;obtain⟨rfl,rfl⟩:=eK;obtain⟨p,w',G',r1,r2,r3,r4,r5⟩:=ZZ (P:=P) (ty:=ty) hi eJ jN hi4 kJ Is jZ hk hm hu nV hr hs qq hb;exact⟨p,w',G',_,_,r1,r2,r3,r4,r5,hC⟩
    ·exact h2.elim
   ·have:=hu.val;subst this;obtain⟨qq,hb,hC⟩:=h2;exact fresh [] EH ⟨none,rfl⟩ (λ_ h=>by cases h) (by simpa using qq) (by simpa using hb) (by simpa using hC)
   ·rename_i xs
    obtain⟨nV,qq,hb,hC⟩:=h2;cases hu with
    |full _ hp hf=>exact fresh xs hp hf nV qq hb hC
   ·exact h2.elim
  ·exact h.elim
 ·exact h.elim
end
theorem WZ(off:Nat):∀(l:apH apL)(k:Nat)(cs:Array apL),((l.zipIdx k).foldl (λcs(p:apL×Nat)=>cs.setIfInBounds (off+p.2) p.1) cs).size=cs.size/\
 ∀i,off+k+l.length<=cs.size->((l.zipIdx k).foldl (λcs(p:apL×Nat)=>cs.setIfInBounds (off+p.2) p.1) cs)[i]?=if off+k<=i/\i<off+k+l.length then l[i-(off+k)]? else cs[i]?
 |[],k,cs=>⟨rfl,λi _=>by
    have h:¬(off+k<=i/\i<off+k+([]:apH apL).length):=by simp
    rw[if_neg h];rfl⟩
 |u::l,k,cs=>by
  obtain⟨h1,h2⟩:=WZ off l (k+1) (cs.setIfInBounds (off+k) u);simp only[List.zipIdx_cons,List.foldl_cons];refine⟨by rw[h1];simp,λi hi=> ?_⟩;simp only[aoV]at hi ⊢;rw[h2 i (by simp;omega)];by_cases ha:off+(k+1)<=i/\i<off+(k+1)+l.length
  ·rw[if_pos ha,if_pos ⟨by omega,by omega⟩];rw[show i-(off+k)=i-(off+(k+1))+1 by omega,apu]
  ·rw[if_neg ha];by_cases hb:i=off+k
   ·subst hb;rw[if_pos ⟨ao3 _,by omega⟩,Nat.sub_self,List.getElem?_cons_zero,Array.getElem?_setIfInBounds_self_of_lt (by omega)]
   ·rw[if_neg (by omega),Array.getElem?_setIfInBounds_ne (Ne.symm hb)]
section
variable {P:apK} {G:Gh} {w:apM}
structure Row(G:Gh)(w:World)(vs:Array Value)(cs:List AV):Prop where
 len:vs.size=cs.length
 rel:∀(i:Nat)(u:Value)(c:AV),vs[i]?=some u->cs[i]?=some c->aD G w u c
 one:∀(i:Nat)(u:Value),vs[i]?=some u->u.oneCell'=true
theorem alM{vs us:Array apL}{cs ys:apH AV}(h:Row G w vs cs)(h':Row G w us ys){off:Nat}(hb:off+ys.length<=cs.length):
 Row G w (us.zipIdx.foldl (λcs(p:apL×Nat)=>cs.setIfInBounds (off+p.2) p.1) vs) (jj cs off ys):=by
 have e:us.zipIdx.foldl (λcs(p:apL×Nat)=>cs.setIfInBounds (off+p.2) p.1) vs=(us.toList.zipIdx 0).foldl (λcs(p:apL×Nat)=>cs.setIfInBounds (off+p.2) p.1) vs:=by
  rw[<-Array.foldl_toList,Array.toList_zipIdx]
 obtain⟨h1,h2⟩:=WZ off us.toList 0 vs;rw[<-e]at h1 h2;have hl:us.toList.length=ys.length:=by rw[apq,h'.len]
 have hle:off+0+us.toList.length<=vs.size:=by rw[hl,h.len];omega
 have hs:∀i,(jj cs off ys)[i]?=if off+0<=i/\i<off+0+us.toList.length then ys[i-off]? else cs[i]?:=λi=>by
  unfold jj;rw[ao9];by_cases ha:i<off
  ·rw[ao2 (by simp;omega),List.getElem?_take_of_lt ha,if_neg (by omega)]
  ·rw[ao8 (by simp;omega)];simp only[List.length_take];rw[Nat.min_eq_left (by omega)];by_cases hb:i-off<ys.length
   ·rw[ao2 hb,if_pos (by omega)]
   ·rw[ao8 (by omega),List.getElem?_drop,if_neg (by omega),show off+ys.length+(i-off-ys.length)=i by omega]
 refine⟨by rw[h1,FX _ _ _ hb,h.len],λi u c hu hc=> ?_,λi u hu=> ?_⟩
 ·rw[h2 i hle]at hu;rw[hs]at hc;split at hu
  ·rename_i hp
   rw[if_pos hp]at hc;exact h'.rel _ _ _ (by rw[<-apf];exact hu) hc
  ·rename_i hp
   rw[if_neg hp]at hc;exact h.rel _ _ _ hu hc
 ·rw[h2 i hle]at hu;split at hu
  ·exact h'.one _ _ (by rw[<-apf];exact hu)
  ·exact h.one _ _ hu
theorem aD.WM{u:apL}{x:AV}(h:aD G w u x)(hb:x.jw=true):Row G w u.cells x.cells:=by
 obtain⟨h1,h2⟩:=h.cells hb;refine⟨h1,λi v c hv hc=>(h2 i v c hv hc).1,λi v hv=> ?_⟩;have aH:i<x.cells.length:=by rw[<-h1];exact(ao7.1 hv).1
 exact(h2 i v _ hv (aoW aH)).2
theorem Pz(place:Nat->apJ (Nat×Nat))(places:apH (Nat×Nat))(hp:∀i pl,places[i]?=some pl->place i=some pl):∀(ps:apH (Nat×AV))(qs:apH (Nat×apL))(cs bJ:apH AV)(vs:Array apL),Row G w vs cs->
 qs.length=ps.length->(∀(i:Nat)(p:Nat×AV)(q:Nat×apL),ps[i]?=some p->qs[i]?=some q->q.1=p.1/\aD G w q.2 p.2)->(ps.all λp=>p.2.jw)=true->pO places cs ps=some bJ->
 ∃dZ,Instr.fill place vs qs=some dZ/\Row G w dZ bJ
 |[],[],cs,bJ,vs,h,_,_,_,hf=>by
  simp only[pO,Option.some.injEq]at hf;subst hf;exact⟨vs,rfl,h⟩
 |[],_::_,_,_,_,_,hl,_,_,_=>by simp at hl
 |_::_,[],_,_,_,_,hl,_,_,_=>by simp at hl
 |(j,x)::ps,(j',u)::qs,cs,bJ,vs,h,hl,hr,hb,hf=>by
  obtain⟨e1,e2⟩:=hr 0 (j,x) (j',u) rfl rfl;simp only at e1 e2;subst e1;simp only[apD,aoU]at hb;unfold pO at hf;split at hf
  ·rename_i off k Fx
   rw[cond_eq_ite]at hf;split at hf
   ·rename_i hc
    simp only[aoU,beq_iff_eq,dI]at hc;have mf:=e2.WM hb.1;obtain⟨dZ,h1,h2⟩:=Pz place places hp ps qs _ bJ _ (alM h mf (by rw[hc.1];exact hc.2)) (by simpa using hl) (λi p q hp hq=>hr (i+1) p q (by simpa using hp) (by simpa using hq)) hb.2 hf;refine⟨dZ,?_,h2⟩;unfold Instr.fill;rw[hp _ _ Fx];have h3:¬(u.cells.size≠k||decide (off+u.cells.size>vs.size))=true:=by
     rw[mf.len,hc.1,h.len];simp;exact hc.2
    simp only[h3];exact h1
   ·cases hf
  ·cases hf
theorem acE{z:Array apL}(h:z.toList.all Value.oneCell'=true):z.all (·.oneCell')=true:=by
 rw[api]at h;exact Array.all_eq_true_iff_forall_mem.2 λu hu=>h u (Array.mem_toList_iff.2 hu)
theorem aho(z:apL)(h:z.cells.all (·.oneCell')=true):Row G w z.cells (z.cells.toList.map λu=> .d (.v u)):=by
 refine⟨by simp,λi u c hu hc=> ?_,λi u hu=>Array.all_eq_true_iff_forall_mem.1 h u (Array.mem_of_getElem? hu)⟩;rw[aoZ,apf,hu]at hc;cases hc
 exact .d (.v u)
theorem abZ:∀(fs:apH Field)(ps:apH (Nat×Nat))(w:apM),B8 P fs=some ps->(fs.mapM (m:=Sem) λf=>do pure (f.offset,<-sizeOf f.type)).run P w= .ok ps w
 |[],ps,w,h=>by simp [B8]at h;subst h;simp
 |f::fs,ps,w,h=>by
  unfold B8 at h;simp only[List.mapM_cons,Option.bind_eq_bind,Option.bind_eq_some_iff,Option.map_eq_some_iff,Option.pure_def,Option.some.injEq]at h;obtain⟨p,⟨k,hk,rfl⟩,qs,hq,rfl⟩:=h;have ih:=abZ fs qs w hq;simp only[List.mapM_cons,Sem.run_bind,mB hk,Sem.run_pure,Result.andThen_ok,ih]
theorem alb{T:Nat}{ps:apH (Nat×AV)}{qs:Array (Nat×apL)}{C:AV->Prop}(hl:qs.toList.length=ps.length)
 (hr:∀(i:Nat)(p:Nat×AV)(q:Nat×apL),ps[i]?=some p->qs.toList[i]?=some q->q.1=p.1/\aD G w q.2 p.2) (h:yJ P T ps C):∃u y,(Instr.build T qs).run P w= .ok u w/\aD G w u y/\C y:=by
 unfold yJ at h;split at h
 ·rename_i places z Kw hz
  obtain⟨fs,hT,Fx⟩:∃fs,P.underlying T=some (.struct fs)/\B8 P fs.toList=some places:=by
   unfold Ri at Kw;split at Kw
   ·exact⟨_,by assumption,Kw⟩
   ·cases Kw
  ·split at h
   ·rename_i cs hf
    obtain⟨eK,hC⟩:=bN.1 h;simp only[aoU]at eK;obtain⟨hb,jh⟩:=eK;have jh:=acE jh;have mw:(fs.mapM (m:=Sem) λf=>do pure (f.offset,<-sizeOf f.type)).run P w= .ok places.toArray w:=by
     rw[Array.mapM_eq_mapM_toList];have:=abZ fs.toList places w Fx;have e:(Functor.map List.toArray (fs.toList.mapM (m:=Sem) λf=>do pure (f.offset,<-sizeOf f.type)):Sem _)=(fs.toList.mapM (m:=Sem) λf=>do pure (f.offset,<-sizeOf f.type))>>=λl=>pure l.toArray:=rfl;rw[e,Sem.run_bind,this];rfl
    obtain⟨dZ,h1,h2⟩:=Pz (λi=>places.toArray[i]?) places (λi pl h=>by simpa using h) ps qs.toList _ cs z.cells (aho (G:=G) (w:=w) z jh) hl hr hb hf;refine⟨.agg dZ, .agg cs,?_, .agg dZ cs h2.len h2.rel,hC⟩;unfold Instr.build;simp only[Sem.run_bind,En hz,Result.andThen_ok,run_underlying hT,mw,h1,Sem.run_pure]
   ·exact h.elim
 ·exact h.elim
theorem T7{T:Nat}(h:A8 P T=true):P.underlying T=some .bool:=by
 unfold A8 at h;split at h
 ·assumption
 ·cases h
theorem Iw{T:Nat}{k:IntKind}(h:rh P T=some k):P.underlying T=some (.int k):=by
 unfold rh at h;split at h
 ·cases h;assumption
 ·cases h
theorem VZ{t off:Nat}{vs:Array apL}{u:apL}(ha:mn P t=some false)(hu:vs[off]?=some u):(part t vs off).run P w= .ok u w:=by
 unfold part;rw[Sem.run_bind,Ce ha w];simp [hu]
theorem afH{t:Nat}{u v:apL}{x y:AV}{b:Bool}(d:Nat)(hu:aD G w u x)(hv:aD G w v y)(h:CC P t x y=some b):(Op.equalIn (d+1) t u v).run P w= .ok b w:=by
 unfold CC at h;split at h
 ·have e1:=hu.val;have e2:=hv.val;subst e1;subst e2
  rename_i k a k' b'
  cases hc:yB k k'&&(rh P t).isSome with
  |false=>rw[hc]at h;cases h
  |true=>
   rw[hc]at h;cases h;rw[aoU,Ol]at hc;obtain⟨rfl,hc⟩:=hc;obtain⟨k2,hk⟩:=Option.isSome_iff_exists.1 hc;exact run_equalIn_int w d t k k2 a b' (Iw hk)
 ·have e1:=hu.val;have e2:=hv.val;subst e1;subst e2;cases hc:strT P t with
  |false=>rw[hc]at h;cases h
  |true=>rw[hc]at h;cases h;rw[<-Sk,<-Sk];exact run_equalIn_string w d t _ _ (sY hc)
 ·have e1:=hu.val;have e2:=hv.val;subst e1;subst e2;cases hc:A8 P t with
  |false=>rw[hc]at h;cases h
  |true=>rw[hc]at h;cases h;exact run_equalIn_bool w d t _ _ (T7 hc)
 ·cases h
theorem aft{t off k:Nat}{vs:Array apL}(ha:mn P t=some true)(hk:fQ P t=some k):(part t vs off).run P w= .ok (.agg (vs.extract off (off+k))) w:=by
 unfold part;rw[Sem.run_bind,Ce ha w];simp [mB hk]
theorem X2{us:Array apL}{xs:apH AV}{off k:Nat}(hx:us.size=xs.length)(hb:off+k<=xs.length)(hu:∀(i:Nat)(u:apL)(c:AV),us[i]?=some u->xs[i]?=some c->aD G w u c):
 (us.extract off (off+k)).size=((xs.drop off).take k).length/\∀(i:Nat)(u:apL)(c:AV),(us.extract off (off+k))[i]?=some u->((xs.drop off).take k)[i]?=some c->aD G w u c:=by
 refine⟨by simp;omega,λi u c h1 h2=> ?_⟩;rw[List.getElem?_take]at h2;split at h2
 ·next hi=>
  rw[List.getElem?_drop]at h2;rw[Array.getElem?_extract]at h1;split at h1
  ·exact hu _ _ _ h1 h2
  ·cases h1
 ·cases h2
theorem Kx{sub:TypeId->apH AV->apH AV->apJ Bool}(d:Nat)
 (Dd:∀(T:Nat)(us vs:Array apL)(xs ys:apH AV)(b:Bool),us.size=xs.length->vs.size=ys.length->(∀(i:Nat)(u:apL)(c:AV),us[i]?=some u->xs[i]?=some c->aD G w u c)->(∀(i:Nat)(u:apL)(c:AV),vs[i]?=some u->ys[i]?=some c->aD G w u c)->sub T xs ys=some b->(Op.equalIn (d+1) T (.agg us) (.agg vs)).run P w= .ok b w)
 {us vs:Array apL} {xs ys:apH AV} (hx:us.size=xs.length) (hy:vs.size=ys.length)
 (hu:∀(i:Nat)(u:apL)(c:AV),us[i]?=some u->xs[i]?=some c->aD G w u c) (hv:∀(i:Nat)(u:apL)(c:AV),vs[i]?=some u->ys[i]?=some c->aD G w u c):
 ∀(fs:apH Field)(b:Bool),zu P sub fs xs ys=some b->(Op.eqFields (d+1) us vs fs).run P w= .ok b w
 |[],b,h=>by cases h;simp [Op.eqFields]
 |f::fs,b,h=>by
  unfold zu at h;cases hn:f.name== "_" with
  |true=>rw[hn]at h;cases h
  |false=>
   rw[hn]at h;simp only[cond_false]at h;have cp:f.name≠ "_" :=by simpa using hn
   split at h
   ·next e1=>
    split at h
    ·next x y e2 e3=>
     split at h
     ·next a c e4 e5=>
      cases h
      have l1:f.offset<us.size:=by rw[hx];exact(aoS.1 e2).1
      have l2:f.offset<vs.size:=by rw[hy];exact(aoS.1 e3).1
      have g1:=ape l1;have g2:=ape l2;simp only[Op.eqFields,if_pos cp,Sem.run_bind,VZ (w:=w) e1 g1,VZ (w:=w) e1 g2,Result.andThen_ok,afH d (hu _ _ _ g1 e2) (hv _ _ _ g2 e3) e4];cases a with
      |true=>simp only[Bool.not_true,Bool.false_eq_true,if_false,Bool.true_and];exact Kx d Dd hx hy hu hv fs c e5
      |false=>simp
     ·cases h
    ·cases h
   ·next e1=>
    split at h
    ·next k e2=>
     cases nt:b7 (f.offset+k) xs.length&&b7 (f.offset+k) ys.length with
     |false=>rw[nt]at h;cases h
     |true=>
      rw[nt]at h;rw[aoU,dI,dI]at nt;simp only[cond_true]at h;split at h
      ·next a c e4 e5=>
       cases h
       obtain⟨p1,p2⟩:=X2 hx nt.1 hu;obtain⟨q1,q2⟩:=X2 hy nt.2 hv;simp only[Op.eqFields,if_pos cp,Sem.run_bind,aft (w:=w) e1 e2,Result.andThen_ok,Dd _ _ _ _ _ a p1 q1 p2 q2 e4];cases a with
       |true=>simp only[Bool.not_true,Bool.false_eq_true,if_false,Bool.true_and];exact Kx d Dd hx hy hu hv fs c e5
       |false=>simp
      ·cases h
    ·cases h
   ·cases h
theorem Wq:∀(n d:Nat)(T:Nat)(us vs:Array apL)(xs ys:apH AV)(b:Bool),us.size=xs.length->vs.size=ys.length->(∀(i:Nat)(u:apL)(c:AV),us[i]?=some u->xs[i]?=some c->aD G w u c)->(∀(i:Nat)(u:apL)(c:AV),vs[i]?=some u->ys[i]?=some c->aD G w u c)->Ig P n T xs ys=some b->(Op.equalIn (d+n+1) T (.agg us) (.agg vs)).run P w= .ok b w
 |0,_,_,_,_,_,_,_,_,_,_,_,h=>by cases h
 |n+1,d,T,us,vs,xs,ys,b,hx,hy,hu,hv,h=>by
  unfold Ig at h;split at h
  ·next fs hT=>
   cases hc:P.stoodInHeld T with
   |true=>rw[hc]at h;cases h
   |false=>
    rw[hc]at h;have hf:P.fieldsOf T=fs:=by unfold Program.fieldsOf;rw[hT]
    rw[show d+(n+1)+1=(d+n+1)+1 by omega,run_equalIn_struct w (d+n+1) T us vs (by rw[hf];exact hT) hc,hf];exact Kx (d+n) (λT' SU dZ Rs Qp b'=>Wq n d T' SU dZ Rs Qp b') hx hy hu hv _ b h
  ·cases h
theorem afd{T:Nat}{us vs:Array apL}{xs ys:apH AV}{b:Bool}(hx:us.size=xs.length)(hy:vs.size=ys.length)
 (hu:∀(i:Nat)(u:apL)(c:AV),us[i]?=some u->xs[i]?=some c->aD G w u c) (hv:∀(i:Nat)(u:apL)(c:AV),vs[i]?=some u->ys[i]?=some c->aD G w u c) (h:MC P T xs ys=some b):
 P.eqGuardType P.depth T=false/\(Op.equalIn 10000 T (.agg us) (.agg vs)).run P w= .ok b w:=by
 unfold MC at h;split at h
 ·next fs hT=>
  cases hc:P.stoodInHeld T||P.eqGuardType P.depth T with
  |true=>rw[hc]at h;cases h
  |false=>
   rw[hc]at h;rw[apG]at hc;refine⟨hc.2,?_⟩;have hf:P.fieldsOf T=fs:=by unfold Program.fieldsOf;rw[hT]
   rw[run_equalIn_struct w 9999 T us vs (by rw[hf];exact hT) hc.1,hf];exact Kx 9998 (λT' SU dZ Rs Qp b'=>Wq 4 9994 T' SU dZ Rs Qp b') hx hy hu hv _ b h
 ·cases h
theorem afa{op:BinOp}{x y:AV}{u v:apL}{T:Nat}{X Y:Operand}{C:AV->Prop}(hu:aD G w u x)(hv:aD G w v y)(h:yz P T op x y C):
 ∃r z,(do eqGuard op T X Y u v;binOp op T u v:Sem apL).run P w= .ok r w/\aD G w r z/\C z:=by
 unfold yz at h;split at h
 ·rename_i k a k' b
  have e1:=hu.val;have e2:=hv.val;subst e1;subst e2;have hg:(eqGuard op T X Y (.int k a) (.int k' b)).run P w= .ok () w:=by unfold eqGuard;cases op<;>simp
  rw[Sem.run_bind,hg];simp only[Result.andThen_ok];split at h
  ·rename_i z hq
   obtain⟨uZ,hp,hC⟩:=bN.1 h;rw[Ol]at uZ;subst uZ;refine⟨z,_,?_, .d (.v z),hC⟩;cases op<;>simp [Sv]at hq<;>subst hq<;>simp [binOp,Op.intDiv,hp]
  ·split at h
   ·rename_i z hq
    refine⟨z,_,?_, .d (.v z),h.2⟩;have hb:¬b<0:=by omega
    cases op<;>simp [PW]at hq<;>subst hq<;>simp [binOp,Op.shift,hb]
   ·split at h
    ·rename_i z hq
     obtain⟨uZ,hC⟩:=bN.1 h;rw[Ol]at uZ;subst uZ;refine⟨z,_,?_, .d (.v z),hC⟩;cases op<;>simp [RV]at hq<;>subst hq<;>simp [binOp,Op.intArith,Op.intCmp,Op.intBits]
    ·exact h.elim
 ·rename_i a b
  have e1:=hu.val;have e2:=hv.val;subst e1;subst e2;have hg:(eqGuard op T X Y (.string a) (.string b)).run P w= .ok () w:=by unfold eqGuard;cases op<;>simp
  rw[Sem.run_bind,hg];simp only[Result.andThen_ok];split at h
  ·rename_i z hq
   refine⟨z,_,?_, .d (.v z),h⟩;cases op<;>simp [Q0]at hq<;>subst hq<;>simp [binOp,Op.stringOp,Sk]
  ·split at h
   ·refine⟨_,_,?_, .d (.v _),h.2⟩;have hm:¬(((a.size+b.size:Nat):Int)>IntKind.i64.max):=by
     have:=h.1;unfold maxLen at this;have e:IntKind.i64.max=9223372036854775807:=by decide
     rw[e];omega
    simp only[binOp,Op.stringOp];rw[if_neg hm];rfl
   ·exact h.elim
 ·rename_i a b
  have e1:=hu.val;have e2:=hv.val;subst e1;subst e2;have hg:(eqGuard op T X Y (.bool a) (.bool b)).run P w= .ok () w:=by unfold eqGuard;cases op<;>simp
  rw[Sem.run_bind,hg];simp only[Result.andThen_ok];split at h
  ·rename_i z hq
   obtain⟨hT,hC⟩:=bN.1 h;have hT:=T7 hT;refine⟨z,_,?_, .d (.v z),hC⟩;have hb:=run_equalIn_bool (P:=P) w 9999 T a b hT;cases op<;>simp [Pa]at hq<;>subst hq<;>simp [binOp,Op.equal,Op.maxDepth,hb]
  ·exact h.elim
 ·rename_i xs ys
  cases hu with
  |agg us _ hl1 jb=>
   cases hv with
   |agg vs _ C3 my=>
    split at h
    ·next b hb=>
     obtain⟨hg,he⟩:=afd hl1 C3 jb my hb;rw[Sem.run_bind,run_eqGuard_agg w op T X Y us vs hg];simp only[Result.andThen_ok];split at h
     ·next z hz=>
      refine⟨z,_,?_, .d (.v z),h⟩;cases op<;>simp [xy]at hz<;>subst hz
      ·rw[run_eql_struct,he];rfl
      ·rw[run_neq_struct,he];rfl
     ·exact h.elim
    ·exact h.elim
 ·exact h.elim
theorem anL{op:UnOp}{x:AV}{u:apL}{C:AV->Prop}(hu:aD G w u x)(h:xc op x C):∃r z,(Op.unary op u).run P w= .ok r w/\aD G w r z/\C z:=by
 unfold xc at h;split at h
 ·rename_i v
  have e:=hu.val;subst e;split at h
  ·rename_i z hq
   refine⟨z,_,?_, .d (.v z),h⟩;unfold Il at hq;split at hq
   ·cases hq;simp [Op.unary]
   ·cases hq;simp [Op.unary,Op.intArith]
   ·cases hq;simp [Op.unary,Op.intBits]
   ·cases hq
  ·exact h.elim
 ·exact h.elim
theorem afr{T:Nat}(h:Cz P T=true):P.underlying T=some (.int .u8):=by
 unfold Cz at h;split at h
 ·assumption
 ·cases h
theorem af2{a b:Nat}{x:AV}{u:apL}{C:AV->Prop}(hu:aD G w u x)(h:w6 P a b x C):∃r z,(convert a b u).run P w= .ok r w/\aD G w r z/\C z:=by
 unfold w6 at h;split at h
 ·rename_i k2 m
  have e:=hu.val;subst e;split at h
  ·rename_i k1 k h1 h2
   refine⟨_,_,?_, .d (.v _),h⟩;simp [convert,run_underlying (Iw h1),run_underlying (Iw h2),Conv.intToInt]
  ·exact h.elim
 ·rename_i s
  have e:=hu.val;subst e;obtain⟨eK,hC⟩:=bN.1 h;rw[aoU]at eK;refine⟨_,_,?_, .d (.v _),hC⟩;simp [convert,run_underlying (sY eK.1),run_underlying (sY eK.2)]
 ·split at h
  ·rename_i xs e k lJ hT
   obtain⟨eK,ns,rfl,hC⟩:=bN.1 h;rw[aoU]at eK;refine⟨_,_,?_, .d (.v _),hC⟩;obtain⟨A,bb,o,cc,k',us,rfl,hA,kW,yb,lF,hS,mo⟩:=(hu.list lJ).pP;rw[run_convert_bytes_string w a b e A _ cc (jO hT).1 (afr eK.1) (sY eK.2)];simp only[aoX]at hA kW hS ⊢;cases ns with
   |nil=>
    cases A with
    |none=>rfl
    |some ad=>
     have hl:=run_loadCells_list (P:=P) w ad (([]:apH Int).map (Value.int .u8)) (λj v hj=>by simp at hj);simp only[List.map_nil,ao4]at hl;have:=run_bytesToString (P:=P) w ad 0 cc [] (by simpa using hl);exact this
   |cons n0 ns=>
    have JM:=hA (by simp);subst JM;have vF:k'=1:=(lF [.v (.int .u8 n0)] (by simp)).symm;subst vF;have hl:=run_loadCells_list (P:=P) w ⟨bb,o,none⟩ ((n0::ns).map (Value.int .u8)) (λj v hj=>by
     have aH:=(aoS.1 hj).1;rw[aoX]at aH;have h1:=(hS j 0 aH (by omega)).2.1;rw[aoZ,aoW aH]at hj;cases hj
     have h2:=mo j 0 [.v (.int .u8 ((n0::ns)[j]))] (.v (.int .u8 ((n0::ns)[j]))) (by rw[aoZ,aoW aH];rfl) rfl;have h3:us j 0= .int .u8 ((n0::ns)[j]):=by
      generalize us j 0=q at h2;cases h2;rfl
     rw[kZ];rw[h3]at h1
     simpa using h1)
    rw[aoX]at hl;rw[run_bytesToString w _ _ cc _ hl];have key:∀(l:apH Int)(r:apI),l.foldl (λr n=>r.push (UInt8.ofNat n.toNat)) r=⟨r.data++(l.map λn=>UInt8.ofNat n.toNat).toArray⟩:=by
      intro l
      induction l with
      |nil=>intro r;simp
      |cons x l ih=>intro r;rw[List.foldl_cons,ih];simp [ByteArray.push]
    rw[key];have Dt:ByteArray.empty.data= #[]:=rfl;rw[Dt];simp
  ·exact h.elim
theorem Nr{T f off k:Nat}{g:Bool}(h:tz P T f=some (off,k,g)):∃fs fd,P.underlying T=some (.struct fs)/\fs[f]?=some fd/\fQ P fd.type=some k/\0<k/\mn P fd.type=some g/\fd.offset=off:=by
 unfold tz at h;split at h
 ·rename_i fs hT
  split at h
  ·rename_i fd hf
   split at h
   ·rename_i k' g' h1 h2
    cases h
    exact⟨fs,fd,hT,hf,h1,Nat.succ_pos _,h2,rfl⟩
   ·cases h
  ·cases h
 ·cases h
theorem Pp{T f off k o b:Nat}{g:Bool}(h:tz P T f=some (off,k,g)):(Instr.fieldAt T (.pointer (some ⟨b,o,none⟩)) f).run P w= .ok (.pointer (some ⟨b,o+off,none⟩)) w:=by
 obtain⟨fs,fd,h1,h2,h3,h4,h5,rfl⟩:=Nr h;simp [Instr.fieldAt,run_underlying h1,h2,Instr.sureAddr,fieldPlace,mB h3,Nat.ne_of_gt h4,kZ]
theorem agk{T f:Nat}{x:AV}{u:apL}{C:AV->Prop}(hu:aD G w u x)(h:x6 P T x f C):∃r z,(Instr.field T u f).run P w= .ok r w/\aD G w r z/\C z:=by
 unfold x6 at h;split at h
 ·rename_i off k cs hT
  obtain⟨hl,hC⟩:=bN.1 h;rw[dI]at hl;obtain⟨fs,fd,h1,h2,h3,h4,h5,rfl⟩:=Nr hT;cases hu with
  |agg vs _ hlen hr=>
   refine⟨.agg (vs.extract fd.offset (fd.offset+k)),_,?_, .agg _ _ ?_ λi u c hu hc=> ?_,hC⟩
   ·simp [Instr.field,run_underlying h1,h2,asAgg,part,Ce h5,mB h3]
   ·simp;omega
   ·rw[Array.getElem?_extract]at hu;rw[List.getElem?_take]at hc;split at hc
    ·rw[List.getElem?_drop]at hc;split at hu
     ·exact hr _ u c hu hc
     ·cases hu
    ·cases hc
 ·rename_i off k cs hT
  obtain⟨fs,fd,h1,h2,h3,h4,h5,rfl⟩:=Nr hT;split at h
  ·rename_i c hc
   cases hu with
   |agg vs _ hlen hr=>
    have aH:fd.offset<vs.size:=by rw[hlen];exact(aoS.1 hc).1
    refine⟨vs[fd.offset],c,?_,hr _ _ c (ape aH) hc,h⟩;simp [Instr.field,run_underlying h1,h2,asAgg,part,Ce h5,ape aH]
  ·exact h.elim
 ·exact h.elim
end
def Gh.u7(G:Gh)(b m:Nat):Gh:={G with S:=λc o=>G.S c o\/(c=b/\o<m)}
theorem W6{G:Gh}{w:apM}{h:apH an}(hi:Inv G w h)(ob:Obj)(m:Nat):bx G.N G w (G.u7 w.heap.size m) (w.alloc ob)/\Inv (G.u7 w.heap.size m) (w.alloc ob) h:=by
 have hE:bx G.N G w (G.u7 w.heap.size m) (w.alloc ob):=
  ⟨by simp,λ_ _ h=> .inl h,λb _ h=>World.cell?_alloc_lt _ _ _ (hi.S _ _ h),λ_ _=>rfl,λ_ _=> .inl ⟨rfl,rfl⟩,fY rfl,λb hb=>Below.heap_alloc w ob b (hi.z b hb),rfl,rfl,rfl,λb o hs=>hs.imp id fun⟨e,_⟩ hz=>apx _ (hi.z _ (e▸hz))⟩
 refine⟨hE,hi.len,λb hb=>apg (hi.z b hb) hE.size,λb o hs=> ?_,λn B hB=> ?_,λm n b h1 h2=>hi.inj m n b h1 h2,hi.gl.aS hE⟩
 ·rcases hs with hs|⟨rfl,_⟩
  ·exact apg (hi.S b o hs) hE.size
  ·simp
 ·refine dB.aS (hi.lt hB) hE (ao3 _) ⟨rfl,rfl,rfl⟩ (λb hb=> ?_) (hi.cu n B hB);have aH:=hi.gx (n:=n) (b:=b) ((cZ hB).trans hb);refine⟨Below.heap_alloc w _ _ aH,λo jq hs=> ?_⟩;rcases hs with hs|⟨e,_⟩
  ·exact jq hs
  ·omega
theorem abR(k:Nat):∀(n o i:Nat)(pl:Nat×Nat),(vU k o n)[i]?=some pl->pl=(o+i*k,k)
 |0,_,_,_,h=>by simp [vU]at h
 |n+1,o,0,pl,h=>by simp [vU]at h;rw[<-h];simp
 |n+1,o,i+1,pl,h=>by
  have:=abR k n (o+k) i pl (by simpa [vU]using h);rw[this,Nat.add_mul];simp;omega
theorem ZE(l:apH AV):∀n,(sG n l).length=n*l.length
 |0=>by simp [sG]
 |n+1=>by rw[sG,aoT,ZE l n,Nat.add_mul];omega
theorem UC(l:apH AV):∀(n i:Nat),i<n*l.length->(sG n l)[i]?=l[i%l.length]?
 |0,i,h=>by omega
 |n+1,i,h=>by
  rw[sG];by_cases hi:i<l.length
  ·rw[ao2 hi,Nat.mod_eq_of_lt hi]
  ·rw[ao8 (by omega),UC l n _ (by rw[Nat.add_mul]at h;omega),<-Nat.mod_eq_sub_mod (by omega)]
theorem alB(z:apL){k:Nat}(hz:z.cells.size=k)(n:Nat):sG n (z.cells.toList.map λu=> .d (.v u))=(List.range (n*k)).map λi=> .d (.v (z.cells[i%z.cells.size]!)):=by
 have hl:(z.cells.toList.map λu=>AV.d (.v u)).length=k:=by simp [hz]
 refine List.ext_getElem? λi=> ?_;by_cases hi:i<n*k
 ·rw[UC _ _ _ (by rw[hl];exact hi),aoZ,aoZ,List.getElem?_range hi,hl,hz,apf];have hk:0<k:=Nat.pos_of_ne_zero λe=>by subst e;simp at hi
  have aH:i%k<z.cells.size:=by rw[hz];exact Nat.mod_lt _ hk
  rw[ape aH];simp only[Option.map_some];rw[getElem!_pos z.cells (i%k) aH]
 ·rw[apo (by rw[ZE,hl];omega),apo (by simp;omega)]
theorem TM:∀{ps:apH (Nat×AV)}{places:apH (Nat×Nat)}{cs bJ:apH AV},pO places cs ps=some bJ->bJ.length=cs.length
 |[],_,_,_,h=>by simp only[pO,Option.some.injEq]at h;rw[h]
 |(i,x)::ps,places,cs,bJ,h=>by
  unfold pO at h;split at h
  ·rw[cond_eq_ite]at h;split at h
   ·rename_i hc
    simp only[aoU,beq_iff_eq,dI]at hc;rw[TM h,FX _ _ _ (by rw[hc.1];exact hc.2)]
   ·cases h
  ·cases h
section
variable {P:apK} {r:apJ Nat} {n N0:Nat} {G:Gh} {w:apM} {a:Act} {s:St} {o:Oper} {K:St->Prop} {Q:Exit->Act->apM->Prop}
theorem agZ{T len:Nat}{h:apH an}{ps:apH (Nat×AV)}{qs:Array (Nat×apL)}{C:AV->Prop}(hi:Inv G w h)(hl:qs.toList.length=ps.length)
 (hr:∀(i:Nat)(p:Nat×AV)(q:Nat×apL),ps[i]?=some p->qs.toList[i]?=some q->q.1=p.1/\aD G w q.2 p.2) (hC:yo P T len ps C):
 ∃u w' G' y,(Instr.buildSlice T len qs).run P w= .ok u w'/\bx G.N G w G' w'/\G.N<=G'.N/\Inv G' w' h/\aD G' w' u y/\C y:=by
 unfold yo at hC;split at hC
 ·rename_i e k hT
  obtain⟨eJ,fF⟩:=jO hT;split at hC
  ·rename_i z hz
   split at hC
   ·rename_i cs hf
    split at hC
    ·rename_i ds sF
     obtain⟨eK,hC⟩:=bN.1 hC;simp only[aoU,beq_iff_eq,dI,apq]at eK;obtain⟨⟨⟨⟨hk,hsm⟩,jZ⟩,jh⟩,hb⟩:=eK;have jh:=acE jh;rw[alB z jZ]at hf;have Fx:=abR k;obtain⟨z0,tw⟩:∃z0:Array apL,z0=if len*k=0 then #[]else z.cells:=⟨_,rfl⟩
     obtain⟨zr,Dx⟩:∃zr:Array apL,zr=(Array.range (len*k)).map (z0[·%z0.size]!):=⟨_,rfl⟩;have mf:Row G w zr ((List.range (len*k)).map λi=> .d (.v (z.cells[i%z.cells.size]!))):=by
      have F7:∀i,i<len*k->z0[i%z0.size]! =z.cells[i%z.cells.size]! :=λi hi=>by rw[tw,if_neg (by omega)]
      refine⟨by rw[Dx];simp,λi u c hu hc=> ?_,λi u hu=> ?_⟩
      ·rw[Dx,Array.getElem?_map]at hu;rw[aoZ]at hc;by_cases hi:i<len*k
       ·rw[List.getElem?_range hi]at hc;rw[Array.getElem?_range,if_pos hi]at hu;simp only[Option.map_some,Option.some.injEq]at hu hc;subst hu;subst hc;rw[F7 i hi];exact .d (.v _)
       ·rw[apo (by simp;omega)]at hc;cases hc
      ·rw[Dx,Array.getElem?_map]at hu;by_cases hi:i<len*k
       ·rw[Array.getElem?_range,if_pos hi]at hu;simp only[Option.map_some,Option.some.injEq]at hu;subst hu;rw[F7 i hi];have aH:i%z.cells.size<z.cells.size:=Nat.mod_lt _ (by omega);rw[getElem!_pos z.cells _ aH];exact Array.all_eq_true_iff_forall_mem.1 jh _ (Array.getElem_mem _)
       ·rw[Array.getElem?_eq_none (by simp;omega)]at hu;cases hu
     obtain⟨dZ,h1,h2⟩:=Pz (λi=>some (i*k,k)) (vU k 0 len) (λi pl h=>by
      have:=Fx len 0 i pl h;rw[this];simp) ps qs.toList _ cs zr mf hl hr hb hf
     obtain⟨d1,d2⟩:=P9 sF;have fX:cs.length=len*k:=by
      have:=TM hf;rw[this];simp
     have yg:dZ.size=len*k:=by rw[h2.len,fX]
     obtain⟨i1,i2⟩:=W6 hi (.cells dZ e) (len*k);have Ed:Rd G.S w k (ov k len ds) dZ.toList:=Z2 (by rw[d1,fX]) (by rw[apq,yg]) (λu hu=>by
      obtain⟨j,hj⟩:=List.mem_iff_getElem?.1 hu;exact h2.one j u (by rw[<-apf];exact hj)) (λi u d hu hd=>by
      have aH:i<cs.length:=by rw[<-d1];exact(aoS.1 hd).1
      exact(h2.rel i u _ (by rw[<-apf];exact hu) (aoW aH)).O7 (d2 i _ d (aoW aH) hd))
     have hp:dd (G.u7 w.heap.size (len*k)).S (w.alloc (.cells dZ e)) (.slice (some ⟨w.heap.size,0,none⟩) len len) (.sl (ov k len ds)):=by
      have:=(Ed.aS i1.S i1.cell).KM w.heap.size len (by rw[ui];exact ao3 _) (by have:=Nat.le_mul_of_pos_right len hk;simp only[maxLen];omega) (λo ho=> .inr ⟨rfl,by rw[ui]at ho;exact ho⟩) (λo u hu=>by
       rw[World.cell?_alloc_new];rw[<-apf];exact hu)
      rwa [ui]at this
     refine⟨_,_,_,_,?_,i1,ao3 _,i2, .full _ hp ⟨some ⟨w.heap.size,0,none⟩,by rw[ui]⟩,hC⟩;have jq:¬(len*k>2^24):=by omega
     unfold Instr.buildSlice;simp only[Sem.run_bind,run_underlying eJ,Result.andThen_ok,mB fF,jq,if_false];by_cases h0:len*k=0
     ·rw[if_pos h0]at tw;subst tw;subst Dx;simp [h0]at h1;simp [h0,h1,newRow]
     ·rw[if_neg h0]at tw;subst tw;subst Dx;simp [h0,En hz,h1,newRow]
    ·exact hC.elim
   ·exact hC.elim
  ·exact hC.elim
 ·exact hC.elim
end
section
variable {P:apK} {G:Gh} {w:apM} {h:apH an}
theorem tq(k s:apI)(d:D)(l:apH (apI×D)):eF ((k,d)::l) s=if k=s then some d else eF l s:=by
 have e1:eF ((k,d)::l) s=bif bL k==bL s then some d else eF l s:=rfl;rw[e1];by_cases e:k=s
 ·subst e;rw[if_pos rfl];simp
 ·rw[if_neg e];have:(bL k==bL s)=false:=by rw[beq_eq_false_iff_ne];exact λhe=>e (iJ he)
  rw[this];rfl
theorem Gy{T k e:TypeId}(h:tY P T=some (k,e)):P.underlying T=some (.map k e):=by
 unfold tY at h;split at h
 ·next k' e' hT=>cases h;exact hT
 ·cases h
theorem aiq(hi:Inv G w h):bx G.N G w (G.cG w.heap.size) (w.alloc (.map #[] 0))/\Inv (G.cG w.heap.size) (w.alloc (.map #[] 0)) (h++[.map []])/\aD (G.cG w.heap.size) (w.alloc (.map #[] 0)) (.map (some w.heap.size)) (.mp h.length):=by
 have hE:=uk G w hi.z hi.S (.map #[] 0);have hN:G.N<=(G.cG w.heap.size).N:=Nat.le_succ _;have fO:(G.cG w.heap.size).aI h.length=w.heap.size:=by simp [Gh.cG,hi.len]
 have lg:∀n(B:an),n<G.N->B.dC (G.cG w.heap.size) n=B.dC G n:=λn B hn=>by
  cases B<;>simp [an.dC,Gh.cG,Nat.ne_of_lt hn]
 have e7:∀n,n<G.N->bB (h++[.map []]) (G.cG w.heap.size) n=bB h G n:=λn hn=>by
  have aH:n<h.length:=by rw[hi.len];exact hn
  unfold bB;rw[ao2 aH,aoW aH];exact lg n _ hn
 have sS:bB (h++[.map []]) (G.cG w.heap.size) h.length=some w.heap.size:=by
  rw[cZ (B:= .map []) (by simp)];exact congrArg some fO
 refine⟨hE,⟨by simp [Gh.cG,hi.len],λb hb=>apg (hi.z b hb) hE.size,λb o hs=>apg (hi.S b o hs) hE.size,λn B hB=> ?_,λm n b hm hn=> ?_,hi.gl.aS hE⟩,?_⟩
 ·by_cases hn:n<h.length
  ·rw[ao2 hn]at hB;have ee:n<G.N:=hi.len▸hn;exact dB.aS ee hE hN ⟨rfl,rfl,rfl⟩ (λb hb=>⟨Below.heap_alloc w _ _ (hi.gx (n:=n) ((cZ hB).trans hb)),λo h=>h⟩) (hi.cu n B hB)
  ·have jT:n=h.length:=by
    have:=(aoS.1 hB).1;simp at this;omega
   subst jT;simp at hB;subst hB;exact⟨by rw[fO];exact λhz=>apx _ (hi.z _ hz),λo hs=>by rw[fO]at hs;exact apx _ (hi.S _ _ hs), #[],0,by rw[fO];exact World.alloc_heap_new w _,
    ⟨by simp,MapKept.stamped_empty 0,λe he=>(by simp at he),λs d hs=>(by cases hs),by simp,λi e he=>(by simp at he),rfl⟩⟩
 ·have key:∀n b,bB (h++[.map []]) (G.cG w.heap.size) n=some b->(n<G.N/\bB h G n=some b)\/(n=h.length/\b=w.heap.size):=λn b hn=>by
   by_cases aH:n<G.N
   ·exact .inl ⟨aH,by rw[<-e7 n aH];exact hn⟩
   ·by_cases e:n=h.length
    ·subst e;rw[sS]at hn;cases hn;exact .inr ⟨rfl,rfl⟩
    ·rw[wx (apo (by simp;have:=hi.len;omega))]at hn;cases hn
  rcases key m b hm with⟨_,jf⟩|⟨rfl,rfl⟩<;>rcases key n _ hn with⟨_,ee⟩|⟨rfl,hb⟩
  ·exact hi.inj m n b jf ee
  ·have:=hi.gx jf;omega
  ·have:=hi.gx ee;omega
  ·rfl
 ·have:=aD.mp (G:=G.cG w.heap.size) (w:=w.alloc (.map #[] 0)) h.length (by simp [Gh.cG,hi.len])
  rwa [fO]at this
theorem s9{s:apI}:MapKept.IsKey .string (.string s):=trivial
theorem ajq{T k e:TypeId}{z:apL}{n:Nat}{kv:apH (apI×D)}{s:apI}{ok:Bool}(hi:Inv G w h)(hT:tY P T=some (k,e))(hz:iw P e=some z)(hk:strT P k=true)(hn:h[n]?=some (.map kv)):
 ∃v,(Instr.lookup T (.map (some (G.aI n))) (.string s) ok).run P w= .ok v w/\aD G w v (uU ok z (eF kv s)):=by
 obtain⟨_,_,es,clock,hh,hm⟩:=hi.cu n _ hn;have F5:∀x∈es.toList,MapKept.IsKey .string x.key:=λx hx=>by
  obtain⟨s',d,h1,_⟩:=hm.dY x hx;rw[h1];exact s9
 have sE:=sY hk;have one:∀(v:apL)(d:D)(b:Bool),dd G.S w v d->aD G w (if ok then .tuple #[v, .bool b]else v) (bif ok then .bA [.d d, .d (.v (.bool b))]else .d d):=λv d b hp=>by
  cases ok with
  |false=>exact .d hp
  |true=>
   refine .bA #[v, .bool b] _ rfl λi u c hu hc=> ?_
   match i with
   |0=>simp at hu hc;subst hu;subst hc;exact .d hp
   |1=>simp at hu hc;subst hu;subst hc;exact .d (.v _)
   |i+2=>simp at hu
 rcases MapKept.findNow_spec (s9 (s:=s)) es.toList 0 F5 with⟨h1,h2⟩|⟨j,e0,h1,h2,h3⟩
 ·have aol:eF kv s=none:=by
   cases hq:eF kv s with
   |none=>rfl
   |some d=>
    obtain⟨x,hx,nV⟩:=hm.all s d hq;exact absurd nV (h2 x hx)
  refine⟨if ok then .tuple #[z, .bool false]else z,?_,?_⟩
  ·simp [Instr.lookup,run_underlying (Gy hT),MapKept.run_getObj_map hh,MapKept.run_checkKey sE s9,MapKept.run_findKey sE h1,En hz,Result.andThen]
  ·rw[aol];have:=one z (.v z) false (.v z);unfold uU;exact this
 ·have gZ:e0∈es.toList:=ao5 h2;obtain⟨s',d,k1,k2,k3⟩:=hm.dY e0 gZ;rw[h3]at k1;cases k1
  refine⟨if ok then .tuple #[e0.val, .bool true]else e0.val,?_,?_⟩
  ·simp [Instr.lookup,run_underlying (Gy hT),MapKept.run_getObj_map hh,MapKept.run_checkKey sE s9,MapKept.run_findKey sE h1,Result.andThen]
  ·rw[k2];have:=one e0.val d true k3;unfold uU;exact this
theorem ajf{T k e:TypeId}{n:Nat}{kv:apH (apI×D)}{s:apI}{v:apL}{d:D}(hi:Inv G w h)(hT:tY P T=some (k,e))(hk:strT P k=true)(hn:h[n]?=some (.map kv))(hv:dd G.S w v d)(hlen:kv.length<maxLen):
 ∃w',(Instr.mapUpdate T (.map (some (G.aI n))) (.string s) v).run P w= .ok () w'/\bx G.N G w G w'/\Inv G w' (h.set n (.map ((s,d)::kv))):=by
 obtain⟨hZ,hS,es,clock,hh,hm⟩:=hi.cu n _ hn;have F5:∀x∈es.toList,MapKept.IsKey .string x.key:=λx hx=>by
  obtain⟨s',d,h1,_⟩:=hm.dY x hx;rw[h1];exact s9
 have sE:=sY hk;have fin:∀(wV:Array MapEntry)(Di:Nat)(w':apM),w'=ChangeMaps.setBlock w (G.aI n) (.map wV Di)->o8 G.S w wV Di ((s,d)::kv)->bx G.N G w G w'/\Inv G w' (h.set n (.map ((s,d)::kv))):=by
  intro wV Di w' eH jf;have iT:∀b,b≠G.aI n->w'.heap[b]?=w.heap[b]?:=λb hb=>by rw[eH];exact ChangeMaps.heap_setBlock_other hh _ hb
  have M7:w'.heap[G.aI n]?=some (.map wV Di):=by rw[eH];exact ChangeMaps.heap_setBlock_same hh _
  have eN:w'.heap.size=w.heap.size:=by rw[eH];simp [ChangeMaps.setBlock]
  have gz:∀b o,G.S b o->w'.cell? ⟨b,o,none⟩=w.cell? ⟨b,o,none⟩:=λb o hs=>World.cell?_of_block (iT b (λe=>hS o (e▸hs)));have hE:bx G.N G w G w':=⟨by rw[eN];exact ao3 _,λ_ _ h=>h,gz,λ_ _=>rfl,λ_ _=> .inl ⟨rfl,rfl⟩,fY rfl,λb hb=>iT b (λe=>hZ (e▸hb)),by rw[eH];rfl,by rw[eH];rfl,by rw[eH];rfl,λ_ _ h=> .inl h⟩;refine⟨hE,?_⟩;have kM:bB h G n=some (G.aI n):=cZ hn;have kN:(h.set n (.map ((s,d)::kv)))[n]?=some (.map ((s,d)::kv)):=by rw[apl (aoS.1 hn).1]
  have ej:∀m,m≠n->(h.set n (.map ((s,d)::kv)))[m]?=h[m]?:=λm hm=>by rw[apr (Ne.symm hm)]
  have dQ:∀m,bB (h.set n (.map ((s,d)::kv))) G m=bB h G m:=λm=>by
   by_cases e:m=n
   ·subst e;rw[cZ kN,cZ hn];rfl
   ·unfold bB;rw[ej m e]
  refine⟨by rw[List.length_set];exact hi.len,λb hb=>apg (hi.z b hb) hE.size,λb o hs=>apg (hi.S b o hs) hE.size,λm B hB=> ?_,λm m' b h1 h2=>hi.inj m m' b (by rw[<-dQ];exact h1) (by rw[<-dQ];exact h2),hi.gl.aS hE⟩;by_cases e:m=n
  ·subst e;rw[kN]at hB;cases hB
   exact⟨hZ,hS,wV,Di,M7,jf.aS (λ_ _ h=>h) gz⟩
  ·rw[ej m e]at hB;have cp:∀b,bB h G m=some b->b≠G.aI n:=λb hb eb=>e (hi.inj m n b hb (by rw[eb];exact kM));exact dB.aS (hi.lt hB) hE (ao3 _) ⟨rfl,rfl,rfl⟩ (λb hb=>⟨iT b (cp _ ((cZ hB).trans hb)),λo h=>h⟩) (hi.cu m B hB)
 rcases MapKept.findNow_spec (s9 (s:=s)) es.toList 0 F5 with⟨h1,h2⟩|⟨j,e0,h1,h2,h3⟩
 ·have jf:o8 G.S w (es.push ⟨.string s,v,clock⟩) (clock+1) ((s,d)::kv):=by
   refine⟨by have:=hm.len;simp;omega,MapKept.stamped_push hm.stamped h2,λx hx=> ?_,λs' d' b8=> ?_,by have:=hm.len;simp;omega,λi e he=> ?_,by rw[hm.A5];simp⟩
   ·simp only[Array.toList_push,apv,List.mem_singleton]at hx;rcases hx with hx|rfl
    ·obtain⟨s',d',k1,k2,k3⟩:=hm.dY x hx;refine⟨s',d',k1,?_,k3⟩;rw[tq,if_neg (λe=>h2 x hx (by rw[k1,e]))];exact k2
    ·exact⟨s,d,rfl,by rw[tq,if_pos rfl],hv⟩
   ·rw[tq]at b8;simp only[Array.toList_push,apv,List.mem_singleton];split at b8
    ·next e=>subst e;exact⟨_, .inr rfl,rfl⟩
    ·obtain⟨x,hx,hk⟩:=hm.all s' d' b8;exact⟨x, .inl hx,hk⟩
   ·rw[Array.getElem?_push]at he;split at he
    ·next ei=>cases he;rw[ei];exact hm.A5
    ·exact hm.born i e he
  obtain⟨f1,f2⟩:=fin _ _ _ rfl jf;refine⟨_,?_,f1,f2⟩;simp [Instr.mapUpdate,run_underlying (Gy hT),MapKept.run_getObj_map hh,MapKept.run_checkKey sE s9,MapKept.run_findKey sE h1,MapKept.run_setObj_map _ hh,Result.andThen,ChangeMaps.setBlock]
 ·have hj:es[j]?=some e0:=by simpa using h2
  have BT:j<es.toList.length:=(aoS.1 h2).1;have ain:∀e',es[j]?=some e'->({e' with key:= .string s,val:=v}:MapEntry).key=e'.key:=λe' ub=>by rw[hj]at ub;cases ub;exact h3.symm
  have L9:(es.modify j (λe'=>{e' with key:= .string s,val:=v})).toList=es.toList.set j {e0 with key:= .string s,val:=v}:=by
   rw[Array.toList_modify];exact ChangeMaps.modify_eq_set _ _ _ _ h2
  have fW:(es.toList.map (·.key)).Nodup:=hm.stamped.2.2;have jf:o8 G.S w (es.modify j (λe'=>{e' with key:= .string s,val:=v})) clock ((s,d)::kv):=by
   refine⟨by simpa using hm.size,MapKept.stamped_modify hm.stamped _ _ (λ_ _=>rfl) (λe' _ ub=>ain e' ub),λx hx=> ?_,λs' d' b8=> ?_,by have:=hm.len;simp;omega,λi e he=> ?_,by rw[hm.A5];simp⟩
   ·rw[L9]at hx;obtain⟨i,c7,ex⟩:=List.getElem_of_mem hx;rw[List.getElem_set]at ex;split at ex
    ·rw[<-ex];exact⟨s,d,rfl,by rw[tq,if_pos rfl],hv⟩
    ·next cp=>
     have kJ:i<es.toList.length:=by simpa using c7
     have pz:x∈es.toList:=by rw[<-ex];exact List.getElem_mem kJ
     obtain⟨s',d',k1,k2,k3⟩:=hm.dY x pz;refine⟨s',d',k1,?_,k3⟩;rw[tq,if_neg ?_]
     ·exact k2
     ·intro wV;have a1:(es.toList.map (·.key))[i]?=some (.string s):=by rw[aoZ,aoW kJ,ex];simp [k1,wV]
      have a2:(es.toList.map (·.key))[j]?=some (.string s):=by rw[aoZ,h2];simp [h3]
      have hii:i<(es.toList.map (·.key)).length:=by simpa using kJ
      exact cp ((List.getElem?_inj hii fW).1 (a1.trans a2.symm)).symm
   ·rw[L9];rw[tq]at b8;split at b8
    ·next e=>subst e;exact⟨_,List.mem_iff_getElem?.2 ⟨j,apl BT⟩,rfl⟩
    ·next cp=>
     obtain⟨x,hx,hk⟩:=hm.all s' d' b8;obtain⟨i,c7,ex⟩:=List.getElem_of_mem hx;refine⟨x,List.mem_iff_getElem.2 ⟨i,by simpa using c7,?_⟩,hk⟩;rw[List.getElem_set];split
     ·next e=>
      subst e;exfalso;have:es.toList[j]?=some x:=by rw[aoW c7,ex]
      rw[this]at h2;cases h2
      rw[h3]at hk;injection hk with hk;exact cp hk
     ·exact ex
   ·rw[Array.getElem?_modify]at he;split at he
    ·next ei=>
     subst ei;rw[hj]at he;cases he
     exact hm.born _ e0 hj
    ·exact hm.born i e he
  obtain⟨f1,f2⟩:=fin _ _ _ rfl jf;refine⟨_,?_,f1,f2⟩;simp [Instr.mapUpdate,run_underlying (Gy hT),MapKept.run_getObj_map hh,MapKept.run_checkKey sE s9,MapKept.run_findKey sE h1,hj,h3,MapKept.run_keyThatStays s9,MapKept.run_setObj_map _ hh,Result.andThen,ChangeMaps.setBlock]
end
set_option linter.unusedVariables false
set_option linter.unusedSimpArgs false
section
variable {P:apK} {G:Gh} {w:apM} {h:apH an}
theorem JX{w':apM}(hi:Inv G w h){n:Nat}{B B':an}(hn:h[n]?=some B)(wz:∀G':Gh,B.dC G' n=G'.ow n)(OW:∀G':Gh,B'.dC G' n=G'.ow n)(S:Nat->Nat->Prop)(v:apL)(len:Nat)(ow:apJ Nat)
 (hE:bx G.N G w (G.grow n S v len ow) w') (hg:∀g,ow=some g->(g=w.heap.size\/G.ow n=some g)/\g<w'.heap.size)
 (hS:∀b o,S b o->G.S b o\/ow=some b) (iT:∀b,b<w.heap.size->ow≠some b->w'.heap[b]?=w.heap[b]?)
 (hB:dB (G.grow n S v len ow) w' n B'):Inv (G.grow n S v len ow) w' (h.set n B'):=by
 have ej:∀m,m≠n->(h.set n B')[m]?=h[m]?:=λm hm=>by rw[apr (Ne.symm hm)]
 have kN:(h.set n B')[n]?=some B':=by rw[apl (aoS.1 hn).1]
 have lg:∀m(C:an),m≠n->C.dC (G.grow n S v len ow) m=C.dC G m:=λm C hm=>by
  cases C<;>simp [an.dC,Gh.grow,hm]
 have dQ:∀m,m≠n->bB (h.set n B') (G.grow n S v len ow) m=bB h G m:=λm hm=>by
  unfold bB;rw[ej m hm];cases h[m]? with
  |none=>rfl
  |some C=>exact lg m C hm
 have EZ:bB (h.set n B') (G.grow n S v len ow) n=ow:=by rw[cZ kN,OW];simp [Gh.grow]
 have w8:∀m b,m≠n->ow=some b->bB h G m≠some b:=λm b hm ho hb=>by
  rcases (hg b ho).1 with hg|hg
  ·have:=hi.gx hb;omega
  ·exact hm (hi.inj m n b hb ((cZ hn).trans ((wz G).trans hg)))
 refine⟨by rw[List.length_set];exact hi.len,λb hb=>apg (hi.z b hb) hE.size,λb o hs=> ?_,λm C hm=> ?_,λm m' b h1 h2=> ?_,hi.gl.aS hE⟩
 ·rcases hS b o hs with hs|hs
  ·exact apg (hi.S b o hs) hE.size
  ·exact(hg b hs).2
 ·by_cases em:m=n
  ·subst em;rw[kN]at hm;cases hm;exact hB
  ·rw[ej m em]at hm;refine dB.aS (hi.lt hm) hE (ao3 _) ⟨by simp [Gh.grow,em],by simp [Gh.grow,em],by simp [Gh.grow,em]⟩ (λb hb=> ?_) (hi.cu m C hm);have hr:bB h G m=some b:=(cZ hm).trans hb;have cp:ow≠some b:=λe'=>w8 m b em e' hr;refine⟨iT _ (hi.gx hr) cp,λo jq hs=> ?_⟩;rcases hS _ o hs with hs|hs
   ·exact jq hs
   ·exact cp hs
 ·by_cases e1:m=n<;>by_cases e2:m'=n
  ·rw[e1,e2]
  ·subst e1;rw[dQ m' e2]at h2;rw[EZ]at h1;exact absurd h2 (w8 m' b e2 h1)
  ·subst e2;rw[dQ m e1]at h1;rw[EZ]at h2;exact absurd h1 (w8 m b e1 h2)
  ·rw[dQ m e1]at h1;rw[dQ m' e2]at h2;exact hi.inj m m' b h1 h2
def Gh.dW(G:Gh)(v:apL)(len:Nat)(ow:apJ Nat):Gh:=
 {G with N:=G.N+1,sg:=λn=>if n=G.N then v else G.sg n,fl:=λn=>if n=G.N then len else G.fl n,ow:=λn=>if n=G.N then ow else G.ow n}
theorem Oc{w':apM}(hi:Inv G w h)(B:an)(wz:∀(G':Gh) n,B.dC G' n=G'.ow n)(v:apL)(len:Nat)(ow:apJ Nat)(hw:(∀b,b<w.heap.size->w'.heap[b]?=w.heap[b]?)/\w.heap.size<=w'.heap.size/\w'.os=w.os/\w'.tape=w.tape/\w'.output=w.output)
 (how:∀g,ow=some g->w.heap.size<=g)
 (hB:dB (G.dW v len ow) w' G.N B):bx G.N G w (G.dW v len ow) w'/\Inv (G.dW v len ow) w' (h++[B]):=by
 have cp:∀n,n<G.N->n≠G.N:=λn hn=>Nat.ne_of_lt hn;have hE:bx G.N G w (G.dW v len ow) w':=⟨hw.2.1,λ_ _ h=>h,λb o hs=>World.cell?_of_block (hw.1 b (hi.S b o hs)),λ_ _=>rfl,λn hn=> .inl ⟨by simp [Gh.dW,cp n hn],by simp [Gh.dW,cp n hn]⟩,fY rfl,λb hb=>hw.1 b (hi.z b hb),hw.2.2.1,hw.2.2.2.1,hw.2.2.2.2,λ_ _ h=> .inl h⟩;have hN:G.N<=(G.dW v len ow).N:=Nat.le_succ _;have lg:∀n(C:an),n<G.N->C.dC (G.dW v len ow) n=C.dC G n:=λn C hn=>by
  cases C<;>simp [an.dC,Gh.dW,Nat.ne_of_lt hn]
 have key:∀n b,bB (h++[B]) (G.dW v len ow) n=some b->(n<G.N/\bB h G n=some b)\/(n=G.N/\ow=some b):=λn b hb=>by
  by_cases hn:n<h.length
  ·unfold bB at hb;rw[ao2 hn,aoW hn]at hb;exact .inl ⟨hi.len▸hn,by unfold bB;rw[aoW hn,<-hb];exact(lg n _ (hi.len▸hn)).symm⟩
  ·by_cases en:n=h.length
   ·subst en;rw[cZ (B:=B) (by simp),wz]at hb;exact .inr ⟨hi.len,by simpa [Gh.dW,hi.len]using hb⟩
   ·rw[wx (apo (by simp;omega))]at hb;cases hb
 refine⟨hE,by simp [Gh.dW,hi.len],λb hb=>apg (hi.z b hb) hw.2.1,λb o hs=>apg (hi.S b o hs) hw.2.1,λn C hC=> ?_,λm n b h1 h2=> ?_,hi.gl.aS hE⟩
 ·by_cases hn:n<h.length
  ·rw[ao2 hn]at hC;have ee:n<G.N:=hi.len▸hn;exact dB.aS ee hE hN ⟨by simp [Gh.dW,cp n ee],by simp [Gh.dW,cp n ee],by simp [Gh.dW,cp n ee]⟩ (λb hb=>⟨hw.1 b (hi.gx ((cZ hC).trans hb)),λo h=>h⟩) (hi.cu n C hC)
  ·have jT:n=h.length:=by
    have:=(aoS.1 hC).1;simp at this;omega
   subst jT;simp at hC;subst hC;rw[hi.len];exact hB
 ·rcases key m b h1 with⟨_,a1⟩|⟨rfl,a1⟩<;>rcases key n b h2 with⟨_,b1⟩|⟨rfl,b1⟩
  ·exact hi.inj m n b a1 b1
  ·have:=hi.gx a1;have:=how b b1;omega
  ·have:=hi.gx b1;have:=how b a1;omega
  ·rfl
theorem aD.pe{n o len L k:Nat}{e:TypeId}{cs:apH (apH AV)}{u:apL}(hi:Inv G w h)(hn:h[n]?=some (.vec e k cs))(hL:cs.length=L)(hv:aD G w u (.vec n o len L k)):Xl (G.sg n) u o len L k:=by
 have hb:=(hi.cu n _ hn).1;cases hv with|vec _ _ _ _ _ h1 h2 h3 h4=>exact h4 (by rw[<-hL,hb])
theorem aD.Xr{n i j L k:Nat}{e:TypeId}{k':Nat}{cs:apH (apH AV)}{u:apL}(hi:Inv G w h)(hn:h[n]?=some (.vec e k' cs))(hL:cs.length=L)(hv:aD G w u (.di n i j L k)):ZH (G.sg n) u i j L k:=by
 have hb:=(hi.cu n _ hn).1;cases hv with|di _ _ _ _ _ h1 h2 h3 h4=>exact h4 (by rw[<-hL,hb])
theorem zj{n:Nat}{e k:Nat}{cs:apH (apH AV)}(hi:Inv G w h)(hn:h[n]?=some (.vec e k cs))(cp:cs≠ []):∃(g cap:Nat)(cur:Array apL),G.ow n=some g/\G.sg n= .slice (some ⟨g,0,none⟩) cs.length cap/\¬G.Z g/\w.heap[g]?=some (.cells cur e (0,0))/\cs.length<=cap/\cap<=maxLen/\cur.size=cap*k/\(∀o,¬G.S g o)/\
        ∀(i j:Nat)(c:apH AV)(x:AV)(u:apL),cs[i]?=some c->c[j]?=some x->cur[i*k+j]?=some u->aD G w u x:=by
 obtain⟨_,_,_,h4|h4⟩:=hi.cu n _ hn
 ·exact absurd h4.2.1 cp
 ·exact h4
theorem FP{n:Nat}{e k:Nat}{cs:apH (apH AV)}(hi:Inv G w h)(hn:h[n]?=some (.vec e k cs)):∀c∈cs,c.length=k:=(hi.cu n _ hn).2.2.1
theorem nu{i k L j:Nat}(hi:i<L)(hj:j<k):i*k+j<L*k:=by
 have:(i+1)*k<=L*k:=Nat.mul_le_mul_right k hi;rw[Nat.add_mul]at this;omega
theorem GQ{i k j:Nat}(hj:j<k):(i*k+j)/ k=i/\(i*k+j)%k=j:=by
 have hk:0<k:=by omega
 exact⟨by rw[Nat.add_comm,Nat.add_mul_div_right _ _ hk,Nat.div_eq_of_lt hj,apc],by rw[Nat.add_comm,Nat.add_mul_mod_self_right,Nat.mod_eq_of_lt hj]⟩
theorem alQ{i i' j j' k:Nat}(hj:j<k)(iC:j'<k)(e:i*k+j=i'*k+j'):i=i'/\j=j':=by
 have h1:=GQ (i:=i) hj;have h2:=GQ (i:=i') iC;exact⟨by rw[<-h1.1,<-h2.1,e],by rw[<-h1.2,<-h2.2,e]⟩
theorem ahH{t n i j L k:Nat}{e:TypeId}{cs:apH (apH AV)}{c:apH AV}{x:AV}{v:apL}(hi:Inv G w h)(hn:h[n]?=some (.vec e k cs))(hL:cs.length=L)(hc:cs[i]?=some c)(hx:Nj P t c j=some x)(hv:aD G w v (.di n i j L k)):
 ∃u,(Instr.loadAt t v).run P w= .ok u w/\aD G w u x:=by
 have kd:i<cs.length:=(aoS.1 hc).1;have Ve:c.length=k:=FP hi hn c (ao5 hc);obtain⟨g,cap,cur,r1,r2,r3,r4,r5,r6,r7,r8,r9⟩:=zj hi hn (λe=>by subst e;simp at kd);obtain⟨_,g',zk,p1,p2⟩:=hv.Xr hi hn hL;rw[r2]at p1;cases p1
 have h1:∀q,q<c.length->w.cell? ⟨g,i*k+q,none⟩=some (cur.getD (i*k+q) undef):=λq hq=>by
  rw[cell_of_row w g _ cur e (0,0) r4];have:i*k+q<cur.size:=by
    rw[r7];exact apg (nu kd (by omega)) (Nat.mul_le_mul_right k r5)
  simp [Array.getD,this]
 have h2:∀(q:Nat)(y:AV),c[q]?=some y->aD G w (cur.getD (i*k+q) undef) y:=λq y hq=>by
  have Sj:=(aoS.1 hq).1;have aH:i*k+q<cur.size:=by
   rw[r7];exact apg (nu kd (by omega)) (Nat.mul_le_mul_right k r5)
  have e1:cur[i*k+q]?=some (cur.getD (i*k+q) undef):=by simp [Array.getD,aH]
  exact r9 i q c y _ hc hq e1
 have key:=XD (P:=P) (G:=G) (w:=w) (t:=t) (C:=(·=x)) g (i*k) c j (λq=>cur.getD (i*k+q) undef) h1 h2 (by
  unfold Nj at hx;revert hx;cases mn P t with
  |none=>intro hx;cases hx
  |some ag=>
   cases fQ P t with
   |none=>cases ag<;>(intro hx;cases hx)
   |some kk=>
    cases ag with
    |true=>
     simp only;intro hx;cases hb:b7 (j+kk) c.length with
     |false=>rw[hb]at hx;cases hx
     |true=>rw[hb]at hx;cases hx;exact rfl
    |false=>
     simp only;intro hx;rw[hx])
 obtain⟨u,y,k1,k2,rfl⟩:=key;refine⟨u,?_,k2⟩;rw[p2];simp [Instr.loadAt,Instr.sureAddr,k1]
theorem al7{t b off k:Nat}{T:TypeId}{v:apL}{vs:Array apL}(hh:w.heap[b]?=some (.cells vs T (0,0)))(ht:fQ P t=some k)(hk:v.cells.size=k)(jh:∀u∈v.cells.toList,u.oneCell'=true)(hb:off+k<=vs.size):
 (storeVar t ⟨b,off,none⟩ v).run P w= .ok () (w.setRow b (vs.toList.take off++v.cells.toList++vs.toList.drop (off+v.cells.toList.length)).toArray):=by
 obtain⟨i,jN,kJ⟩:=Xi ht;have lY:=run_storeCells_at P b off T v.cells.toList 0 vs w hh (by rw[apq,hk];simpa using hb) jh;simp only[Nat.add_zero]at lY;unfold storeVar;simp only[sizeOf,typeInfo,Sem.run_bind,hk];simp [jN,kJ,lY]
theorem VB(vs:Array apL)(us:apH apL)(off q:Nat)(hb:off+us.length<=vs.size):(vs.toList.take off++us++vs.toList.drop (off+us.length)).toArray[q]?=if off<=q/\q<off+us.length then us[q-off]? else vs[q]?:=by
 rw[List.getElem?_toArray,ao9];have yg:vs.toList.length=vs.size:=apq;by_cases h1:q<off
 ·rw[ao2 (by simp;omega),List.getElem?_take_of_lt h1,if_neg (by omega),apf]
 ·rw[ao8 (by simp;omega)];simp only[List.length_take,yg];rw[Nat.min_eq_left (by omega)];by_cases h2:q<off+us.length
  ·rw[ao2 (by omega),if_pos (by omega)]
  ·rw[ao8 (by omega),List.getElem?_drop,if_neg (by omega),show off+us.length+(q-off-us.length)=q by omega,apf]
theorem WG(vs:Array apL)(us:apH apL)(off:Nat)(hb:off+us.length<=vs.size):(vs.toList.take off++us++vs.toList.drop (off+us.length)).toArray.size=vs.size:=by
 simp only[List.size_toArray,aoT,List.length_take,List.length_drop,apq];omega
theorem afM(cs ys:apH AV)(off q:Nat)(hb:off+ys.length<=cs.length):(jj cs off ys)[q]?=if off<=q/\q<off+ys.length then ys[q-off]? else cs[q]?:=by
 unfold jj;rw[ao9];by_cases h1:q<off
 ·rw[ao2 (by simp;omega),List.getElem?_take_of_lt h1,if_neg (by omega)]
 ·rw[ao8 (by simp;omega)];simp only[List.length_take];rw[Nat.min_eq_left (by omega)];by_cases h2:q<off+ys.length
  ·rw[ao2 (by omega),if_pos (by omega)]
  ·rw[ao8 (by omega),List.getElem?_drop,if_neg (by omega),show off+ys.length+(q-off-ys.length)=q by omega]
theorem TB{n e k g cap:Nat}{cs bJ:apH (apH AV)}{cur:Array apL}{us:apH apL}{off:Nat}(hi:Inv G w h)(hn:h[n]?=some (.vec e k cs))(gL:0<k)(r1:G.ow n=some g)(r2:G.sg n= .slice (some ⟨g,0,none⟩) cs.length cap)(r3:¬G.Z g)(r4:w.heap[g]?=some (.cells cur e (0,0)))(r5:cs.length<=cap)(r6:cap<=maxLen)(r7:cur.size=cap*k)(r8:∀o,¬G.S g o)
 (hb:off+us.length<=cur.size) (hl:bJ.length=cs.length) (iZ:∀c∈bJ,c.length=k)
 (Bf:∀(i j:Nat)(c:apH AV)(x:AV)(u:apL),bJ[i]?=some c->c[j]?=some x->(if off<=i*k+j/\i*k+j<off+us.length then us[i*k+j-off]? else cur[i*k+j]?)=some u->aD G w u x):
 ∃G',bx G.N G w G' (w.setRow g (cur.toList.take off++us++cur.toList.drop (off+us.length)).toArray)/\G'.N=G.N/\Inv G' (w.setRow g (cur.toList.take off++us++cur.toList.drop (off+us.length)).toArray) (h.set n (.vec e k bJ))/\(∀m,G'.sg m=G.sg m)/\(∀m,G'.fl m=G.fl m):=by
 obtain⟨w',eH⟩:∃w',w'=w.setRow g (cur.toList.take off++us++cur.toList.drop (off+us.length)).toArray:=⟨_,rfl⟩;rw[<-eH];have iT:∀b,b≠g->w'.heap[b]?=w.heap[b]?:=λb hb=>by rw[eH];exact setRow_other w g b _ hb
 have mf:w'.heap[g]?=some (.cells (cur.toList.take off++us++cur.toList.drop (off+us.length)).toArray e (0,0)):=by rw[eH];exact setRow_heap w g cur _ e _ r4
 have eN:w'.heap.size=w.heap.size:=by rw[eH];exact MG w g _
 obtain⟨G',ga⟩:∃G',G'=G.grow n G.S (G.sg n) (G.fl n) (some g):=⟨_,rfl⟩;have Py:∀m,G'.sg m=G.sg m:=λm=>by rw[ga];simp only[Gh.grow];split<;>simp_all
 have mw:∀m,G'.fl m=G.fl m:=λm=>by rw[ga];simp only[Gh.grow];split<;>simp_all
 have hE:bx G.N G w G' w':=⟨by rw[eN];exact ao3 _,λb o h=>by rw[ga];exact h,λb o hs=>World.cell?_of_block (iT b (λe=>r8 o (e▸hs))),λ_ _=>by rw[ga];rfl,λm _=> .inl ⟨mw m,Py m⟩,fY (by rw[ga];rfl) (by rw[ga];rfl),λb hb=>iT b (λe=>r3 (e▸hb)),by rw[eH];rfl,by rw[eH];rfl,by rw[eH];rfl,λb o hs=> .inl (by rw[ga]at hs;exact hs)⟩;have wJ:=hi.cu n _ hn;refine⟨G',hE,by rw[ga];rfl,?_,Py,mw⟩;subst ga;refine JX hi hn (λ_=>rfl) (λ_=>rfl) _ _ _ _ hE (λg' qw=> ?_) (λb o hs=> .inl hs) (λb _ fj=>iT b (λe=>fj (by rw[e]))) ?_
 ·cases qw;exact⟨.inr r1,by rw[eN];exact(ao7.1 r4).1⟩
 ·refine⟨by rw[mw,hl];exact wJ.1,by rw[hl];exact wJ.2.1,iZ, .inr ⟨g,cap,_,by simp [Gh.grow],by rw[Py,hl];exact r2,r3,mf,by rw[hl];exact r5,r6,by rw[WG _ _ _ hb];exact r7,r8,λi j c x u hc hx hu=> ?_⟩⟩;rw[VB _ _ _ _ hb]at hu;exact(Bf i j c x u hc hx hu).aS hE (ao3 _)
theorem am3{t n i j L k:Nat}{e:TypeId}{cs:apH (apH AV)}{c:apH AV}{x:AV}{v u:apL}(hi:Inv G w h)(hn:h[n]?=some (.vec e k cs))(hL:cs.length=L)(hc:cs[i]?=some c)(hv:aD G w v (.di n i j L k))(hx:aD G w u x)(Qg:x.jw=true)(ht:fQ P t=some x.cells.length)(hj:j+x.cells.length<=k)(gL:0<k):
 ∃w' G',(Instr.storeAt t v u).run P w= .ok () w'/\bx G.N G w G' w'/\G.N<=G'.N/\Inv G' w' (h.set n (.vec e k (cs.set i (jj c j x.cells)))):=by
 have kd:i<cs.length:=(aoS.1 hc).1;have iZ:=FP hi hn;have Ve:c.length=k:=iZ c (ao5 hc);obtain⟨g,cap,cur,r1,r2,r3,r4,r5,r6,r7,r8,r9⟩:=zj hi hn (λe=>by subst e;simp at kd);obtain⟨_,g',zk,p1,p2⟩:=hv.Xr hi hn hL;rw[r2]at p1;cases p1
 obtain⟨c1,c2⟩:=hx.cells Qg;have oP:u.cells.toList.length=x.cells.length:=by rw[apq,c1]
 have jh:∀y∈u.cells.toList,y.oneCell'=true:=λy hy=>by
  obtain⟨q,hq⟩:=List.mem_iff_getElem?.1 hy;have Sj:u.cells[q]?=some y:=by rw[<-apf];exact hq
  have hql:q<x.cells.length:=by rw[<-c1];exact(ao7.1 Sj).1
  exact(c2 q y _ Sj (aoW hql)).2
 have mg:i*k+j+x.cells.length<=cur.size:=by
  have h1:(i+1)*k<=cap*k:=Nat.mul_le_mul_right k (apg kd r5);rw[Nat.add_mul]at h1;rw[r7];omega
 have db:=al7 (P:=P) (off:=i*k+j) r4 ht c1 jh mg;obtain⟨G',e1,e2,e3,_⟩:=TB (us:=u.cells.toList) (off:=i*k+j) (bJ:=cs.set i (jj c j x.cells)) hi hn gL r1 r2 r3 r4 r5 r6 r7 r8 (by rw[oP];exact mg) (by rw[List.length_set]) (λd hd=>by
     obtain⟨q,hq⟩:=List.mem_iff_getElem?.1 hd;by_cases e:i=q
     ·subst e;rw[apl kd]at hq;cases hq
      rw[FX _ _ _ (by omega)];exact Ve
     ·rw[apr e]at hq;exact iZ d (ao5 hq)) (λa b d y z hd hy hz=>by
     have ji:b<k:=by
      by_cases e:i=a
      ·subst e;rw[apl kd]at hd;cases hd
       have:=(aoS.1 hy).1;rw[FX _ _ _ (by omega)]at this;omega
      ·rw[apr e]at hd;rw[<-iZ d (ao5 hd)];exact(aoS.1 hy).1
     rw[oP]at hz;by_cases e:i=a
     ·subst e;rw[apl kd]at hd;cases hd
      rw[afM _ _ _ _ (by omega)]at hy;by_cases hb:j<=b/\b<j+x.cells.length
      ·rw[if_pos hb]at hy;rw[if_pos (by omega),show i*k+b-(i*k+j)=b-j by omega,apf]at hz;exact(c2 _ _ _ hz hy).1
      ·rw[if_neg hb]at hy;rw[if_neg (by omega)]at hz;exact r9 i b c y z hc hy hz
     ·rw[apr e]at hd;rw[if_neg ?_]at hz
      ·exact r9 a b d y z hd hy hz
      ·intro hh;have:a*k+b=i*k+(a*k+b-i*k):=by omega
       exact e ((alQ (i:=a) (i':=i) (j:=b) (j':=a*k+b-i*k) ji (by omega) this).1.symm))
 refine⟨_,G',?_,e1,by rw[e2];exact ao3 _,e3⟩;rw[p2];simp [Instr.storeAt,Instr.sureAddr,db]
end
section
variable {P:apK} {G:Gh} {w:apM} {h:apH an}
structure y6(G:Gh)(w:World)(k:Nat)(ys:List (List AV))(us:List Value):Prop where
 len:us.length=ys.length*k
 wid:∀c∈ys,c.length=k
 one:∀u∈us,u.oneCell'=true
 rel:∀(i j:Nat)(c:List AV)(x:AV)(u:Value),ys[i]?=some c->c[j]?=some x->us[i*k+j]?=some u->aD G w u x
theorem Og{k tx e':Nat}{y:AV}{v:apL}{ys:apH (apH AV)}(hi:Inv G w h)(hv:aD G w v y)(hs:Ec h k y ys)(gL:0<k)(hT:P.underlying tx=some (.slice e')):
 ∃us,y6 G w k ys us/\Src P k tx v ys.length us w:=by
 rcases hs with⟨xs,h1,h2,rfl⟩|⟨n,o,len,L,e,cs,rfl,h2,h3,h4,h5⟩
 ·obtain⟨us,hr,qL⟩:=(hv.list h1).src gL h2 hT;have hl:(cD xs).length=xs.length:=by unfold cD;rw[aoX]
  refine⟨us,⟨by rw[hl];exact hr.len,λc hc=> ?_,hr.one,λi j c x u hc hx hu=> ?_⟩,by rw[hl];exact qL⟩
  ·unfold cD at hc;obtain⟨d,hd,rfl⟩:=List.mem_map.1 hc;rw[aoX];exact h2 d hd
  ·unfold cD at hc;rw[aoZ]at hc;cases pz:xs[i]? with
   |none=>rw[pz]at hc;cases hc
   |some d=>
    rw[pz]at hc;cases hc
    rw[aoZ]at hx;cases hy:d[j]? with
    |none=>rw[hy]at hx;cases hx
    |some z=>
     rw[hy]at hx;cases hx
     obtain⟨u',a1,a2⟩:=hr.rel i j d z pz hy;rw[a1]at hu;cases hu
     exact .d a2
 ·have lW:=hv.pe hi h2 h3;obtain⟨A,c,rfl,c1,c2,c3,c4⟩:=lW.sl;have yA:ys.length=len:=by rw[h4,List.length_take,List.length_drop,h3];have:=lW.ol;omega
  by_cases h0:len=0
  ·subst h0;have:ys=[]:=List.eq_nil_of_length_eq_zero yA;subst this;refine⟨[],⟨by simp,(λ_ h=>by cases h),(λ_ h=>by cases h),λi j c x u hc=>by simp at hc⟩,?_⟩;cases A with
   |none=>exact Src.ofNil w hT c
   |some a=>exact Src.ofSlice w hT a 0 c [] (by simp) (λj u hu=>by simp at hu) (λu hu=>by cases hu)
  ·have ho:o<L:=by have:=lW.ol;omega
   obtain⟨g,cap,p1,rfl,p3⟩:=c4 ho;have cp:cs≠ []:=λe=>by subst e;simp at h3;omega
   obtain⟨g',zk,cur,r1,r2,r3,r4,r5,r6,r7,r8,r9⟩:=zj hi h2 cp;rw[r2]at p1;cases p1
   have iZ:=FP hi h2;have gz:∀q,q<len*k->o*k+q<cur.size:=λq hq=>by
    have h1:(o+len)*k<=cap*k:=Nat.mul_le_mul_right k (by have:=lW.ol;omega);rw[Nat.add_mul]at h1;rw[r7];omega
   have kV:∀i,i<len->ys[i]?=cs[o+i]?:=λi c7=>by rw[h4,List.getElem?_take_of_lt c7,List.getElem?_drop]
   have jh:∀q,q<len*k->(cur.getD (o*k+q) undef).oneCell'=true:=λq hq=>by
    have Oz:q / k<len:=Nat.div_lt_of_lt_mul (by rw[Nat.mul_comm];exact hq);have hkj:q%k<k:=Nat.mod_lt _ gL;obtain⟨d,gd⟩:∃d,cs[o+q / k]?=some d:=⟨_,aoW (by have:=lW.ol;omega)⟩;have Ct:=iZ _ (ao5 gd);obtain⟨x,hx⟩:∃x,d[q%k]?=some x:=⟨_,aoW (by rw[Ct];exact hkj)⟩;have e1:(o+q / k)*k+q%k=o*k+q:=by
     rw[Nat.add_mul];have:=Nat.div_add_mod q k;rw[Nat.mul_comm]at this;omega
    have hu':cur[(o+q / k)*k+q%k]?=some (cur.getD (o*k+q) undef):=by
     rw[e1];simp [Array.getD,gz q hq]
    refine(r9 _ _ _ _ _ gd hx hu').kG ?_;have gZ:d∈ys:=ao5 ((kV _ Oz).trans gd);have:=h5 _ gZ;rw[api]at this;exact this _ (ao5 hx)
   refine⟨(List.range (len*k)).map λq=>cur.getD (o*k+q) undef,⟨by rw[yA];simp,λc hc=>iZ c ?_,λu hu=> ?_,λi j c x u hc hx hu=> ?_⟩,?_⟩
   ·rw[h4]at hc;exact List.mem_of_mem_drop (List.mem_of_mem_take hc)
   ·obtain⟨q,hq,rfl⟩:=List.mem_map.1 hu;exact jh q (List.mem_range.1 hq)
   ·have kd:i<len:=by rw[<-yA];exact(aoS.1 hc).1
    rw[kV i kd]at hc;have Jm:j<k:=by rw[<-iZ c (ao5 hc)];exact(aoS.1 hx).1
    have aH:i*k+j<len*k:=nu kd Jm;rw[aoZ,List.getElem?_range aH]at hu;simp only[Option.map_some,Option.some.injEq]at hu;refine r9 (o+i) j c x u hc hx ?_;rw[<-hu,show(o+i)*k+j=o*k+(i*k+j) by rw[Nat.add_mul];omega];simp [Array.getD,gz _ aH]
   ·rw[yA];refine Src.ofSlice w hT _ len c _ (by simp) (λj u hu=> ?_) (λu hu=> ?_)
    ·rw[kZ,cell_of_row w g _ cur e (0,0) r4];rw[aoZ]at hu;by_cases hj:j<len*k
     ·rw[List.getElem?_range hj]at hu;simp only[Option.map_some,Option.some.injEq]at hu;rw[<-hu];simp [Array.getD,gz _ hj]
     ·rw[apo (by simp;omega)]at hu;cases hu
    ·obtain⟨q,hq,rfl⟩:=List.mem_map.1 hu;exact jh q (List.mem_range.1 hq)
theorem y6.aS{G':Gh}{w':apM}{k:Nat}{ys:apH (apH AV)}{us:apH apL}(h:y6 G w k ys us)(hE:bx G.N G w G' w')(hN:G.N<=G'.N):y6 G' w' k ys us:=
 ⟨h.len,h.wid,h.one,λi j c x u h1 h2 h3=>(h.rel i j c x u h1 h2 h3).aS hE hN⟩
theorem ae6{α:Type}{k:Nat}(l:apH α)(us:apH α)(m i j:Nat)(hl:l.length=m*k)(hj:j<k):(l++us)[i*k+j]?=if i<m then l[i*k+j]? else us[(i-m)*k+j]?:=by
 by_cases h:i<m
 ·rw[if_pos h,ao2 (by rw[hl];exact nu h hj)]
 ·have h1:m*k<=i*k:=Nat.mul_le_mul_right k (by omega);rw[if_neg h,ao8 (by rw[hl];omega),hl,Nat.sub_mul,show i*k+j-m*k=i*k-m*k+j by omega]
theorem P7{e k cap:Nat}{cs:apH (apH AV)}{cur:Array apL}(hi:Inv G w h)(h1:cs.length<=cap)(h2:cap<=maxLen)(h3:cur.size=cap*k)(iZ:∀c∈cs,c.length=k)(w0:apM)(qZ:w0.heap=w.heap/\w0.os=w.os/\w0.tape=w.tape/\w0.output=w.output)
 (Bf:∀(i j:Nat)(c:apH AV)(x:AV)(u:apL),cs[i]?=some c->c[j]?=some x->cur[i*k+j]?=some u->aD G w u x):
 ∃G',bx G.N G w G' (w0.alloc (.cells cur e))/\G.N<=G'.N/\Inv G' (w0.alloc (.cells cur e)) (h++[.vec e k cs])/\∀len,len<=cs.length->aD G' (w0.alloc (.cells cur e)) (.slice (some ⟨w.heap.size,0,none⟩) len cap) (.vec h.length 0 len cs.length k):=by
 have eN:w0.heap.size=w.heap.size:=by rw[qZ.1]
 have e7:(w0.alloc (.cells cur e)).heap[w.heap.size]?=some (.cells cur e (0,0)):=by rw[<-eN];exact World.alloc_heap_new w0 _
 have hold:∀b,b<w.heap.size->(w0.alloc (.cells cur e)).heap[b]?=w.heap[b]?:=λb hb=>by rw[Below.heap_alloc w0 _ b (by rw[eN];exact hb),qZ.1]
 have hw:(∀b,b<w.heap.size->(w0.alloc (.cells cur e)).heap[b]?=w.heap[b]?)/\w.heap.size<=(w0.alloc (.cells cur e)).heap.size/\(w0.alloc (.cells cur e)).os=w.os/\(w0.alloc (.cells cur e)).tape=w.tape/\(w0.alloc (.cells cur e)).output=w.output:=
  ⟨hold,by simp [eN],qZ.2.1,qZ.2.2.1,qZ.2.2.2⟩
 obtain⟨sv,mz⟩:∃sv,sv=Value.slice (some ⟨w.heap.size,0,none⟩) cs.length cap:=⟨_,rfl⟩;obtain⟨B9,_⟩:bx G.N G w (G.dW sv cs.length (some w.heap.size)) (w0.alloc (.cells cur e))/\True:=by
  refine⟨⟨hw.2.1,λ_ _ h=>h,λb o hs=>World.cell?_of_block (hw.1 b (hi.S b o hs)),λ_ _=>rfl,λn hn=> .inl ⟨by simp [Gh.dW,Nat.ne_of_lt hn],by simp [Gh.dW,Nat.ne_of_lt hn]⟩,fY rfl,λb hb=>hw.1 b (hi.z b hb),hw.2.2.1,hw.2.2.2.1,hw.2.2.2.2,λ_ _ h=> .inl h⟩,trivial⟩
 obtain⟨hE,hI⟩:=Oc (w':=w0.alloc (.cells cur e)) hi (.vec e k cs) (λ_ _=>rfl) sv cs.length (some w.heap.size) hw (λg hg=>by cases hg;exact ao3 _) (by
  refine⟨by simp [Gh.dW],apa h1 h2,iZ, .inr ⟨w.heap.size,cap,cur,by simp [Gh.dW],by simp [Gh.dW,mz],λhz=>apx _ (hi.z _ hz),e7,h1,h2,h3,λo hs=>apx _ (hi.S _ _ hs),λi j c x u hc hx hu=>(Bf i j c x u hc hx hu).aS B9 (Nat.le_succ _)⟩⟩)
 refine⟨_,hE,Nat.le_succ _,hI,λlen hlen=> ?_⟩;rw[hi.len];refine .vec G.N 0 len cs.length k (by simp [Gh.dW]) ⟨_,_,_,rfl⟩ (by simp [Gh.dW]) λ_=>⟨by omega,⟨_,_,rfl,apa hlen h1,h2,h1,λ_=>⟨w.heap.size,cap,by simp [Gh.dW,mz],by simp,by simp⟩⟩,λ_ e=>by subst e;simp [Gh.dW,mz]⟩
theorem afR{T e k len m cX:Nat}{i:TypeInfo}{z:apL}{kl kc:IntKind}{l c:Int}(hi:Inv G w h)(hT:P.underlying T=some (.slice e))(kS:P.info? e=some i)(hz:i.zero=some z)(om:i.size=k)(yc:i.bytes=cX)(jZ:z.cells.toList.length=k)(gL:0<k)
 (h0:0<=l) (kW:l<=c) (hl:l.toNat=len) (hc:c.toNat=m) (hm:m<=maxLen) (hb:cX*m<=281474976710656):
 ∃u w' G',(Instr.makeSlice T (.int kl l) (.int kc c)).run P w= .ok u w'/\bx G.N G w G' w'/\G.N<=G'.N/\Inv G' w' (h++[.vec e k (List.replicate m (z.cells.toList.map λu=> .d (.v u)))])/\aD G' w' u (.vec h.length 0 len m k):=by
 subst om;subst yc;have fj:(i.bytes:Int)*c<=281474976710656:=by
  have:((i.bytes*m:Nat):Int)<=281474976710656:=by omega
  rw[Int.natCast_mul,<-hc,Int.toNat_of_nonneg (by omega)]at this;exact this
 have h63:c<=9223372036854775807:=by have h:=hm;simp [maxLen]at h;omega
 have db:=run_make (P:=P) w T e i z hT kS hz kl kc l c h0 kW fj h63;rw[hl,hc]at db;have fX:(List.replicate m (z.cells.toList.map λu=>AV.d (.v u))).length=m:=apt;obtain⟨G',g1,g2,g3,g4⟩:=P7 (e:=e) (k:=i.size) (cap:=m) (cs:=List.replicate m (z.cells.toList.map λu=>AV.d (.v u))) (cur:=madeCells z.cells (m*i.size)) hi (by rw[fX];exact ao3 _) hm (size_madeCells _ _) (λc hc=>by
  rw[List.eq_of_mem_replicate hc,aoX];exact jZ) w ⟨rfl,rfl,rfl,rfl⟩ (λa b c x u hc hx hu=>by
  have:=List.eq_of_mem_replicate (ao5 hc);subst this;rw[aoZ]at hx;cases hq:z.cells.toList[b]? with
  |none=>rw[hq]at hx;cases hx
  |some y=>
   rw[hq]at hx;cases hx
   have ji:b<i.size:=by rw[<-jZ];exact(aoS.1 hq).1
   have Pq:a<m:=by have:=(aoS.1 hc).1;rwa [fX]at this
   unfold madeCells at hu;have aH:a*i.size+b<m*i.size:=nu Pq ji;rw[Array.getElem?_map,Array.getElem?_range,if_pos aH]at hu;simp only[Option.map_some,Option.some.injEq]at hu;have jF:z.cells.size=i.size:=by rw[<-apq];exact jZ
   rw[jF,(GQ (i:=a) ji).2]at hu;have uq:z.cells[b]?=some y:=by rw[<-apf];exact hq
   rw[getElem!_pos z.cells b (by rw[jF];exact ji)]at hu;rw[ape (by rw[jF];exact ji)]at uq;cases uq
   subst hu;exact .d (.v _))
 rw[fX]at g4;refine⟨_,_,G',db,g1,g2,g3,g4 len ?_⟩;rw[<-hl,<-hc];omega
theorem abr{T tx ty e k cX n o len L:Nat}{i:TypeInfo}{z:apL}{u v:apL}{cs ys:apH (apH AV)}{us:apH apL}(hi:Inv G w h)(hT:P.underlying T=some (.slice e))(kS:P.info? e=some i)(hz:i.zero=some z)(om:i.size=k)(yc:i.bytes=cX)(jZ:z.cells.size=k)(gL:0<k)
 (hn:h[n]?=some (.vec e k cs)) (hL:cs.length=L) (hu:aD G w u (.vec n o len L k)) (hr:y6 G w k ys us) (hs:Src P k tx v ys.length us w)
 {L':Nat} {bJ:apH (apH AV)} (rU:(o+len+ys.length<=L/\L'=L/\bJ=cs.take (o+len)++ys++cs.drop (o+len+ys.length))\/(o=0/\len=L/\L'=L+ys.length/\bJ=cs++ys/\L'<=maxLen/\L'*cX<=140737488355328)):
 ∃r w' G',(Builtin.append_ #[T,tx] ty #[u,v]).run P w= .ok r w'/\bx G.N G w G' w'/\G.N<=G'.N/\Inv G' w' (h.set n (.vec e k bJ))/\aD G' w' r (.vec n o (len+ys.length) L' k):=by
 subst om;subst yc;have py:=hi.lt hn;have iZ:=FP hi hn;have lW:=hu.pe hi hn hL;have wJ:=hi.cu n _ hn;have aoL:=lW;obtain⟨Ae,⟨A,c,rfl,c1,c2,c3,c4⟩,call⟩:=lW;by_cases hy:ys.length=0
 ·have kV:ys=[]:=List.eq_nil_of_length_eq_zero hy;subst kV;have mo:us=[]:=List.eq_nil_of_length_eq_zero (by rw[hr.len];simp);subst mo;have db:=run_append_nothing (P:=P) w T tx ty e i hT kS A len c c1 v hs;have e1:bJ=cs:=by
   rcases rU with⟨_,_,e⟩|⟨_,_,_,e,_⟩
   ·rw[e];simp
   ·rw[e];simp
  have e2:L'=L:=by
   rcases rU with⟨_,e,_⟩|⟨_,_,e,_⟩
   ·exact e
   ·rw[e];simp
  subst e1;subst e2;refine⟨_,w,G,db,bx.refl _ _ _,ao3 _,?_,by simpa using hu⟩;have:h.set n (.vec e i.size bJ)=h:=by
   refine List.ext_getElem? λm=> ?_;by_cases em:m=n
   ·subst em;rw[apl (aoS.1 hn).1,hn]
   ·rw[apr (Ne.symm em)]
  rw[this];exact hi
 ·have hy0:0<ys.length:=Nat.pos_of_ne_zero hy;have room:len+ys.length<=c->∀g cap cur,G.ow n=some g->G.sg n= .slice (some ⟨g,0,none⟩) cs.length cap->¬G.Z g->w.heap[g]?=some (.cells cur e (0,0))->cs.length<=cap->cap<=maxLen->cur.size=cap*i.size->(∀o,¬G.S g o)->
      (∀(a b:Nat)(d:apH AV)(x:AV)(q:apL),cs[a]?=some d->d[b]?=some x->cur[a*i.size+b]?=some q->aD G w q x)->A=some ⟨g,o*i.size,none⟩->o+c=cap->
      ∃r w' G',(Builtin.append_ #[T,tx] ty #[.slice A len c,v]).run P w= .ok r w'/\bx G.N G w G' w'/\G.N<=G'.N/\Inv G' w' (h.set n (.vec e i.size bJ))/\aD G' w' r (.vec n o (len+ys.length) L' i.size):=by
   intro nM g cap cur r1 r2 r3 r4 r5 r6 r7 r8 r9 rA rc;have mg:(o+len)*i.size+us.length<=cur.size:=by
    rw[hr.len,r7,<-Nat.add_mul];exact Nat.mul_le_mul_right _ (by omega)
   have Ax:∀j,j<us.length->(w.cell? ⟨g,o*i.size+len*i.size+j,none⟩).isSome=true:=λj hj=>by
    rw[cell_of_row w g _ cur e (0,0) r4,ape (by rw[Nat.add_mul]at mg;omega)];rfl
   have db:=run_append_room_src (P:=P) w T tx ty e i hT kS g (o*i.size) len c v ys.length us hs nM Ax (λj hj=>by unfold World.frozen?;rw[r4];simp);have lY:=run_storeCells_at P g (o*i.size+len*i.size) e us 0 cur w r4 (by rw[Nat.add_mul]at mg;simpa using mg) hr.one;have yG:=run_storeCells_cells (P:=P) g (o*i.size+len*i.size) us 0 w (by simpa using Ax) (λj hj=>by unfold World.frozen?;rw[r4];simp) hr.one;simp only[Nat.add_zero]at lY yG;rw[lY]at yG;injection yG with _ e2;rw[<-e2,<-Nat.add_mul]at db;rw[rA];have e7:∀(a b:Nat)(d:apH AV)(x:AV)(q:apL),bJ[a]?=some d->d[b]?=some x->(if(o+len)*i.size<=a*i.size+b/\a*i.size+b<(o+len)*i.size+us.length then us[a*i.size+b-(o+len)*i.size]? else cur[a*i.size+b]?)=some q->aD G w q x:=by
    intro a b d x q hd hx hq;have Qf:d.length=i.size:=by
     have hm:=ao5 hd;rcases rU with⟨_,_,e⟩|⟨_,_,_,e,_⟩
     ·rw[e]at hm;rcases apv.1 hm with hm|hm
      ·rcases apv.1 hm with hm|hm
       ·exact iZ d (List.mem_of_mem_take hm)
       ·exact hr.wid d hm
      ·exact iZ d (List.mem_of_mem_drop hm)
     ·rw[e]at hm;rcases apv.1 hm with hm|hm
      ·exact iZ d hm
      ·exact hr.wid d hm
    have ji:b<i.size:=by rw[<-Qf];exact(aoS.1 hx).1
    have L8:(a<o+len/\cs[a]?=some d)\/(o+len<=a/\a<o+len+ys.length/\ys[a-(o+len)]?=some d)\/(o+len+ys.length<=a/\cs[a]?=some d):=by
     rcases rU with⟨hf,_,e⟩|⟨e0,e1,_,e,_⟩
     ·rw[e]at hd;have N4:(cs.take (o+len)).length=o+len:=by rw[List.length_take];omega
      by_cases h1:a<o+len
      ·rw[ao9,ao2 (by rw[N4];exact h1),List.getElem?_take_of_lt h1]at hd;exact .inl ⟨h1,hd⟩
      ·rw[ao9,ao8 (by rw[N4];omega),N4]at hd;by_cases h2:a-(o+len)<ys.length
       ·rw[ao2 h2]at hd;exact .inr (.inl ⟨by omega,by omega,hd⟩)
       ·rw[ao8 (by omega),List.getElem?_drop,show o+len+ys.length+(a-(o+len)-ys.length)=a by omega]at hd;exact .inr (.inr ⟨by omega,hd⟩)
     ·rw[e]at hd;by_cases h1:a<cs.length
      ·rw[ao2 h1]at hd;exact .inl ⟨by omega,hd⟩
      ·rw[ao8 (by omega)]at hd;have:=(aoS.1 hd).1;exact .inr (.inl ⟨by omega,by omega,by rw[show a-(o+len)=a-cs.length by omega];exact hd⟩)
    rcases L8 with⟨h1,h2⟩|⟨h1,h2,h3⟩|⟨h1,h2⟩
    ·rw[if_neg (by have:=nu h1 ji;omega)]at hq;exact r9 a b d x q h2 hx hq
    ·have hle:(o+len)*i.size<=a*i.size:=Nat.mul_le_mul_right _ h1;have aH:a*i.size+b<(o+len+ys.length)*i.size:=nu h2 ji;rw[Nat.add_mul (o+len)]at aH;rw[if_pos ⟨by omega,by rw[hr.len];exact aH⟩]at hq;refine hr.rel (a-(o+len)) b d x q h3 hx ?_;rw[Nat.sub_mul,show a*i.size-(o+len)*i.size+b=a*i.size+b-(o+len)*i.size by omega];exact hq
    ·have hle:(o+len+ys.length)*i.size<=a*i.size:=Nat.mul_le_mul_right _ h1;rw[Nat.add_mul (o+len)]at hle;rw[if_neg (by rw[hr.len];omega)]at hq;exact r9 a b d x q h2 hx hq
   have Za:∀d∈bJ,d.length=i.size:=λd hm=>by
    rcases rU with⟨_,_,e⟩|⟨_,_,_,e,_⟩
    ·rw[e]at hm;rcases apv.1 hm with hm|hm
     ·rcases apv.1 hm with hm|hm
      ·exact iZ d (List.mem_of_mem_take hm)
      ·exact hr.wid d hm
     ·exact iZ d (List.mem_of_mem_drop hm)
    ·rw[e]at hm;rcases apv.1 hm with hm|hm
     ·exact iZ d hm
     ·exact hr.wid d hm
   rcases rU with⟨hf,eL,ec⟩|⟨e0,e1,eL,ec,kH,oK⟩
   ·have fX:bJ.length=cs.length:=by rw[ec];simp;omega
    obtain⟨G',k1,k2,k3,k4,k5⟩:=TB (us:=us) (off:=(o+len)*i.size) (bJ:=bJ) hi hn gL r1 r2 r3 r4 r5 r6 r7 r8 mg fX Za e7;refine⟨_,_,G',db,k1,by rw[k2];exact ao3 _,k3,?_⟩;refine .vec n o (len+ys.length) L' i.size (by rw[k2];exact py) ⟨_,_,_,rfl⟩ (by rw[k5,eL,wJ.1,hL];exact ao3 _) λ_=> ?_;rw[k4];refine⟨by omega,⟨_,_,rfl,nM,c2,by omega,λho=> ?_⟩,λho hl=> ?_⟩
    ·rw[eL]at ho ⊢;obtain⟨g2,Yb,q1,q2,q3⟩:=c4 ho;exact⟨g2,Yb,q1,by rw[<-q2,rA],q3⟩
    ·subst ho;rw[r2,hL,<-eL,<-hl];simp at rc;subst rc;simp
   ·subst e0;subst e1;simp only[apc,Nat.zero_mul]at*;subst rc;obtain⟨w',eH⟩:∃w',w'=w.setRow g (cur.toList.take (len*i.size)++us++cur.toList.drop (len*i.size+us.length)).toArray:=⟨_,rfl⟩;rw[<-eH]at db;have iT:∀b,b≠g->w'.heap[b]?=w.heap[b]?:=λb hb=>by rw[eH];exact setRow_other w g b _ hb
    have mf:w'.heap[g]?=some (.cells (cur.toList.take (len*i.size)++us++cur.toList.drop (len*i.size+us.length)).toArray e (0,0)):=by rw[eH];exact setRow_heap w g cur _ e _ r4
    have eN:w'.heap.size=w.heap.size:=by rw[eH];exact MG w g _
    obtain⟨sv,mz⟩:∃sv,sv=Value.slice (some ⟨g,0,none⟩) L' c:=⟨_,rfl⟩;have fX:bJ.length=L':=by rw[ec,aoT,hL,eL]
    have mw:G.fl n=len:=by rw[wJ.1,hL]
    have hE:bx G.N G w (G.grow n G.S sv L' (some g)) w':=⟨by rw[eN];exact ao3 _,λ_ _ h=>h,λb q hs=>World.cell?_of_block (iT b (λe=>r8 q (e▸hs))),λ_ _=>rfl,λm _=>by
        by_cases em:m=n
        ·right;subst em;simp only[Gh.grow,if_true,mw];omega
        ·left;exact⟨by simp [Gh.grow,em],by simp [Gh.grow,em]⟩,fY rfl,λb hb=>iT b (λe=>r3 (e▸hb)),by rw[eH];rfl,by rw[eH];rfl,by rw[eH];rfl,λb q hs=> .inl hs⟩
    refine⟨_,w',_,db,hE,ao3 _,JX hi hn (λ_=>rfl) (λ_=>rfl) _ _ _ _ hE (λg' qw=>by cases qw;exact⟨.inr r1,by rw[eN];exact(ao7.1 r4).1⟩) (λb q hs=> .inl hs) (λb _ fj=>iT b (λe=>fj (by rw[e]))) ?_,?_⟩
    ·refine⟨by simp [Gh.grow,fX],by rw[fX];exact kH,Za, .inr ⟨g,c,_,by simp [Gh.grow],by simp [Gh.grow,mz,fX],r3,mf,by rw[fX];omega,r6,by rw[WG _ _ _ mg];exact r7,r8,λa b d x q hd hx hq=> ?_⟩⟩;rw[VB _ _ _ _ mg]at hq;exact(e7 a b d x q hd hx hq).aS hE (ao3 _)
    ·refine .vec n 0 (len+ys.length) L' i.size py ⟨_,_,_,rfl⟩ (by simp [Gh.grow]) λ_=>⟨by omega,⟨_,_,rfl,nM,c2,by omega,λ_=>⟨g,c,by simp [Gh.grow,mz],by simp,by simp⟩⟩,λ_ e=> ?_⟩;simp [Gh.grow,mz,eL]
  rcases wJ.2.2.2 with⟨b1,b2,A',b3⟩|⟨g,cap,cur,r1,r2,r3,r4,r5,r6,r7,r8,r9⟩
  ·
   subst b2;simp at hL;subst hL;have ho:o=0:=by omega
   have xa:len=0:=by omega
   subst ho;subst xa;have:=call rfl rfl;rw[b3]at this;injection this with q1 _ q2;subst q2;rcases rU with⟨hf,_,_⟩|⟨_,_,eL,ec,kH,oK⟩
   ·omega
   ·simp only[apc,List.nil_append]at eL ec;subst ec;rw[eL]at kH oK;have NL:bJ.length<=9223372036854775807:=by simp only[maxLen]at kH;omega
    have hold:(Builtin.firstCells i.size 0 (.slice A 0 0)).run P w.drew= .ok ([]:apH apL).toArray w.drew:=by
     cases A with
     |none=>exact run_firstCells_none _ _ _ _ _
     |some a=>exact run_firstCells_some _ _ _ _ _ _ [] (by simp) (λj u hu=>by simp at hu)
    have db:=run_append_grow_src (P:=P) w T tx ty e i z hT kS hz A 0 0 [] hold v bJ.length us hs (by omega) (by omega) (growslice_fits (by omega) (by simpa using oK));simp only[apc,List.nil_append]at db;obtain⟨cap,j7⟩:∃cap,cap=grownCap w bJ.length 0 e:=⟨_,rfl⟩;have jM:bJ.length<=cap:=by rw[j7];exact grownCap_ge _ _ _ _
    have hle:cap<=maxLen:=by rw[j7];exact grownCap_le_maxLen _ _ _ _ kH
    rw[<-j7]at db;obtain⟨cur,j9⟩:∃cur,cur=us.toArray++Builtin.zeroCells z.cells (cap-bJ.length):=⟨_,rfl⟩;rw[<-j9]at db;have gd:cur.size=cap*i.size:=by
      have:=size_zeroCells z.cells (cap-bJ.length);rw[j9,Array.size_append,this,List.size_toArray,hr.len,jZ,<-Nat.add_mul]
      congr 1
      omega
    have e7:(w.drew.alloc (.cells cur e)).heap[w.heap.size]?=some (.cells cur e (0,0)):=World.alloc_heap_new w.drew _;have xE:∀b,b<w.heap.size->(w.drew.alloc (.cells cur e)).heap[b]?=w.heap[b]?:=λb hb=>Below.heap_alloc w.drew _ b hb;obtain⟨sv,mz⟩:∃sv,sv=Value.slice (some ⟨w.heap.size,0,none⟩) L' cap:=⟨_,rfl⟩;have mw:G.fl n=0:=by rw[wJ.1];rfl
    have hE:bx G.N G w (G.grow n G.S sv L' (some w.heap.size)) (w.drew.alloc (.cells cur e)):=⟨by simp,λ_ _ h=>h,λb q hs=>World.cell?_of_block (xE b (hi.S b q hs)),λ_ _=>rfl,λm _=>by
        by_cases em:m=n
        ·right;subst em;simp only[Gh.grow,if_true,mw];omega
        ·left;exact⟨by simp [Gh.grow,em],by simp [Gh.grow,em]⟩,fY rfl,λb hb=>xE b (hi.z b hb),rfl,rfl,rfl,λb q hs=> .inl hs⟩
    refine⟨_,_,_,db,hE,ao3 _,JX hi hn (λ_=>rfl) (λ_=>rfl) _ _ _ _ hE (λg' qw=>by cases qw;exact⟨.inl rfl,by simp⟩) (λb q hs=> .inl hs) (λb hb _=>xE b hb) ?_,?_⟩
    ·refine⟨by simp [Gh.grow,eL],kH,hr.wid, .inr ⟨w.heap.size,cap,cur,by simp [Gh.grow],by simp [Gh.grow,mz,eL],λhz=>apx _ (hi.z _ hz),e7,jM,hle,gd,λq hs=>apx _ (hi.S _ _ hs),λa b d x q hd hx hq=> ?_⟩⟩;have ji:b<i.size:=by rw[<-hr.wid d (ao5 hd)];exact(aoS.1 hx).1
     have aH:a*i.size+b<us.length:=by rw[hr.len];exact nu (aoS.1 hd).1 ji
     rw[j9,Array.getElem?_append_left (by simpa using aH),List.getElem?_toArray]at hq;exact(hr.rel a b d x q hd hx hq).aS hE (ao3 _)
    ·rw[apc];refine .vec n 0 bJ.length L' i.size py ⟨_,_,_,rfl⟩ (by simp [Gh.grow]) λ_=>⟨by omega,⟨_,_,rfl,jM,hle,by omega,λ_=>⟨w.heap.size,cap,by simp [Gh.grow,mz],by simp,by simp⟩⟩,λ_ e=> ?_⟩;simp [Gh.grow,mz,eL]
  ·
   rcases rU with⟨hf,eL,ec⟩|⟨e0,e1,eL,ec,kH,oK⟩
   ·obtain⟨g2,Yb,q1,q2,q3⟩:=c4 (by omega);rw[r2]at q1;injection q1 with q4 _ q5;cases q4
    subst q5;exact room (by omega) g cap cur r1 r2 r3 r4 r5 r6 r7 r8 r9 q2 q3
   ·have:=call e0 e1;rw[r2]at this;injection this with q2 _ q3;by_cases nM:len+ys.length<=c
    ·exact room nM g cap cur r1 r2 r3 r4 r5 r6 r7 r8 r9 (by rw[q2,e0];simp) (by omega)
    ·subst e0;subst q2;subst q3;rw[eL]at kH oK;have NL:L+ys.length<=9223372036854775807:=by simp only[maxLen]at kH;omega
     have Hc:(cur.toList.take (len*i.size)).length=len*i.size:=by
      rw[List.length_take,apq,r7];exact Nat.min_eq_left (Nat.mul_le_mul_right _ c1)
     have hold:(Builtin.firstCells i.size len (.slice (some ⟨g,0,none⟩) len c)).run P w.drew= .ok (cur.toList.take (len*i.size)).toArray w.drew:=
      run_firstCells_some _ _ _ _ _ _ _ Hc (λj q hq=>by
       rw[kZ,apc];show w.cell? ⟨g,j,none⟩=some q;rw[cell_of_row w g _ cur e (0,0) r4,<-apf];have BT:=(aoS.1 hq).1;rw[Hc]at BT;rw[List.getElem?_take_of_lt BT]at hq;exact hq)
     have db:=run_append_grow_src (P:=P) w T tx ty e i z hT kS hz (some ⟨g,0,none⟩) len c _ hold v ys.length us hs (by omega) (by omega) (growslice_fits (by omega) (by rw[e1];exact oK));obtain⟨cap,j7⟩:∃cap,cap=grownCap w (len+ys.length) c e:=⟨_,rfl⟩;have jM:len+ys.length<=cap:=by rw[j7];exact grownCap_ge _ _ _ _
     have hle:cap<=maxLen:=by rw[j7];exact grownCap_le_maxLen _ _ _ _ (by rw[e1];exact kH)
     rw[<-j7]at db;obtain⟨vf,j9⟩:∃vf,vf=(cur.toList.take (len*i.size)++us).toArray++Builtin.zeroCells z.cells (cap-(len+ys.length)):=⟨_,rfl⟩;rw[<-j9]at db;have C3:(cur.toList.take (len*i.size)++us).length=(len+ys.length)*i.size:=by rw[aoT,Hc,hr.len,<-Nat.add_mul]
     have gd:vf.size=cap*i.size:=by
      have:=size_zeroCells z.cells (cap-(len+ys.length));rw[j9,Array.size_append,this,List.size_toArray,C3,jZ,<-Nat.add_mul]
      congr 1
      omega
     have e7:(w.drew.alloc (.cells vf e)).heap[w.heap.size]?=some (.cells vf e (0,0)):=World.alloc_heap_new w.drew _;have xE:∀b,b<w.heap.size->(w.drew.alloc (.cells vf e)).heap[b]?=w.heap[b]?:=λb hb=>Below.heap_alloc w.drew _ b hb;obtain⟨sv,mz⟩:∃sv,sv=Value.slice (some ⟨w.heap.size,0,none⟩) L' cap:=⟨_,rfl⟩;have mw:G.fl n=L:=by rw[wJ.1,hL]
     have fX:bJ.length=L':=by rw[ec,aoT,hL,eL]
     have hE:bx G.N G w (G.grow n G.S sv L' (some w.heap.size)) (w.drew.alloc (.cells vf e)):=⟨by simp,λ_ _ h=>h,λb q hs=>World.cell?_of_block (xE b (hi.S b q hs)),λ_ _=>rfl,λm _=>by
         by_cases em:m=n
         ·right;subst em;simp only[Gh.grow,if_true,mw];omega
         ·left;exact⟨by simp [Gh.grow,em],by simp [Gh.grow,em]⟩,fY rfl,λb hb=>xE b (hi.z b hb),rfl,rfl,rfl,λb q hs=> .inl hs⟩
     refine⟨_,_,_,db,hE,ao3 _,JX hi hn (λ_=>rfl) (λ_=>rfl) _ _ _ _ hE (λg' qw=>by cases qw;exact⟨.inl rfl,by simp⟩) (λb q hs=> .inl hs) (λb hb _=>xE b hb) ?_,?_⟩
     ·refine⟨by simp [Gh.grow,fX],by rw[fX,eL];exact kH,λd hd=> ?_, .inr ⟨w.heap.size,cap,vf,by simp [Gh.grow],by simp [Gh.grow,mz,fX],λhz=>apx _ (hi.z _ hz),e7,by rw[fX];omega,hle,gd,λq hs=>apx _ (hi.S _ _ hs),λa b d x q hd hx hq=> ?_⟩⟩
      ·rw[ec]at hd;rcases apv.1 hd with hd|hd
       ·exact iZ d hd
       ·exact hr.wid d hd
      ·refine aD.aS hE (ao3 _) ?_;have Qf:d.length=i.size:=by
        have hm:=ao5 hd;rw[ec]at hm;rcases apv.1 hm with hm|hm
        ·exact iZ d hm
        ·exact hr.wid d hm
       have ji:b<i.size:=by rw[<-Qf];exact(aoS.1 hx).1
       have hal:a<len+ys.length:=by
        have:=(aoS.1 hd).1;rw[fX,eL]at this;omega
       have aH:a*i.size+b<(cur.toList.take (len*i.size)++us).length:=by rw[C3];exact nu hal ji
       rw[j9,Array.getElem?_append_left (by simpa using aH),List.getElem?_toArray,ae6 _ us len a b Hc ji]at hq;rw[ec]at hd;by_cases h1:a<len
       ·rw[if_pos h1,List.getElem?_take_of_lt (nu h1 ji),apf]at hq;rw[ao2 (by omega)]at hd;exact r9 a b d x q hd hx hq
       ·rw[if_neg h1]at hq;rw[ao8 (by omega)]at hd;exact hr.rel (a-len) b d x q (by rw[<-hd];congr 1;omega) hx hq
     ·refine .vec n 0 (len+ys.length) L' i.size py ⟨_,_,_,rfl⟩ (by simp [Gh.grow]) λ_=>⟨by omega,⟨_,_,rfl,jM,hle,by omega,λ_=>⟨w.heap.size,cap,by simp [Gh.grow,mz],by simp,by simp⟩⟩,λ_ e=> ?_⟩;simp [Gh.grow,mz,eL,e1]
theorem Xj{T tx ty e k cX:Nat}{i:TypeInfo}{z:apL}{A:apJ Addr}{v:apL}{ys:apH (apH AV)}{us:apH apL}(hi:Inv G w h)(hT:P.underlying T=some (.slice e))(kS:P.info? e=some i)(hz:i.zero=some z)(om:i.size=k)(yc:i.bytes=cX)(jZ:z.cells.size=k)(gL:0<k)
 (hr:y6 G w k ys us) (hs:Src P k tx v ys.length us w) (kH:ys.length<=maxLen) (oK:ys.length*cX<=140737488355328):
 ∃r w' G',(Builtin.append_ #[T,tx] ty #[.slice A 0 0,v]).run P w= .ok r w'/\bx G.N G w G' w'/\G.N<=G'.N/\Inv G' w' (h++[.vec e k ys])/\aD G' w' r (.vec h.length 0 ys.length ys.length k):=by
 subst om;subst yc;by_cases hy:ys.length=0
 ·have kV:ys=[]:=List.eq_nil_of_length_eq_zero hy;subst kV;have mo:us=[]:=List.eq_nil_of_length_eq_zero (by rw[hr.len];simp);subst mo;have db:=run_append_nothing (P:=P) w T tx ty e i hT kS A 0 0 (ao3 _) v hs;obtain⟨hE,hI⟩:=Oc (w':=w) hi (.vec e i.size []) (λ_ _=>rfl) (.slice A 0 0) 0 none ⟨λ_ _=>rfl,ao3 _,rfl,rfl,rfl⟩ (λg hg=>by cases hg) ⟨by simp [Gh.dW],by simp,(λ_ h=>by cases h), .inl ⟨by simp [Gh.dW],rfl,A,by simp [Gh.dW]⟩⟩;refine⟨_,w,_,db,hE,Nat.le_succ _,hI,?_⟩;rw[hi.len];exact .vec G.N 0 0 0 i.size (by simp [Gh.dW]) ⟨_,_,_,rfl⟩ (by simp) λ_=>⟨by omega,⟨A,0,rfl,ao3 _,Nat.zero_le _,by omega,λh=>by omega⟩,λ_ _=>by simp [Gh.dW]⟩
 ·have NL:ys.length<=9223372036854775807:=by simp only[maxLen]at kH;omega
  have hold:(Builtin.firstCells i.size 0 (.slice A 0 0)).run P w.drew= .ok ([]:apH apL).toArray w.drew:=by
   cases A with
   |none=>exact run_firstCells_none _ _ _ _ _
   |some a=>exact run_firstCells_some _ _ _ _ _ _ [] (by simp) (λj u hu=>by simp at hu)
  have db:=run_append_grow_src (P:=P) w T tx ty e i z hT kS hz A 0 0 [] hold v ys.length us hs (by omega) (by omega) (growslice_fits (by omega) (by simpa using oK));simp only[apc,List.nil_append]at db;obtain⟨cap,j7⟩:∃cap,cap=grownCap w ys.length 0 e:=⟨_,rfl⟩;have jM:ys.length<=cap:=by rw[j7];exact grownCap_ge _ _ _ _
  have hle:cap<=maxLen:=by rw[j7];exact grownCap_le_maxLen _ _ _ _ kH
  rw[<-j7]at db;obtain⟨cur,j9⟩:∃cur,cur=us.toArray++Builtin.zeroCells z.cells (cap-ys.length):=⟨_,rfl⟩;rw[<-j9]at db;have gd:cur.size=cap*i.size:=by
    have:=size_zeroCells z.cells (cap-ys.length);rw[j9,Array.size_append,this,List.size_toArray,hr.len,jZ,<-Nat.add_mul]
    congr 1
    omega
  obtain⟨G',g1,g2,g3,g4⟩:=P7 (e:=e) (k:=i.size) (cap:=cap) (cs:=ys) (cur:=cur) hi jM hle gd hr.wid w.drew ⟨rfl,rfl,rfl,rfl⟩ (λa b d x q hd hx hq=>by
   have ji:b<i.size:=by rw[<-hr.wid d (ao5 hd)];exact(aoS.1 hx).1
   have aH:a*i.size+b<us.length:=by rw[hr.len];exact nu (aoS.1 hd).1 ji
   rw[j9,Array.getElem?_append_left (by simpa using aH),List.getElem?_toArray]at hq;exact hr.rel a b d x q hd hx hq)
  exact⟨_,_,G',db,g1,g2,g3,g4 _ (ao3 _)⟩
end
theorem QS:∀(cs:apH AV)(l:apH e9),AV.xC cs=some l->cs.length=l.length/\∀(i:Nat)(x:AV)(c:e9),cs[i]?=some x->l[i]?=some c->x.cap=some c
 |[],l,h=>by
  unfold AV.xC at h;cases h;exact⟨rfl,λi x c hx=>by simp at hx⟩
 |x::cs,l,h=>by
  unfold AV.xC at h;split at h
  ·next c l' e1 e2=>
   cases h
   obtain⟨h1,h2⟩:=QS cs l' e2;refine⟨by simp [h1],λi y d hy hd=> ?_⟩
   match i with
   |0=>simp only[List.getElem?_cons_zero,Option.some.injEq]at hy hd;subst hy;subst hd;exact e1
   |i+1=>exact h2 i y d (by simpa using hy) (by simpa using hd)
  ·cases h
theorem aD.cap{G:Gh}{w:apM}{u:apL}{x:AV}(h:aD G w u x):∀c,x.cap=some c->nN G.S w u c:=by
 induction h with
 |d h=>intro c hc;simp only[AV.cap]at hc;cases hc;exact .d h
 |own n xs h hp hle hf=>intro c hc;simp only[AV.cap]at hc;cases hc;exact .d hp
 |full xs hp hf=>intro c hc;simp only[AV.cap]at hc;cases hc;exact .d hp
 |bz xs i off b o u x hx hS hu=>
  intro c hc;simp only[AV.cap,hx]at hc;cases hc
  exact .bz x off b o u hS hu
 |fn f vs cs hl h ih=>
  intro c hc;simp only[AV.cap]at hc;split at hc
  ·next l e=>
   cases hc
   obtain⟨h1,h2⟩:=QS cs l e;refine .fn f vs l (hl.trans h1) λi v d hv hd=> ?_;have aH:i<cs.length:=by rw[h1];exact(aoS.1 hd).1
   exact ih i v _ hv (aoW aH) d (h2 i _ d (aoW aH) hd)
  ·cases hc
 |hid h h1=>intro c hc;simp only[AV.cap]at hc;cases hc;exact h
 |agg=>intro c hc;simp [AV.cap]at hc
 |bA=>intro c hc;simp [AV.cap]at hc
 |ptr=>intro c hc;simp [AV.cap]at hc
 |row=>intro c hc;simp [AV.cap]at hc
 |mp=>intro c hc;simp [AV.cap]at hc
 |cO=>intro c hc;simp [AV.cap]at hc
 |vec=>intro c hc;simp [AV.cap]at hc
 |di=>intro c hc;simp [AV.cap]at hc
 |dead=>intro c hc;simp [AV.cap]at hc
section
variable {P:apK} {r:apJ Nat} {n N0:Nat} {G:Gh} {w:apM} {a:Act} {s:St} {o:Oper} {K:St->Prop} {Q:Exit->Act->apM->Prop}
theorem ye(hs:cA G w a s)(l:Array Operand):(l.map a.eval).size=(l.toList.map (ev s)).length/\∀(i:Nat)(u:apL)(c:AV),(l.map a.eval)[i]?=some u->(l.toList.map (ev s))[i]?=some c->aD G w u c:=by
 refine⟨by simp,λi u c hu hc=> ?_⟩;rw[Array.getElem?_map]at hu;rw[aoZ,apf]at hc;cases hx:l[i]? with
 |none=>rw[hx]at hu;cases hu
 |some x=>rw[hx]at hu hc;cases hu;cases hc;exact hs.ev x
theorem abe(hs:cA G w a s)(l:Array (Nat×Operand)):(l.map λ(i,x)=>(i,a.eval x)).toList.length=(l.toList.map λp=>(p.1,ev s p.2)).length/\
 ∀(i:Nat)(p:Nat×AV)(q:Nat×apL),(l.toList.map λp=>(p.1,ev s p.2))[i]?=some p->(l.map λ(i,x)=>(i,a.eval x)).toList[i]?=some q->q.1=p.1/\aD G w q.2 p.2:=by
 refine⟨by simp,λi p q hp hq=> ?_⟩;rw[apf,Array.getElem?_map]at hq;rw[aoZ,apf]at hp;cases hx:l[i]? with
 |none=>rw[hx]at hp;cases hp
 |some x=>rw[hx]at hp hq;cases hp;cases hq;exact⟨rfl,hs.ev x.2⟩
theorem E8{x y:Operand}{T U:TypeId}(c:Call)(hc:c.callee= .builtin .append)(h1:c.args.toList=[x,y])(h2:c.argTypes.toList=[T,U])(ho:o.op= .call c):
 (execOp a.eval o).run P w=((Builtin.append_ #[T,U] o.type #[a.eval x,a.eval y]).run P w).andThen λv w'=> .ok (.value v) w':=by
 have e1:c.args= #[x,y]:=by rw[<-Array.toList_inj];exact h1
 have e2:c.argTypes= #[T,U]:=by rw[<-Array.toList_inj];exact h2
 unfold execOp;simp only[ho,resolve,hc,e1,e2,invoke,builtin,Sem.run_bind,Sem.run_pure,Result.andThen_ok,List.map_toArray,aph,List.map_nil]
theorem Vy{x:Operand}{T:TypeId}(c:Call)(hc:c.callee= .builtin .len)(h1:c.args.toList=[x])(h2:c.argTypes.toList=[T])(ho:o.op= .call c):
 (execOp a.eval o).run P w=((Builtin.len_ #[T] o.type #[a.eval x]).run P w).andThen λv w'=> .ok (.value v) w':=by
 have e1:c.args= #[x]:=by rw[<-Array.toList_inj];exact h1
 have e2:c.argTypes= #[T]:=by rw[<-Array.toList_inj];exact h2
 unfold execOp;simp only[ho,resolve,hc,e1,e2,invoke,builtin,Sem.run_bind,Sem.run_pure,Result.andThen_ok,List.map_toArray,aph,List.map_nil]
theorem adu(c:Call)(hc:c.callee= .builtin .max)(ho:o.op= .call c):
 (execOp a.eval o).run P w=((Builtin.max_ c.argTypes o.type (c.args.map a.eval)).run P w).andThen λv w'=> .ok (.value v) w':=by
 unfold execOp;simp only[ho,resolve,hc,invoke,builtin,Sem.run_bind,Sem.run_pure,Result.andThen_ok]
theorem agC(c:Call)(hc:c.callee= .builtin .min)(ho:o.op= .call c):
 (execOp a.eval o).run P w=((Builtin.min_ c.argTypes o.type (c.args.map a.eval)).run P w).andThen λv w'=> .ok (.value v) w':=by
 unfold execOp;simp only[ho,resolve,hc,invoke,builtin,Sem.run_bind,Sem.run_pure,Result.andThen_ok]
theorem abV{mx:Bool}{k k':IntKind}{z:Int}:∀(l:apH AV)(vs:apH apL)(x:Int),vs.length=l.length->(∀(i:Nat)(u:apL)(c:AV),vs[i]?=some u->l[i]?=some c->aD G w u c)->HZ mx k x l=some (k',z)->
 (vs.foldlM (if mx then Builtin.max2 else Builtin.min2) (.int k x)).run P w= .ok (.int k' z) w
 |[],[],x,_,_,h=>by cases h;simp
 |[],_::_,_,hl,_,_=>by simp at hl
 |_::_,[],_,hl,_,_=>by simp at hl
 |y::l,u::vs,x,hl,hr,h=>by
  unfold HZ at h;split at h
  ·next e=>cases e
  ·next k2 b l' e=>
   cases e
   have e1:=(hr 0 u _ rfl rfl).val;subst e1;have ih:=abV l vs _ (by simpa using hl) (λi u c hu hc=>hr (i+1) u c (by simpa using hu) (by simpa using hc)) h;rw[List.foldlM_cons,Sem.run_bind];cases mx with
   |true=>simp only[if_true,cond_true]at ih ⊢;simp only[Builtin.max2,Sem.run_pure,Result.andThen_ok];exact ih
   |false=>simp only[Bool.false_eq_true,if_false,cond_false]at ih ⊢;simp only[Builtin.min2,Sem.run_pure,Result.andThen_ok];exact ih
  ·cases h
theorem X9{mx:Bool}{k:IntKind}{z:Int}{l:apH AV}{vs:Array apL}(hl:vs.size=l.length)(hr:∀(i:Nat)(u:apL)(c:AV),vs[i]?=some u->l[i]?=some c->aD G w u c)(h:BV mx l=some (k,z)):
 ∃u us,vs.toList=u::us/\(us.foldlM (if mx then Builtin.max2 else Builtin.min2) u).run P w= .ok (.int k z) w:=by
 unfold BV at h;split at h
 ·next k2 x l'=>
  cases hv:vs.toList with
  |nil=>rw[<-apq,hv]at hl;simp at hl
  |cons u us=>
   refine⟨u,us,rfl,?_⟩;have qp:∀(i:Nat)(v:apL)(c:AV),(u::us)[i]?=some v->(AV.d (.v (.int k2 x))::l')[i]?=some c->aD G w v c:=λi v c h1 h2=>hr i v c (by rw[<-apf,hv];exact h1) h2;have e1:=(qp 0 u _ rfl rfl).val;subst e1;refine abV l' us x ?_ (λi v c h1 h2=>qp (i+1) v c (by simpa using h1) (by simpa using h2)) h;rw[<-apq,hv]at hl;simpa using hl
 ·cases h
theorem Ov{f:FuncId}(h:EG P f=true)(args:Array apL)(w:apM):(callFunc f args).run P w= .ok (.enter f args) w:=by
 unfold EG at h;cases hq:P.funcs[f]? with
 |none=>rw[hq]at h;simp at h
 |some fn=>
  rw[hq]at h;simp only[aoU,Bool.not_eq_true']at h;obtain⟨h1,h2⟩:=h;have h3:fn.body≠none:=by intro e;rw[e]at h1;cases h1
  have h4:fn.name≠ "runtime.NumGoroutine" :=by simpa using h2
  simp [callFunc,hq,h4,h3]
theorem ajb(hs:cA G w a s)(b6:N0<=G.N){x:AV}{h':apH an}{p:Sd}(hx:pN P o.op (ev s) s.h=some (x,h',p))(hp:p.ok)(hK:K ((s.wh h').put o.dst x)):o.wpIn (WF r) n P a w (iQ N0 G w K) Q:=by
 have c6:=hs.ev;unfold pN at hx;split at hx
 next T ho=>
  split at hx
  ·next q hT=>
   cases hx
   obtain⟨i1,i2,i3⟩:=aiq hs.inv;exact mA (by rw[ho];simp) hs b6 (v:= .map (some w.heap.size)) (by unfold execOp;simp [ho,run_makeMap,Result.andThen]) i1 (Nat.le_succ _) i2 i3 hK
  ·cases hx
 next T m i ok ho=>
  split at hx
  ·next k e hT=>
   split at hx
   ·next z hz=>
    split at hx
    ·next b s' hm hi=>
     split at hx
     ·next kv hn=>
      cases hc:strT P k&&z.oneCell' with
      |false=>rw[hc]at hx;cases hx
      |true=>
       rw[hc]at hx;cases hx
       rw[aoU]at hc;obtain⟨v,r1,r2⟩:=ajq (ok:=ok) (s:=s') hs.inv hT hz hc.1 hn;have e1:=c6 m;rw[hm]at e1;have e2:=c6 i;rw[hi]at e2;have e2:=e2.val;have Dq:a.eval m= .map (some (G.aI b)):=by
         generalize a.eval m=u at e1;cases e1 with|mp _ _=>rfl
       exact fe (by rw[ho];simp) hs b6 (by unfold execOp;simp [ho,Dq,e2,r1,Result.andThen]) r2 hK
     ·cases hx
    ·cases hx
   ·cases hx
  ·cases hx
 next T m i y ho=>
  split at hx
  ·next k e hT=>
   split at hx
   ·next b s' d hm hi hd=>
    split at hx
    ·next kv hn=>
     cases hc:strT P k with
     |false=>rw[hc]at hx;cases hx
     |true=>
      rw[hc]at hx;cases hx
      obtain⟨w',r1,r2,r3⟩:=ajf (s:=s') hs.inv hT hc hn ((c6 y).O7 hd) hp;have e1:=c6 m;rw[hm]at e1;have e2:=c6 i;rw[hi]at e2;have e2:=e2.val;have Dq:a.eval m= .map (some (G.aI b)):=by
       generalize a.eval m=u at e1;cases e1 with|mp _ _=>rfl
      exact Ny (by rw[ho];simp) hs b6 (by unfold execOp;simp [ho,Dq,e2,r1,Result.andThen]) r2 (ao3 _) r3 hK
    ·cases hx
   ·cases hx
  ·cases hx
 next=>cases hx
theorem U5(hs:cA G w a s)(b6:N0<=G.N)(h:rC P o K s):o.wpIn (WF r) n P a w (iQ N0 G w K) Q:=by
 have c6:=hs.ev;unfold rC cm at h;split at h
 next x ho=>exact fe (by rw[ho];simp) hs b6 (v:=a.eval x) (by unfold execOp;rw[ho];rfl) (c6 x) h
 next x ho=>exact fe (by rw[ho];simp) hs b6 (v:=a.eval x) (by unfold execOp;rw[ho];rfl) (c6 x) h
 next c x y ho=>
  split at h
  next t hc=>
   have hb:=c6 c;rw[hc]at hb;have e:=hb.bool;cases t with
   |true=>exact fe (by rw[ho];simp) hs b6 (v:=a.eval x) (by unfold execOp;simp [ho,e,asBool]) (c6 x) (h.1 rfl)
   |false=>exact fe (by rw[ho];simp) hs b6 (v:=a.eval y) (by unfold execOp;simp [ho,e,asBool]) (c6 y) (h.2 rfl)
  next=>exact h.elim
 next e ho=>
  split at h
  next z hz=>
   obtain⟨i1,i2⟩:=acC hs.inv z.cells e (z.cells.toList.map λu=> .d (.v u)) (by simp) (λi u c hu hc=>by
    rw[aoZ,apf,hu]at hc;cases hc;exact .d (.v u))
   exact mA (by rw[ho];simp) hs b6 (by unfold execOp;simp [ho,Instr.alloc,En hz,newVar,newRow]) (uk G w hs.inv.z hs.inv.S _) (Nat.le_succ _) i1 i2 h
  next=>exact h.elim
 next e x ho=>
  obtain⟨hb,hK⟩:=bN.1 h;have hr:=(c6 x).WM hb;obtain⟨i1,i2⟩:=acC hs.inv (a.eval x).cells e (ev s x).cells hr.len hr.rel;exact mA (by rw[ho];simp) hs b6 (by unfold execOp;simp [ho,Instr.box,newVar,newRow]) (uk G w hs.inv.z hs.inv.S _) (Nat.le_succ _) i1 i2 hK
 next t x ho=>
  obtain⟨u,y,h1,h2,h3⟩:=Ty hs.inv (c6 x) h;exact fe (by rw[ho];simp) hs b6 (by unfold execOp;simp [ho,h1]) h2 h3
 next t x y ho=>
  unfold yt at h;split at h
  next m off hm=>
   split at h
   next cs gd=>
    split at h
    case h_2=>exact h.elim
    rename_i k hk
    obtain⟨eK,h4⟩:=bN.1 h;simp only[aoU,beq_iff_eq,dI]at eK;obtain⟨⟨rfl,h2⟩,h3⟩:=eK;have h1:=hk;have hx:=c6 x;rw[hm]at hx;obtain⟨w',r1,r2,r3⟩:=ahL (P:=P) hs.inv gd (c6 y) h2 h1 h3;have ex:a.eval x= .pointer (some ⟨G.aI m,off,none⟩):=by
     generalize a.eval x=u at hx;cases hx with
     |ptr=>rfl
    exact Ny (by rw[ho];simp) hs b6 (by unfold execOp;simp [ho,Instr.storeAt,Instr.sureAddr,ex,r1]) r2 (ao3 _) r3 h4
   next=>exact h.elim
  next=>exact h.elim
 next x ho=>
  have hx:=c6 x;split at h
  next m off hm=>
   rw[hm]at hx;generalize ea:a.eval x=u at hx;cases hx with
   |ptr _ _ yT=>exact fe (by rw[ho];simp) hs b6 (by unfold execOp;simp [ho,ea]) (.ptr m off yT) h
  next xs i off hm=>
   rw[hm]at hx;generalize ea:a.eval x=u at hx;have qG:=hx;cases hx with
   |bz=>exact fe (by rw[ho];simp) hs b6 (by unfold execOp;simp [ho,ea]) qG h
  next f cs hm=>
   rw[hm]at hx;generalize ea:a.eval x=u at hx;have qG:=hx;cases hx with
   |fn=>exact fe (by rw[ho];simp) hs b6 (by unfold execOp;simp [ho,ea]) qG h
  next=>exact h.elim
 next T x f ho=>
  split at h
  next fo k g hT=>
   have hx:=c6 x;split at h
   next m off hm=>
    rw[hm]at hx;generalize ea:a.eval x=u at hx;cases hx with
    |ptr _ _ yT=>exact fe (by rw[ho];simp) hs b6 (by unfold execOp;simp [ho,ea,Pp hT]) (.ptr m (off+fo) yT) h
   next xs i off hm=>
    rw[hm]at hx;generalize ea:a.eval x=u at hx;cases hx with
    |bz _ _ _ b oo us c hx hS hu=>exact fe (by rw[ho];simp) hs b6 (by unfold execOp;simp [ho,ea,Pp hT];rfl) (by rw[Nat.add_assoc];exact .bz xs i (off+fo) b oo us c hx hS hu) h
   next=>exact h.elim
  next=>exact h.elim
 next T x f ho=>
  obtain⟨u,y,h1,h2,h3⟩:=agk (c6 x) h;exact fe (by rw[ho];simp) hs b6 (by unfold execOp;simp [ho,h1]) h2 h3
 next T x i ho=>
  obtain⟨u,y,h1,h2,h3⟩:=adY (c6 x) (c6 i) h;exact fe (by rw[ho];simp) hs b6 (by unfold execOp;simp [ho,h1]) h2 h3
 next T x i ho=>
  split at h
  next b z hb hz=>
   obtain⟨hT,h0,h⟩:=bN.1 h;have hT:=sY hT;have hx:=c6 x;rw[hb]at hx;have ex:=hx.val;obtain⟨k,ei⟩:=(c6 i).int hz;split at h
   next c hc=>
    refine fe (by rw[ho];simp) hs b6 (v:= .int .u8 c.toNat) ?_ (.d (.v _)) h;unfold execOp;simp [ho,Instr.index,ex,ei,asIntOf,run_underlying hT,h0,hc]
   next=>exact h.elim
  next=>exact h.elim
 next T ps ho=>
  obtain⟨p1,p2⟩:=abe hs ps;obtain⟨u,y,h1,h2,h3⟩:=alb p1 p2 h;exact fe (by rw[ho];simp) hs b6 (by unfold execOp;simp only[ho,Sem.run_bind,h1];rfl) h2 h3
 next T len ps ho=>
  obtain⟨p1,p2⟩:=abe hs ps;obtain⟨u,w',G',y,h1,h2,h3,h4,h5,h6⟩:=agZ (T:=T) hs.inv p1 p2 h;exact mA (by rw[ho];simp) hs b6 (by unfold execOp;simp only[ho,Sem.run_bind,h1];rfl) h2 h3 h4 h5 h6
 next T x lo hi mx ho=>
  obtain⟨u,y,h1,h2,h3⟩:=afu hs (c6 x) h;exact fe (by rw[ho];simp) hs b6 (by unfold execOp;simp [ho,h1]) h2 h3
 next x i ho=>
  have hx:=c6 x;split at h
  next cs gd=>
   rw[gd]at hx;generalize ea:a.eval x=u at hx;split at h
   next c hc=>
    cases hx with
    |bA vs _ hl hr=>
     have aH:i<vs.size:=by rw[hl];exact(aoS.1 hc).1
     exact fe (by rw[ho];simp) hs b6 (v:=vs[i]) (by unfold execOp;simp [ho,ea,Instr.extract,aH]) (hr i _ c (ape aH) hc) h
   next=>exact h.elim
  next=>exact h.elim
 next f first cU ho=>
  split at h
  ·next x hx=>
   unfold NI at hx;split at hx
   ·next e1=>
    cases hx
    have amK:first= #[]:=by
     rw[<-Array.toList_inj];exact List.map_eq_nil_iff.1 e1
    subst amK;obtain⟨p1,p2⟩:=ye hs cU;exact fe (by rw[ho];simp) hs b6 (v:= .func (.func f) #[] (cU.map a.eval)) (by unfold execOp;simp [ho,Instr.makeFunc]) (.fn f _ _ p1 p2) h
   ·split at hx
    ·next cs e1 e2=>
     cases hx
     have ac6:cU= #[]:=by
      rw[<-Array.toList_inj];exact List.map_eq_nil_iff.1 e2
     subst ac6;obtain⟨p1,p2⟩:=ye hs first
     obtain⟨c1,c2⟩:=QS _ _ e1;exact fe (by rw[ho];simp) hs b6 (v:= .func (.func f) (first.map a.eval) #[]) (by unfold execOp;simp [ho,Instr.makeFunc]) (.hid (.dS f _ _ (p1.trans c1) λi u c hu hc=>by
      have aH:i<(first.toList.map (ev s)).length:=by rw[c1];exact(aoS.1 hc).1
      exact(p2 i u _ hu (aoW aH)).cap c (c2 i _ c (aoW aH) hc)) rfl) h
    ·cases hx
  ·exact h.elim
 next op T x y U ho=>
  obtain⟨u,z,h1,h2,h3⟩:=afa (X:=x) (Y:=y) (c6 x) (c6 y) h;refine fe (by rw[ho];simp) hs b6 ?_ h2 h3;unfold execOp;simp only[ho];rw[Sem.run_bind,h1];rfl
 next op T x ho=>
  obtain⟨u,z,h1,h2,h3⟩:=anL (P:=P) (c6 x) h;exact fe (by rw[ho];simp) hs b6 (by unfold execOp;simp [ho,h1]) h2 h3
 next t u x ho=>
  obtain⟨u,z,h1,h2,h3⟩:=af2 (c6 x) h;exact fe (by rw[ho];simp) hs b6 (by unfold execOp;simp [ho,h1]) h2 h3
 next c ho=>
  have fW:∀c,o.op≠ .defer c:=by rw[ho];simp
  split at h
  next hc=>
   split at h
   next x T h1 h2=>
    obtain⟨m,r1,r2⟩:=aiJ (ty:=o.type) (c6 x) h;exact fe fW hs b6 (by rw[Vy c hc h1 h2 ho,r1];rfl) (.d (.v _)) r2
   next=>exact h.elim
  next hc=>
   split at h
   next x y T U h1 h2=>
    obtain⟨hU,h⟩:=bN.1 h;obtain⟨⟨e',k'⟩,hU⟩:=Option.isSome_iff_exists.1 hU;obtain⟨p,w',G',q,h',r1,r2,r3,r4,r5,r6⟩:=ajw (ty:=o.type) hs.inv (c6 x) (c6 y) (jO hU).1 h;exact mA fW hs b6 (by rw[E8 c hc h1 h2 ho,r1];rfl) r2 r3 r4 r5 r6
   next=>exact h.elim
  next hc=>
   split at h
   next k z hf=>
    obtain⟨p1,p2⟩:=ye hs c.args;obtain⟨u,us,e1,e2⟩:=X9 (P:=P) p1 p2 hf;refine fe fW hs b6 (v:= .int k z) ?_ (.d (.v _)) h;rw[adu c hc ho];unfold Builtin.max_;rw[e1];simp only[if_true]at e2;rw[e2];rfl
   next=>exact h.elim
  next hc=>
   split at h
   next k z hf=>
    obtain⟨p1,p2⟩:=ye hs c.args;obtain⟨u,us,e1,e2⟩:=X9 (P:=P) p1 p2 hf;refine fe fW hs b6 (v:= .int k z) ?_ (.d (.v _)) h;rw[agC c hc ho];unfold Builtin.min_;rw[e1];simp only[Bool.false_eq_true,if_false]at e2;rw[e2];rfl
   next=>exact h.elim
  next f hc=>
   have call:∀(g:FuncId)(cU:apH AV)(vs:Array apL),a.eval f= .func (.func g) #[] vs->vs.size=cU.length->(∀(i:Nat)(u:apL)(c:AV),vs[i]?=some u->cU[i]?=some c->aD G w u c)->
       cx P g (c.args.toList.map (ev s)++cU) s.h (λr h'=>K ((s.wh h').put o.dst r))->o.wpIn (WF r) n P a w (iQ N0 G w K) Q:=by
       intro g cU vs ea hl hr h;obtain⟨p1,p2⟩:=ye hs c.args;obtain⟨FL,jr⟩:=h;have ot:=jr G w (c.args.map a.eval++vs) hs.inv (by rw[Array.size_append,aoT,p1,hl]) (λi u x hu hx=>by
        by_cases hi:i<(c.args.map a.eval).size
        ·rw[Array.getElem?_append_left hi]at hu;rw[ao2 (by rw[<-p1];exact hi)]at hx;exact p2 i u x hu hx
        ·rw[Array.getElem?_append_right (by omega)]at hu;rw[ao8 (by rw[<-p1];omega)]at hx;rw[p1]at hu;exact hr _ u x hu hx)
       refine⟨λ_ _=>trivial,?_⟩;have db:(o.semAt (WF r).round a.eval).run P w= .ok (.enter g (c.args.map a.eval++vs)) w:=by
        rw[Oper.semAt_eq _ _ _ fW];unfold execOp;simp only[ho,resolve,hc,ea];simp [Deferred.ofValue,invoke,Ov FL]
       rw[db];refine⟨λh=>(by simp [WF,Fence.wide]at h),?_⟩;have h2:=callsIn_wide (n:=n-1).2 ot;refine CallsIn.mono (F:=WF r) h2 ?_;rintro e w' ⟨v,G',x,h',rfl,x1,x2,x3,x4,x5⟩;exact⟨G',_,x1.less b6,apa b6 x2,(hs.move x1 x2 x3).put x4 o.dst,x5⟩
   have anH:∀(g:FuncId)(cU:apH AV)(vs:Array apL),a.eval f= .func (.func g) vs #[]->vs.size=cU.length->(∀(i:Nat)(u:apL)(c:AV),vs[i]?=some u->cU[i]?=some c->aD G w u c)->
       cx P g (cU++c.args.toList.map (ev s)) s.h (λr h'=>K ((s.wh h').put o.dst r))->o.wpIn (WF r) n P a w (iQ N0 G w K) Q:=by
       intro g cU vs ea hl hr h;obtain⟨p1,p2⟩:=ye hs c.args;obtain⟨FL,jr⟩:=h;have ot:=jr G w (vs++c.args.map a.eval) hs.inv (by rw[Array.size_append,aoT,p1,hl]) (λi u x hu hx=>by
        by_cases hi:i<vs.size
        ·rw[Array.getElem?_append_left hi]at hu;rw[ao2 (by rw[<-hl];exact hi)]at hx;exact hr i u x hu hx
        ·rw[Array.getElem?_append_right (by omega)]at hu;rw[ao8 (by rw[<-hl];omega)]at hx;rw[hl]at hu;exact p2 _ u x hu hx)
       refine⟨λ_ _=>trivial,?_⟩;have db:(o.semAt (WF r).round a.eval).run P w= .ok (.enter g (vs++c.args.map a.eval)) w:=by
        rw[Oper.semAt_eq _ _ _ fW];unfold execOp;simp only[ho,resolve,hc,ea];simp [Deferred.ofValue,invoke,Ov FL]
       rw[db];refine⟨λh=>(by simp [WF,Fence.wide]at h),?_⟩;have h2:=callsIn_wide (n:=n-1).2 ot;refine CallsIn.mono (F:=WF r) h2 ?_;rintro e w' ⟨v,G',x,h',rfl,x1,x2,x3,x4,x5⟩;exact⟨G',_,x1.less b6,apa b6 x2,(hs.move x1 x2 x3).put x4 o.dst,x5⟩
   split at h
   next g cU hg=>
    have hf:=c6 f;rw[hg]at hf;generalize ea:a.eval f=u at hf;cases hf with
    |fn _ vs _ hl hr=>exact call g cU vs ea hl hr h
   next q hg=>
    obtain⟨g,as,eq,h⟩:=h;have hf:=c6 f;rw[hg]at hf;generalize ea:a.eval f=u at hf;cases hf with
    |hid hq h1=>
     cases hq with
     |d _=>simp [e9.app]at eq
     |bz _ _ _ _ _ _ _=>simp [e9.app]at eq
     |dS g0 vs cs hl hr=>
      simp only[e9.app,Option.some.injEq,Prod.mk.injEq]at eq;obtain⟨rfl,rfl⟩:=eq;exact anH _ (cs.map e9.av) vs ea (by rw[aoX];exact hl) (λi u c hu hc=>by
       rw[aoZ]at hc;cases hx:cs[i]? with
       |none=>rw[hx]at hc;cases hc
       |some d=>rw[hx]at hc;cases hc;exact(hr i u d hu hx).av) h
     |fn g0 vs cs hl hr=>
      simp only[e9.app,Option.some.injEq,Prod.mk.injEq]at eq;obtain⟨rfl,rfl⟩:=eq;exact call _ (cs.map e9.av) vs ea (by rw[aoX];exact hl) (λi u c hu hc=>by
       rw[aoZ]at hc;cases hx:cs[i]? with
       |none=>rw[hx]at hc;cases hc
       |some d=>rw[hx]at hc;cases hc;exact(hr i u d hu hx).av) h
   next=>exact h.elim
  next=>exact h.elim
 next op _=>
  split at h
  next x h' p hx=>exact ajb hs b6 hx h.1 h.2
  next=>exact h.elim
theorem NJ(hs:cA G w a s){x:apJ Operand}{d:Nat}{z:Int}(h:vo (ev s) d x=some z)(h0:0<=z):BW a x d z.toNat:=by
 cases x with
 |none=>
  simp only[vo,Option.some.injEq]at h;subst h;show _=d;exact apj d
 |some y=>
  simp only[vo]at h;obtain⟨k,e⟩:=(hs.ev y).int h;exact⟨k,z,e,h0,rfl⟩
theorem lZ{α:Type}{b:Bool}{x y:α}(h:(bif b then some x else none)=some y):b=true/\x=y:=by
 cases b with
 |true=>exact⟨rfl,apb h⟩
 |false=>cases h
theorem acL{α:Type}{b:Bool}{x:apJ α}{y:α}(h:(bif b then x else none)=some y):b=true/\x=some y:=by
 cases b with
 |true=>exact⟨rfl,h⟩
 |false=>cases h
theorem YI(hs:cA G w a s)(b6:N0<=G.N)(h:He P o K s):o.wpIn (WF r) n P a w (iQ N0 G w K) Q:=by
 obtain⟨va,x,h',p,hx,hp,hK⟩:=h;have c6:=hs.ev;unfold iq at hx;split at hx
 next T y i ho=>
  split at hx
  ·next n' o' len L k z e k' i' e1 e2 e3=>
   split at hx
   ·next e4 k2 cs hn=>
    obtain⟨hb,he⟩:=lZ hx;cases he
    rw[aoU,beq_iff_eq,beq_iff_eq]at hb;obtain⟨rfl,rfl⟩:=hb;obtain⟨hL,h0,aH,rfl⟩:=hp;obtain⟨eJ,fF⟩:=jO e3;obtain⟨kz,ez⟩:=(c6 i).int e2;have hv:=c6 y;rw[e1]at hv;have lW:=hv.pe hs.inv hn hL;obtain⟨Ae,⟨A,c,q1,q2,q3,q4,q5⟩,_⟩:=lW;obtain⟨g,cap,s1,rfl,s3⟩:=q5 (by omega);have wN:z<(len:Int):=aH;refine fe (by rw[ho];simp) hs b6 (v:= .pointer (some ⟨g,o'*k2+z.toNat*k2,none⟩)) ?_ (.di n' (o'+z.toNat) 0 L k2 (hs.inv.lt hn) ⟨_,_,rfl⟩ (by rw[(hs.inv.cu n' _ hn).1,hL];exact ao3 _) λ_=>⟨by omega,g,cap,s1,?_⟩) hK
    ·unfold execOp;simp [ho,q1,ez,Instr.indexAt,asIntOf,run_underlying eJ,h0,wN,mB fF,kZ]
    ·rw[Nat.add_mul];rfl
   ·cases hx
  ·cases hx
 next T y f ho=>
  split at hx
  ·next n' i j L k fo q g e1 hT=>
   cases hx
   have hv:=c6 y;rw[e1]at hv;generalize ea:a.eval y=u at hv;cases hv with
   |di _ _ _ _ _ py RN hL hf=>
    obtain⟨pb,pq,rfl⟩:=RN;refine fe (by rw[ho];simp) hs b6 (v:= .pointer (some ⟨pb,pq+fo,none⟩)) (by unfold execOp;simp [ho,ea,Pp hT]) (.di n' i (j+fo) L k py ⟨_,_,rfl⟩ hL λe=> ?_) hK;obtain⟨a1,g2,cap,a2,a3⟩:=hf e;refine⟨a1,g2,cap,a2,?_⟩;injection a3 with a3;injection a3 with a3;injection a3 with a4 a5;subst a4;subst a5;rw[Nat.add_assoc]
  ·cases hx
 next y ho=>
  split at hx
  ·next n' i j L k e1=>
   cases hx
   have hv:=c6 y;rw[e1]at hv;have Mw:=hv;generalize ea:a.eval y=u at hv Mw;cases hv with
   |di _ _ _ _ _ py RN hL hf=>
    obtain⟨pb,pq,rfl⟩:=RN;exact fe (by rw[ho];simp) hs b6 (by unfold execOp;simp [ho,ea]) Mw hK
  ·cases hx
 next t y ho=>
  split at hx
  ·next n' i j L k c e1=>
   split at hx
   ·next e k' cs z hn hz=>
    obtain⟨hb,he⟩:=lZ hx;cases he
    rw[beq_iff_eq]at hb;subst hb;have hv:=c6 y;rw[e1]at hv;obtain⟨u,r1,r2⟩:=ahH hs.inv hn hp.1 hp.2 hz hv;exact fe (by rw[ho];simp) hs b6 (by unfold execOp;simp [ho,r1]) r2 hK
   ·cases hx
  ·cases hx
 next t y z ho=>
  split at hx
  ·next n' i j L k c bJ e1=>
   split at hx
   ·next e k' cs q hn hq=>
    obtain⟨hb,he⟩:=lZ hx;cases he
    simp only[aoU,beq_iff_eq,dI]at hb;obtain⟨⟨⟨⟨rfl,rfl⟩,Qg⟩,hj⟩,gL⟩:=hb;obtain⟨hL,hc,rfl⟩:=hp;have hv:=c6 y;rw[e1]at hv;obtain⟨w',G',r1,r2,r3,r4⟩:=am3 hs.inv hn hL hc hv (c6 z) Qg hq hj gL;exact Ny (by rw[ho];simp) hs b6 (by unfold execOp;simp [ho,r1]) r2 r3 r4 hK
   ·cases hx
  ·cases hx
 next T y lo hi ho=>
  split at hx
  ·next n' o' len L k e k' oo ll e1 hT=>
   split at hx
   ·next l u hl hu=>
    split at hx
    ·next e4 k2 cs hn=>
     obtain⟨hb,he⟩:=lZ hx;cases he
     rw[aoU,beq_iff_eq,beq_iff_eq]at hb;obtain⟨rfl,rfl⟩:=hb;obtain⟨hL,h0,hlu,huL,rfl,rfl⟩:=hp;obtain⟨eJ,fF⟩:=jO hT;have hv:=c6 y;rw[e1]at hv;have lW:=hv.pe hs.inv hn hL;obtain⟨Ae,⟨A,c,q1,q2,q3,q4,q5⟩,_⟩:=lW;have hb:=CK (P:=P) (Bu:=true) (NJ hs hl h0) (NJ hs hu (by omega)) (by omega) (show u.toNat<=c by omega) w;refine fe (by rw[ho];simp) hs b6 (v:= .slice (if c=l.toNat then A else A.map (·.add (l.toNat*k2))) (u.toNat-l.toNat) (c-l.toNat)) ?_ (.vec n' (o'+l.toNat) (u.toNat-l.toNat) L k2 (hs.inv.lt hn) ⟨_,_,_,rfl⟩ (by rw[(hs.inv.cu n' _ hn).1,hL];exact ao3 _) λ_=>⟨by omega,⟨_,_,rfl,by omega,by omega,by omega,λho2=> ?_⟩,λh1 h2=> ?_⟩) hK
     ·unfold execOp;simp [ho,q1,Instr.sliceAt,Instr.slice,run_underlying eJ,hb,mB fF]
     ·obtain⟨g,cap,s1,rfl,s3⟩:=q5 (by omega);refine⟨g,cap,s1,?_,by omega⟩;rw[if_neg (by omega)];simp [kZ,Nat.add_mul]
     ·have ho0:o'=0:=by omega
      have xa:l.toNat=0:=by omega
      subst ho0;rw[xa];rw[xa]at h2;simp only[Nat.sub_zero]at h2 ⊢;by_cases xH:L=0
      ·subst xH;have:len=0:=by omega
       subst this
       rename_i eK
       rw[<-eK rfl rfl,q1,h2];split
       ·rfl
       ·cases A<;>simp [Addr.add]
      ·obtain⟨g,cap,s1,rfl,s3⟩:=q5 (by omega);rw[s1,h2];have:c=cap:=by omega
       subst this;split<;>simp [kZ]
    ·cases hx
   ·cases hx
  ·cases hx
 next T l c ho=>
  split at hx
  ·next e k z1 z2 cs len m hT e1 e2=>
   split at hx
   ·next z cX hz ql=>
    obtain⟨hb,he⟩:=lZ hx;cases he
    simp only[aoU,beq_iff_eq,dI]at hb;obtain⟨⟨gL,jZ⟩,_⟩:=hb;obtain⟨h0,kW,hl,hc,rfl,hm,nt⟩:=hp;obtain⟨eJ,fF⟩:=jO hT;obtain⟨inf,i1,i2,i3⟩:=PA fF ql;have GI:inf.zero=some z:=by
     obtain⟨i',j1,j2⟩:=KI hz;rw[i1]at j1;cases j1;exact j2
    obtain⟨k1,ez1⟩:=(c6 l).int e1;obtain⟨k2,ez2⟩:=(c6 c).int e2;obtain⟨u,w',G',r1,r2,r3,r4,r5⟩:=afR (kl:=k1) (kc:=k2) hs.inv eJ i1 GI i2 i3 jZ gL h0 kW hl hc hm nt;exact mA (by rw[ho];simp) hs b6 (by unfold execOp;simp [ho,ez1,ez2,r1]) r2 r3 r4 r5 hK
   ·cases hx
  ·cases hx
 next c ho=>
  have fW:∀c,o.op≠ .defer c:=by rw[ho];simp
  split at hx
  next hc=>
   split at hx
   ·next y T h1 h2=>
    split at hx
    ·next n' oo len L k e1=>
     split at hx
     ·next e4 k2 cs hn=>
      obtain⟨hb,he⟩:=lZ hx;cases he
      rw[aoU,beq_iff_eq]at hb;obtain⟨hT,rfl⟩:=hb;obtain⟨⟨e,q⟩,hT⟩:=Option.isSome_iff_exists.1 hT;have hv:=c6 y;rw[e1]at hv;have lW:=hv.pe hs.inv hn hp;obtain⟨Ae,⟨A,cc,q1,q2,q3,q4,q5⟩,_⟩:=lW;exact fe fW hs b6 (v:= .int .i64 len) (by rw[Vy c hc h1 h2 ho,q1];simp [Builtin.len_,run_underlying (jO hT).1,goInt]) (.d (.v _)) hK
     ·cases hx
    ·cases hx
   ·cases hx
  next hc=>
   split at hx
   ·next y z T U h1 h2=>
    split at hx
    ·next e k pU bJ ys L' gF hT hU=>
     split at hx
     ·next z0 cX hz ql=>
      obtain⟨hb,hx⟩:=acL hx;rw[aoU,beq_iff_eq,dI]at hb;obtain⟨gL,jZ⟩:=hb;obtain⟨eJ,fF⟩:=jO hT;obtain⟨inf,i1,i2,i3⟩:=PA fF ql;have GI:inf.zero=some z0:=by
       obtain⟨i',j1,j2⟩:=KI hz;rw[i1]at j1;cases j1;exact j2
      have jF:z0.cells.size=k:=by rw[<-apq];exact jZ
      obtain⟨eU,kU⟩:=pU;split at hx
      ·next n' oo len L k1 e1=>
       split at hx
       ·next e4 k2 cs hn=>
        obtain⟨hb,he⟩:=lZ hx;cases he
        simp only[aoU,beq_iff_eq]at hb;obtain⟨⟨rfl,rfl⟩,rfl⟩:=hb;obtain⟨hL,qL,rfl,rU⟩:=hp;obtain⟨us,hr,Cv⟩:=Og (tx:=U) hs.inv (c6 z) qL gL (jO hU).1;have hv:=c6 y;rw[e1]at hv;obtain⟨u,w',G',r1,r2,r3,r4,r5⟩:=abr (ty:=o.type) hs.inv eJ i1 GI i2 i3 jF gL hn hL hv hr Cv rU;exact mA fW hs b6 (by rw[E8 c hc h1 h2 ho,r1];rfl) r2 r3 r4 r5 hK
       ·cases hx
      ·next e1=>
       cases hx
       obtain⟨qL,rfl,rfl,rfl,kH,oK⟩:=hp;obtain⟨us,hr,Cv⟩:=Og (tx:=U) hs.inv (c6 z) qL gL (jO hU).1;have hv:=c6 y;rw[e1]at hv;have ev:=hv.val;obtain⟨u,w',G',r1,r2,r3,r4,r5⟩:=Xj (ty:=o.type) (A:=none) hs.inv eJ i1 GI i2 i3 jF gL hr Cv kH oK;exact mA fW hs b6 (by rw[E8 c hc h1 h2 ho,ev,r1];rfl) r2 r3 r4 r5 hK
      ·next xs e1=>
       cases hx
       obtain⟨rfl,qL,rfl,rfl,rfl,kH,oK⟩:=hp;obtain⟨us,hr,Cv⟩:=Og (tx:=U) hs.inv (c6 z) qL gL (jO hU).1;have hv:=c6 y;rw[e1]at hv;obtain⟨A,eA⟩:∃A,a.eval y= .slice A 0 0:=by
        generalize a.eval y=u at hv;cases hv with|full _ _ hf=>exact hf
       obtain⟨u,w',G',r1,r2,r3,r4,r5⟩:=Xj (ty:=o.type) (A:=A) hs.inv eJ i1 GI i2 i3 jF gL hr Cv kH oK;exact mA fW hs b6 (by rw[E8 c hc h1 h2 ho,eA,r1];rfl) r2 r3 r4 r5 hK
      ·cases hx
     ·cases hx
    ·cases hx
   ·cases hx
  next=>cases hx
 next=>cases hx
theorem aiK(hs:cA G w a s)(b6:N0<=G.N)(h:Gf P o K s):o.wpIn (WF r) n P a w (iQ N0 G w K) Q:=by
 have c6:=hs.ev;unfold Gf at h;split at h
 ·next op T x y U ho=>
  split at h
  ·next xs pT v1 v2 hx hy hT h1 h2=>
   obtain⟨e,k⟩:=pT;have eJ:=(jO hT).1;have hv:=c6 y;rw[hy]at hv;have ey:=hv.val;obtain⟨A,b,oo,c,k',u,ex,hA,_,_,_,_,_⟩:=((c6 x).list hx).pP;have hg:(eqGuard op T x y (a.eval x) (a.eval y)).run P w= .ok () w:=by rw[ex,ey];unfold eqGuard;cases op<;>simp
   have db:(binOp op T (a.eval x) (a.eval y)).run P w= .ok (if A.isNone then v1 else v2) w:=by
    rw[ex,ey];have hq:=run_equal_slice_nil (P:=P) (w:=w) T e A xs.length c eJ;cases op<;>simp [xy]at h1 h2<;>subst h1<;>subst h2<;>simp [binOp,hq]<;>cases A<;>rfl
   have hex:(execOp a.eval o).run P w= .ok (.value (if A.isNone then v1 else v2)) w:=by
    unfold execOp;simp only[ho];rw[Sem.run_bind,Sem.run_bind,hg];simp only[Result.andThen_ok];rw[db];rfl
   cases A with
   |none=>
    have lJ:xs=[]:=Classical.byContradiction λcp=>by have:=hA cp;cases this
    exact fe (by rw[ho];simp) hs b6 hex (.d (.v _)) (h.1 lJ)
   |some ad=>exact fe (by rw[ho];simp) hs b6 hex (.d (.v _)) h.2
  ·exact h.elim
 ·exact h.elim
theorem PE(hs:cA G w a s)(b6:N0<=G.N)(h:ahF P o K s):o.wpIn (WF r) n P a w (iQ N0 G w K) Q:=by
 rcases h with h|h|h
 ·exact YI hs b6 h
 ·exact aiK hs b6 h
 ·exact U5 hs b6 h
end
end Go.Proofs.YtmkmibahjanejaaGreatDoor
