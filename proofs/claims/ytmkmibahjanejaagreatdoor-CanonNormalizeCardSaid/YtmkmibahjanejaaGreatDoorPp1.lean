/-
  Part 1 of the proof: AbsGlob, AbsCore, AbsOps, AbsHeap, AbsStore, AbsApp, AbsOp, AbsOp2, AbsOp3, AbsMap, AbsVec, AbsVec2, AbsOp4, AbsLeave, AbsLoop.
-/
import Derived.WalkKit
import Derived.Laws.Strings
import Derived.Lib.Hide
import Derived.OrdersIn
import Derived.RangeFuncIn
import Derived.RangeFuncCalls
import Derived.RangeFuncLeaves
import Derived.RangeFuncFrom
import Derived.Deep.MidRow
import Derived.Laws.AppendOwn
import Derived.Maps.OwnOps
import Derived.KernelRfl
import Derived.Deep.AppendSrc
import Derived.Deep.Upon
import Derived.Laws.BytesString
import Derived.Laws.StructEq
import Derived.Laws.MakeOwn
import Derived.Laws.Cover3
namespace Go.Proofs.YtmkmibahjanejaaGreatDoor
open Go.RowKit
abbrev afU:=@Option.bind_some
abbrev afV:=@List.getElem?_eq_some_iff
abbrev afW:=@List.length_append
abbrev afX:=@Bool.and_eq_true
abbrev afY:=@List.length_cons
abbrev afZ:=@List.getElem?_eq_getElem
abbrev af0:=@List.length_map
abbrev af1:=@List.mem_cons_self
abbrev af2:=@List.getElem?_map
abbrev af3:=@Nat.le_of_ble_eq_true
abbrev af4:=@List.mem_cons_of_mem
abbrev af5:=@List.getElem?_append_left
abbrev af6:=@Nat.le_refl
abbrev af7:=@List.length_nil
abbrev af8:=@List.mem_of_getElem?
abbrev af9:=@Nat.eq_of_beq_eq_true
abbrev aga:=@Array.getElem?_eq_some_iff
abbrev agb:=@List.getElem?_append_right
abbrev agc:=@List.append_assoc
abbrev agd:=@Nat.le_trans
abbrev age:=@Option.some.inj
abbrev agf:=@Nat.zero_add
abbrev agh:=@List.append_nil
abbrev agi:=@Array.getElem?_eq_getElem
abbrev agj:=@Array.getElem?_toList
abbrev agk:=@Nat.lt_of_lt_of_le
abbrev agl:=@List.map_cons
abbrev agm:=@List.all_eq_true
abbrev agn:=@Int.toNat_natCast
abbrev ago:=@Nat.not_lt_zero
abbrev agp:=@List.getElem?_set_self
abbrev agq:=@List.mem_cons
abbrev agr:=@List.map_congr_left
abbrev ags:=@List.getElem?_eq_none
abbrev agt:=@Array.length_toList
abbrev agu:=@List.getElem?_set_ne
abbrev agv:=@List.drop_zero
abbrev agw:=@List.length_replicate
abbrev agx:=@List.getElem?_cons_succ
abbrev agy:=@List.mem_append
abbrev agz:=@List.take_append_drop
abbrev agA:=@Nat.lt_irrefl
abbrev agB:=@Nat.le_add_right
abbrev agC:=@List.not_mem_nil
abbrev agD:=@decide_eq_true
abbrev agE:=@decide_eq_false
abbrev agF:=@beq_self_eq_true
abbrev agG:=@List.all_cons
abbrev agH:=@List.any_cons
abbrev agI:=@Nat.lt_succ_self
abbrev agJ:=@Bool.or_eq_false_iff
abbrev agK:Type->Type:=List
abbrev agL:=ByteArray
abbrev agM:Type->Type:=Option
abbrev agN:=Program
abbrev agO:=Value
abbrev agP:=World
def bL(a:agL):agK UInt8:=a.data.toList
theorem Hd(a:agL):a.toList=bL a:=ByteArray.toList_eq a
theorem nN{a b:agL}(h:bL a=bL b):a=b:=by cases a;cases b;simp only[bL,Array.toList_inj]at h;rw[h]
def mm(l:agK Nat):agK agO:=l.map λn=>Value.int .u8 (Int.ofNat n)
def CY(l:agK Nat):agK agO:=l.map λn=>Value.int .u64 (Int.ofNat n)
def xk:agK Nat:=(List.range 256).map λn=>bif (Nat.ble 9 n&&Nat.ble n 13)||n==32 then 1 else 0
def O2:agK Nat:=(List.range 20).map λn=>10^n
def ML:agK Nat:=[0,1,28,2,29,14,24,3,30,22,20,15,25,17,4,8,31,27,13,23,21,19,16,7,26,12,18,6,11,5,10,9]
def QM:agK Nat:=[0,1,56,2,57,49,28,3,61,58,42,50,38,29,17,4,62,47,59,36,45,43,51,22,53,39,33,30,24,18,12,5,63,55,48,27,60,41,37,16,46,35,44,21,52,32,23,11,54,26,40,15,34,20,31,10,25,14,19,9,13,8,7,6]
def wc:agK (Nat×agK agO):=
 (1,mm xk)::
 (0,CY O2)::
 (2,mm ML)::
 (3,mm QM)::
  []
def wF:agK (Nat×agK agO)->Nat->agM (agK agO)
 |[],_=>none
 |(k,l)::r,g=>bif k==g then some l else wF r g
theorem Oa:∀{t:agK (Nat×agK agO)}{g:Nat}{l:agK agO},wF t g=some l->(g,l)∈t
 |[],g,l,h=>by cases h
 |(k,l')::r,g,l,h=>by
  unfold wF at h;cases e:k==g with
  |true=>rw[e]at h;cases h;rw[beq_iff_eq]at e;subst e;simp
  |false=>rw[e]at h;exact af4 _ (Oa h)
inductive D where
 |v (u:Value)
 |sl (xs:List (List D))
inductive fD where
 |d (x:D)
 |aY (c:List D) (off:Nat)
 |fn (f:FuncId) (cs:List fD)
inductive J where
 |d (x:D)
 |agg (cs:List J)
 |bp (cs:List J)
 |ptr (n off:Nat)
 |aY (xs:List (List D)) (i off:Nat)
 |own (n:Nat) (xs:List (List D))
 |full (xs:List (List D))
 |row (n off len cap k:Nat)
 |fn (f:FuncId) (cF:List J)
 |mp (n:Nat)
 |cm (n:Nat)
 |vec (n o len L k:Nat)
 |cz (n i j L k:Nat)
 |hid (c:fD)
 |dead
inductive LS where
 |ready
 |busy
 |done (c:Code)
def LS.st:LS->LoopState
 | .ready=> .ready
 | .busy=> .busy
 | .done _=> .done
def LS.pd:LS->agM Code
 | .done c=>some c
 |_=>none
inductive aj where
 |cells (cs:List J)
 |front (e:TypeId) (k len:Nat)
 |vec (e:TypeId) (k:Nat) (cs:List (List J))
 |map (kv:List (ByteArray×D))
 |eE (kv:List (ByteArray×D))
 |lp (ls:LS) (p:Nat) (as bd:Code) (cs:List J)
 |it (sn:Nat×List Nat) (cs:List J)
 |gone
structure Gh where
 N:Nat
 Z:Nat->Prop
 S:Nat->Nat->Prop
 aF:Nat->Nat
 sg:Nat->Value
 ow:Nat->Option Nat
 fl:Nat->Nat
 M:Nat
inductive cx(S:Nat->Nat->Prop)(w:World):Value->D->Prop
 |v (u:Value):cx S w u (.v u)
 |sl (A:Option Addr) (b o c k:Nat) (xs:List (List D)) (u:Nat->Nat->Value)
    (hA:xs≠ []->A=some ⟨b,o,none⟩) (hc:xs.length<=c) (hm:c<=maxLen)
    (hk:∀x∈xs,x.length=k)
    (hS:∀i j,i<xs.length->j<k->S b (o+i*k+j)/\w.cell? ⟨b,o+i*k+j,none⟩=some (u i j)/\(u i j).oneCell'=true)
    (hu:∀(i j:Nat)(x:List D)(d:D),xs[i]?=some x->x[j]?=some d->cx S w (u i j) d):cx S w (.slice A xs.length c) (.sl xs)
inductive mX(S:Nat->Nat->Prop)(w:World):Value->fD->Prop
 |d {u:Value} {x:D} (h:cx S w u x):mX S w u (.d x)
 |aY (c:List D) (off b o:Nat) (u:Nat->Value) (hS:∀j,j<c.length->S b (o+j)/\w.cell? ⟨b,o+j,none⟩=some (u j)) (hu:∀(j:Nat)(d:D),c[j]?=some d->cx S w (u j) d):mX S w (.pointer (some ⟨b,o+off,none⟩)) (.aY c off)
 |fn (f:FuncId) (vs:Array Value) (cs:List fD) (hl:vs.size=cs.length) (h:∀(i:Nat)(u:Value)(c:fD),vs[i]?=some u->cs[i]?=some c->mX S w u c):mX S w (.func (.func f) #[] vs) (.fn f cs)
structure O0(s u:Value)(o len L k:Nat):Prop where
 ol:o+len<=L
 sl:∃A c,u= .slice A len c/\len<=c/\c<=maxLen/\L<=c+o/\(o<L->∃g cap,s= .slice (some ⟨g,0,none⟩) L cap/\A=some ⟨g,o*k,none⟩/\o+c=cap)
 all:o=0->len=L->u=s
structure Od(s u:Value)(i j L k:Nat):Prop where
 il:i<L
 pt:∃g cap,s= .slice (some ⟨g,0,none⟩) L cap/\u= .pointer (some ⟨g,i*k+j,none⟩)
inductive ax(G:Gh)(w:World):Value->J->Prop
 |d {u:Value} {x:D} (h:cx G.S w u x):ax G w u (.d x)
 |agg (vs:Array Value) (cs:List J) (hl:vs.size=cs.length) (h:∀(i:Nat)(u:Value)(c:J),vs[i]?=some u->cs[i]?=some c->ax G w u c):ax G w (.agg vs) (.agg cs)
 |bp (vs:Array Value) (cs:List J) (hl:vs.size=cs.length) (h:∀(i:Nat)(u:Value)(c:J),vs[i]?=some u->cs[i]?=some c->ax G w u c):ax G w (.tuple vs) (.bp cs)
 |ptr (n off:Nat) (h:n<G.N):ax G w (.pointer (some ⟨G.aF n,off,none⟩)) (.ptr n off)
 |aY (xs:List (List D)) (i off b o:Nat) (u:Nat->Value) (x:List D) (hx:xs[i]?=some x)
  (hS:∀j,j<x.length->G.S b (o+j)/\w.cell? ⟨b,o+j,none⟩=some (u j)) (hu:∀(j:Nat)(d:D),x[j]?=some d->cx G.S w (u j) d):ax G w (.pointer (some ⟨b,o+off,none⟩)) (.aY xs i off)
 |own {u:Value} (n:Nat) (xs:List (List D)) (h:n<G.N) (hp:cx G.S w u (.sl xs)) (hle:xs.length<=G.fl n) (hf:xs.length=G.fl n->u=G.sg n):ax G w u (.own n xs)
 |full {u:Value} (xs:List (List D)) (hp:cx G.S w u (.sl xs)) (hf:∃A,u= .slice A xs.length xs.length):ax G w u (.full xs)
 |row (n off len cap k:Nat) (h:n<G.N) (hl:len<=cap) (hm:cap<=maxLen):ax G w (.slice (some ⟨G.aF n,off,none⟩) len cap) (.row n off len cap k)
 |fn (f:FuncId) (vs:Array Value) (cs:List J) (hl:vs.size=cs.length) (h:∀(i:Nat)(u:Value)(c:J),vs[i]?=some u->cs[i]?=some c->ax G w u c):ax G w (.func (.func f) #[] vs) (.fn f cs)
 |mp (n:Nat) (h:n<G.N):ax G w (.map (some (G.aF n))) (.mp n)
 |cm (n:Nat) (h:n<G.N):ax G w (.func (.yield (G.aF n)) #[] #[]) (.cm n)
 |vec {u:Value} (n o len L k:Nat) (h:n<G.N) (hs:∃A l c,u= .slice A l c) (hL:L<=G.fl n) (hf:L=G.fl n->O0 (G.sg n) u o len L k):ax G w u (.vec n o len L k)
 |cz {u:Value} (n i j L k:Nat) (h:n<G.N) (hs:∃b q,u= .pointer (some ⟨b,q,none⟩)) (hL:L<=G.fl n) (hf:L=G.fl n->Od (G.sg n) u i j L k):ax G w u (.cz n i j L k)
 |hid {u:Value} {c:fD} (h:mX G.S w u c) (h1:u.oneCell'=true):ax G w u (.hid c)
 |dead (u:Value):ax G w u .dead
def dk:agK (agL×D)->agL->agM D
 |[],_=>none
 |(k,d)::l,s=>bif bL k==bL s then some d else dk l s
structure ma(S:Nat->Nat->Prop)(w:World)(es:Array MapEntry)(clock:Nat)(kv:List (ByteArray×D)):Prop where
 size:es.size<=maxLen
 stamped:MapKept.Stamped es clock
 da:∀e∈es.toList,∃s d,e.key= .string s/\dk kv s=some d/\cx S w e.val d
 all:∀s d,dk kv s=some d->∃e∈es.toList,e.key= .string s
 len:es.size<=kv.length
 born:∀(i:Nat)(e:MapEntry),es[i]?=some e->e.born=i
 wO:clock=es.size
structure rH(S:Nat->Nat->Prop)(w:World)(es:Array MapEntry)(clock:Nat)(kv:List (ByteArray×D)):Prop where
 ok:ma S w es clock kv
 ord:∀(i:Nat)(e:MapEntry),es[i]?=some e->∃p,kv[i]?=some p/\e.key= .string p.1/\cx S w e.val p.2
 all:kv.length=es.size
def aj.cS(G:Gh)(n:Nat):aj->agM Nat
 | .cells _=>some (G.aF n)
 | .front _ _ _=>G.ow n
 | .vec _ _ _=>G.ow n
 | .map _=>some (G.aF n)
 | .eE _=>some (G.aF n)
 | .lp _ _ _ _ _=>some (G.aF n)
 | .it _ _=>some (G.aF n)
 | .gone=>none
def bj(h:agK aj)(G:Gh)(n:Nat):agM Nat:=(h[n]?).bind (aj.cS G n)
theorem cJ{h:agK aj}{G:Gh}{n:Nat}{B:aj}(e:h[n]?=some B):bj h G n=B.cS G n:=by unfold bj;rw[e];rfl
theorem ss{h:agK aj}{G:Gh}{n:Nat}(e:h[n]?=none):bj h G n=none:=by unfold bj;rw[e];rfl
theorem ly{h:agK aj}{G:Gh}{n b:Nat}(e:bj h G n=some b):∃B,h[n]?=some B/\B.cS G n=some b:=by
 unfold bj at e;cases hx:h[n]? with
 |none=>rw[hx]at e;cases e
 |some B=>rw[hx]at e;exact⟨B,rfl,e⟩
def cX(G:Gh)(w:agP)(n:Nat):aj->Prop
 | .cells cs=>¬G.Z (G.aF n)/\(∀o,¬G.S (G.aF n) o)/\∃(vs:Array agO)(T:TypeId),w.heap[G.aF n]?=some (.cells vs T (0,0))/\vs.size=cs.length/\∀(i:Nat)(u:agO)(c:J),vs[i]?=some u->cs[i]?=some c->ax G w u c
 | .front e k len=>G.fl n=len/\len<=maxLen/\((G.ow n=none/\∃A,G.sg n= .slice A len len)\/
  ∃(g cap:Nat)(cur:Array agO),G.ow n=some g/\G.sg n= .slice (some ⟨g,0,none⟩) len cap/\¬G.Z g/\w.heap[g]?=some (.cells cur e (0,0))/\len<=cap/\cap<=maxLen/\cur.size=cap*k/\∀o,len*k<=o->¬G.S g o)
 | .vec e k cs=>G.fl n=cs.length/\cs.length<=maxLen/\(∀c∈cs,c.length=k)/\((G.ow n=none/\cs=[]/\∃A,G.sg n= .slice A 0 0)\/
  ∃(g cap:Nat)(cur:Array agO),G.ow n=some g/\G.sg n= .slice (some ⟨g,0,none⟩) cs.length cap/\¬G.Z g/\w.heap[g]?=some (.cells cur e (0,0))/\cs.length<=cap/\cap<=maxLen/\cur.size=cap*k/\(∀o,¬G.S g o)/\
   ∀(i j:Nat)(c:agK J)(x:J)(u:agO),cs[i]?=some c->c[j]?=some x->cur[i*k+j]?=some u->ax G w u x)
 | .map kv=>¬G.Z (G.aF n)/\(∀o,¬G.S (G.aF n) o)/\∃(es:Array MapEntry)(clock:Nat),w.heap[G.aF n]?=some (.map es clock)/\ma G.S w es clock kv
 | .eE kv=>¬G.Z (G.aF n)/\(∀o,¬G.S (G.aF n) o)/\∃(es:Array MapEntry)(clock:Nat),w.heap[G.aF n]?=some (.map es clock)/\rH G.S w es clock kv
 | .lp ls p as bd cs=>¬G.Z (G.aF n)/\(∀o,¬G.S (G.aF n) o)/\∃(fn:FuncId)(tm:Array agO)(D:Nat),w.heap[G.aF n]?=some (.loop {state:=ls.st,pending:=ls.pd,fn:=fn,tmps:=tm,params:= #[p],assign:=as,body:=bd,defers:=D})/\tm.size=cs.length/\∀(i:Nat)(u:agO)(c:J),tm[i]?=some u->cs[i]?=some c->ax G w u c
 | .it sn cs=>¬G.Z (G.aF n)/\(∀o,¬G.S (G.aF n) o)/\∃(fn:Nat)(vs:Array agO)(_:Unit),w.heap[G.aF n]?=some (.mapIter (some fn) sn.1 sn.2.toArray sn.1)/\(vs.size=cs.length/\vs= #[.map (some fn)])/\∀(i:Nat)(u:agO)(c:J),vs[i]?=some u->cs[i]?=some c->ax G w u c
 | .gone=>True
def D4(G:Gh)(w:agP):Prop:=(∀(g:Nat)(l:agK agO),(g,l)∈wc->∀(j:Nat)(v:agO),l[j]?=some v->G.S g j/\w.cell? ⟨g,j,none⟩=some v)/\G.M<=w.heap.size
structure bg(G:Gh)(w:World)(h:List aj):Prop where
 len:h.length=G.N
 z:∀b,G.Z b->b<w.heap.size
 S:∀b o,G.S b o->b<w.heap.size
 b6:∀(n:Nat)(B:aj),h[n]?=some B->cX G w n B
 inj:∀(m n b:Nat),bj h G m=some b->bj h G n=some b->m=n
 gl:D4 G w
structure a7(N:Nat)(G:Gh)(w:World)(G':Gh)(w':World):Prop where
 size:w.heap.size<=w'.heap.size
 S:∀b o,G.S b o->G'.S b o
 cell:∀b o,G.S b o->w'.cell? ⟨b,o,none⟩=w.cell? ⟨b,o,none⟩
 aF:∀n,n<N->G'.aF n=G.aF n
 fr:∀n,n<N->(G'.fl n=G.fl n/\G'.sg n=G.sg n)\/G.fl n<G'.fl n
 Z:((∀b,G.Z b->G'.Z b)/\∀b,G'.Z b->G.Z b\/w.heap.size<=b)/\G'.M=G.M
 old:∀b,G.Z b->w'.heap[b]?=w.heap[b]?
 os:w'.os=w.os
 tape:w'.tape=w.tape
 output:w'.output=w.output
 new:∀b o,G'.S b o->G.S b o\/¬G.Z b
theorem fi{Z Z':Nat->Prop}{m M M':Nat}(h:Z'=Z)(hM:M'=M:=by rfl):((∀b,Z b->Z' b)/\∀b,Z' b->Z b\/m<=b)/\M'=M:=⟨⟨λ_ k=>h▸k,λ_ k=> .inl (h▸k)⟩,hM⟩
theorem a7.refl(N:Nat)(G:Gh)(w:agP):a7 N G w G w:=
 ⟨af6 _,λ_ _ h=>h,λ_ _ _=>rfl,λ_ _=>rfl,λ_ _=> .inl ⟨rfl,rfl⟩,fi rfl,λ_ _=>rfl,rfl,rfl,rfl,λ_ _ h=> .inl h⟩
theorem a7.trans{N:Nat}{G G1 G2:Gh}{w w1 w2:agP}(h:a7 N G w G1 w1)(k:a7 N G1 w1 G2 w2):a7 N G w G2 w2:=
 ⟨agd h.size k.size,λb o hs=>k.S b o (h.S b o hs),λb o hs=>(k.cell b o (h.S b o hs)).trans (h.cell b o hs),λn hn=>(k.aF n hn).trans (h.aF n hn),
  λn hn=>by
   rcases h.fr n hn with⟨h1,h2⟩|h1<;>rcases k.fr n hn with⟨k1,k2⟩|k1
   ·exact .inl ⟨k1.trans h1,k2.trans h2⟩
   ·exact .inr (h1▸k1)
   ·exact .inr (k1▸h1)
   ·exact .inr (Nat.lt_trans h1 k1),
  ⟨⟨λb hb=>k.Z.1.1 b (h.Z.1.1 b hb),λb hb=>(k.Z.1.2 b hb).elim (h.Z.1.2 b) λhs=> .inr (agd h.size hs)⟩,k.Z.2.trans h.Z.2⟩,λb hb=>(k.old b (h.Z.1.1 b hb)).trans (h.old b hb),k.os.trans h.os,k.tape.trans h.tape,k.output.trans h.output,λb o hs=>(k.new b o hs).elim (h.new b o) (λhn=> .inr λhz=>hn (h.Z.1.1 b hz))⟩
theorem a7.less{N M:Nat}{G G':Gh}{w w':agP}(h:a7 N G w G' w')(hM:M<=N):a7 M G w G' w':=
 ⟨h.size,h.S,h.cell,λn hn=>h.aF n (agk hn hM),λn hn=>h.fr n (agk hn hM),h.Z,h.old,h.os,h.tape,h.output,h.new⟩
theorem a7.jD{N:Nat}{G G':Gh}{w w':agP}(h:a7 N G w G' w'){b:Nat}(hb:b<w.heap.size)(hz:¬G.Z b):¬G'.Z b:=λk=>(h.Z.1.2 b k).elim hz λhs=>agA _ (agk hb hs)
def n4(G:Gh)(w:agP)(ds:agK Deferred):Prop:=∃l:agK Nat,l.Nodup/\ds=l.map (λD=>{target:= .collected D,args:= #[]})/\∀D∈l,G.M<=D/\G.Z D/\w.heap[D]?=some (.deferred (some []))
theorem n4.nil(G:Gh)(w:agP):n4 G w []:=⟨[],List.nodup_nil,rfl,λ_ h=>absurd h agC⟩
theorem n4.aG{N:Nat}{G G':Gh}{w w':agP}{ds:agK Deferred}(h:n4 G w ds)(hE:a7 N G w G' w'):n4 G' w' ds:=
 let ⟨l,h1,h2,h3⟩:=h
 ⟨l,h1,h2,λD hD=>⟨hE.Z.2▸(h3 D hD).1,hE.Z.1.1 D (h3 D hD).2.1,(hE.old D (h3 D hD).2.1).trans (h3 D hD).2.2⟩⟩
theorem D4.aG{N:Nat}{G G':Gh}{w w':agP}(h:D4 G w)(hE:a7 N G w G' w'):D4 G' w':=⟨λg l hm j v hv=>
 ⟨hE.S _ _ (h.1 g l hm j v hv).1,(hE.cell _ _ (h.1 g l hm j v hv).1).trans (h.1 g l hm j v hv).2⟩,by rw[hE.Z.2];exact agd h.2 hE.size⟩
theorem cx.aG{S S':Nat->Nat->Prop}{w w':agP}(hS:∀b o,S b o->S' b o)(hc:∀b o,S b o->w'.cell? ⟨b,o,none⟩=w.cell? ⟨b,o,none⟩){u:agO}{x:D}(h:cx S w u x):cx S' w' u x:=by
 induction h with
 |v u=>exact .v u
 |sl A b o c k xs u hA fy hm hk nY _ ih=>
  exact .sl A b o c k xs u hA fy hm hk (λi j hi hj=>⟨hS _ _ (nY i j hi hj).1,(hc _ _ (nY i j hi hj).1).trans (nY i j hi hj).2.1,(nY i j hi hj).2.2⟩) ih
theorem mX.aG{S S':Nat->Nat->Prop}{w w':agP}(hS:∀b o,S b o->S' b o)(hc:∀b o,S b o->w'.cell? ⟨b,o,none⟩=w.cell? ⟨b,o,none⟩){u:agO}{x:fD}(h:mX S w u x):mX S' w' u x:=by
 induction h with
 |d h=>exact .d (h.aG hS hc)
 |aY c off b o u h1 h2=>exact .aY c off b o u (λj hj=>⟨hS _ _ (h1 j hj).1,(hc _ _ (h1 j hj).1).trans (h1 j hj).2⟩) (λj d hd=>(h2 j d hd).aG hS hc)
 |fn f vs cs hl _ ih=>exact .fn f vs cs hl ih
theorem ax.aG{G G':Gh}{w w':agP}(hE:a7 G.N G w G' w')(hN:G.N<=G'.N){u:agO}{x:J}(h:ax G w u x):ax G' w' u x:=by
 induction h with
 |d h=>exact .d (h.aG hE.S hE.cell)
 |agg vs cs hl _ ih=>exact .agg vs cs hl ih
 |bp vs cs hl _ ih=>exact .bp vs cs hl ih
 |ptr n off h=>rw[<-hE.aF n h];exact .ptr n off (agk h hN)
 |aY xs i off b o u x hx hS hu=>exact .aY xs i off b o u x hx (λj hj=>⟨hE.S _ _ (hS j hj).1,(hE.cell _ _ (hS j hj).1).trans (hS j hj).2⟩) (λj d hd=>(hu j d hd).aG hE.S hE.cell)
 |own n xs h hp hle hf=>
  refine .own n xs (agk h hN) (hp.aG hE.S hE.cell) ?_ ?_
  ·rcases hE.fr n h with⟨h1,_⟩|h1
   ·omega
   ·omega
  ·intro e;rcases hE.fr n h with⟨h1,h2⟩|h1
   ·rw[h2];exact hf (e.trans h1)
   ·omega
 |full xs hp hf=>exact .full xs (hp.aG hE.S hE.cell) hf
 |row n off len cap k h hl hm=>rw[<-hE.aF n h];exact .row n off len cap k (agk h hN) hl hm
 |fn f vs cs hl _ ih=>exact .fn f vs cs hl ih
 |mp n h=>rw[<-hE.aF n h];exact .mp n (agk h hN)
 |cm n h=>rw[<-hE.aF n h];exact .cm n (agk h hN)
 |vec n o len L k h hs hL hf=>
  refine .vec n o len L k (agk h hN) hs ?_ ?_
  ·rcases hE.fr n h with⟨h1,_⟩|h1<;>omega
  ·intro e;rcases hE.fr n h with⟨h1,h2⟩|h1
   ·rw[h2];exact hf (e.trans h1)
   ·omega
 |cz n i j L k h hs hL hf=>
  refine .cz n i j L k (agk h hN) hs ?_ ?_
  ·rcases hE.fr n h with⟨h1,_⟩|h1<;>omega
  ·intro e;rcases hE.fr n h with⟨h1,h2⟩|h1
   ·rw[h2];exact hf (e.trans h1)
   ·omega
 |hid h h1=>exact .hid (h.aG hE.S hE.cell) h1
 |dead u=>exact .dead u
structure St where
 n:Nat
 t:List (Nat×J)
 h:List aj
def aQ:agK (Nat×J)->Nat->J
 |[],_=> .dead
 |(k,x)::l,i=>bif i==k then x else aQ l i
theorem kF(k:Nat)(x:J)(l:agK (Nat×J))(i:Nat):aQ ((k,x)::l) i=if i=k then x else aQ l i:=by
 simp only[aQ,cond_eq_ite,beq_iff_eq]
def eW(b:Bool)(p:Prop):Prop:=cond b p False
theorem bf{b:Bool}{p:Prop}:eW b p↔b=true/\p:=by cases b<;>simp [eW]
def bB(a b:Nat):Bool:=a-b==0
theorem cN{a b:Nat}:bB a b=true↔a<=b:=by simp [bB];omega
def OL:IntKind->Nat
 | .i8=>0| .i16=>1| .i32=>2| .i64=>3| .u8=>4| .u16=>5| .u32=>6| .u64=>7
def uf(a b:IntKind):Bool:=OL a==OL b
theorem HZ{a b:IntKind}:uf a b=true↔a=b:=by cases a<;>cases b<;>decide
def St.put(s:St)(dst:agM Nat)(x:J):St:=
 match dst with
 |none=>s
 |some d=>bif s.n-d==0 then s else{s with t:=(d,x)::s.t}
theorem nQ{s:St}{d:Nat}(h:d<s.n)(x:J):s.put (some d) x={s with t:=(d,x)::s.t}:=by
 have:(s.n-d==0)=false:=by simp;omega
 simp only[St.put,this,cond_false]
theorem zD{s:St}{d:Nat}(h:¬d<s.n)(x:J):s.put (some d) x=s:=by
 have:(s.n-d==0)=true:=by simp;omega
 simp only[St.put,this,cond_true]
def St.wh(s:St)(h:agK aj):St:={s with h:=h}
def LA:agO->J
 | .agg vs=> .agg (vs.toList.map λu=> .d (.v u))
 | .tuple vs=> .bp (vs.toList.map λu=> .d (.v u))
 |u=> .d (.v u)
def ev(s:St):Operand->J
 | .tmp t=>aQ s.t t
 | .const v=>LA v
 | .func f=> .fn f []
 | .global g=>match wF wc g with
   |some l=> .aY [l.map .v] 0 0
   |none=> .dead
def J.iJ:J->Bool
 | .d (.v u)=>u.oneCell'
 | .d (.sl _)| .ptr .. | .aY .. | .own .. | .full _| .row .. | .fn .. | .mp _| .cm _| .hid _| .vec .. | .cz .. =>true
 | .agg _| .bp _| .dead=>false
def J.cells:J->agK J
 | .agg cs=>cs
 |x=>[x]
def J.gZ:J->Bool
 | .agg cs=>cs.all J.iJ
 |x=>x.iJ
def D.vj:D->D
 | .v (.slice none 0 0)=> .sl []
 |x=>x
def J.s4:J->agM D
 | .d x=>some x.vj
 | .own _ xs=>some (.sl xs)
 | .full xs=>some (.sl xs)
 |_=>none
def J.ep:J->agM (agK (agK D))
 | .d (.sl xs)=>some xs
 | .own _ xs=>some xs
 | .full xs=>some xs
 | .d (.v (.slice none 0 0))=>some []
 |_=>none
def J.int?:J->agM Int
 | .d (.v (.int _ n))=>some n
 |_=>none
def fD.av:fD->J
 | .d x=> .d x
 | .aY c off=> .aY [c] 0 off
 | .fn f cs=> .hid (.fn f cs)
def eD(P:agN)(t:TypeId):agM Nat:=(P.info? t).map (·.size)
def jS(P:agN)(t:TypeId):agM Bool:=(P.underlying t).map fun| .struct _=>true| .array .. =>true|_=>false
def oS(P:agN)(t:TypeId)(i:Nat):agM (Nat×Nat×Bool):=
 match P.underlying t with
 |some (.struct fs)=>match fs[i]? with
  |some f=>match eD P f.type,jS P f.type with
   |some (k+1),some g=>some (f.offset,k+1,g)
   |_,_=>none
  |none=>none
 |_=>none
def dn(P:agN)(t:TypeId):agM (TypeId×Nat):=
 match P.underlying t with
 |some (.slice e)=>(eD P e).map λk=>(e,k)
 |_=>none
def rj(P:agN)(t:TypeId):agM (Nat×TypeId×Nat):=
 match P.underlying t with
 |some (.array n e)=>(eD P e).map λk=>(n,e,k)
 |_=>none
def fu(P:agN)(t:TypeId):Bool:=match P.underlying t with|some .string=>true|_=>false
def vT(P:agN)(t:TypeId):Bool:=match P.underlying t with|some .bool=>true|_=>false
def np(P:agN)(t:TypeId):agM IntKind:=match P.underlying t with|some (.int k)=>some k|_=>none
def yk(P:agN)(t:TypeId):Bool:=match P.underlying t with|some (.int .u8)=>true|_=>false
def gi(P:agN)(t:TypeId):agM agO:=(P.info? t).bind (·.zero)
def nV(P:agN)(t:TypeId):agM Nat:=(P.info? t).map (·.bytes)
def IP(op:BinOp)(k:IntKind)(a b:Int):agM agO:=
 match op with
 | .add=>some (.int k (k.wrap (a+b)))
 | .sub=>some (.int k (k.wrap (a-b)))
 | .mul=>some (.int k (k.wrap (a*b)))
 | .eql=>some (.bool (a==b))
 | .neq=>some (.bool (a !=b))
 | .lss=>some (.bool (a<b))
 | .leq=>some (.bool (a<=b))
 | .gtr=>some (.bool (a>b))
 | .geq=>some (.bool (a>=b))
 | .and=>some (.int k (k.wrap (BitVec.ofInt k.bits a&&&BitVec.ofInt k.bits b).toNat))
 | .or=>some (.int k (k.wrap (BitVec.ofInt k.bits a|||BitVec.ofInt k.bits b).toNat))
 | .xor=>some (.int k (k.wrap (BitVec.ofInt k.bits a^^^BitVec.ofInt k.bits b).toNat))
 | .andNot=>some (.int k (k.wrap (BitVec.ofInt k.bits a&&& ~~~BitVec.ofInt k.bits b).toNat))
 |_=>none
def IK(op:BinOp)(a b:agL):agM agO:=
 match op with
 | .eql=>some (.bool (bL a==bL b))
 | .neq=>some (.bool (!(bL a==bL b)))
 | .lss=>some (.bool (Op.bytesLess (bL a) (bL b)))
 | .leq=>some (.bool (Op.bytesLess (bL a) (bL b)||bL a==bL b))
 | .gtr=>some (.bool (!(Op.bytesLess (bL a) (bL b)||bL a==bL b)))
 | .geq=>some (.bool (!Op.bytesLess (bL a) (bL b)))
 |_=>none
def Jt(op:BinOp)(a b:Bool):agM agO:=
 match op with
 | .eql=>some (.bool (a==b))
 | .neq=>some (.bool (!(a==b)))
 |_=>none
def GH(op:BinOp)(k:IntKind)(a b:Int):agM agO:=
 match op with
 | .quo=>some (.int k (k.wrap (a.tdiv b)))
 | .rem=>some (.int k (a.tmod b))
 |_=>none
def KM(op:BinOp)(k:IntKind)(a b:Int):agM agO:=
 match op with
 | .shl=>some (.int k (k.wrap (a*2^(min b.toNat k.bits))))
 | .shr=>some (.int k (a.fdiv (2^(min b.toNat k.bits))))
 |_=>none
def Eu(op:UnOp)(x:agO):agM agO:=
 match op,x with
 | .not, .bool b=>some (.bool (!b))
 | .neg, .int k n=>some (.int k (k.wrap (0-n)))
 | .xor, .int k n=>some (.int k (k.wrap (BitVec.ofInt k.bits (if k.signed then-1 else k.max)^^^BitVec.ofInt k.bits n).toNat))
 |_,_=>none
def gM(cs:agK J)(off:Nat)(ys:agK J):agK J:=cs.take off++ys++cs.drop (off+ys.length)
def lC(k:Nat):Nat->agK D->agK (agK D)
 |0,_=>[]
 |n+1,l=>l.take k::lC k n (l.drop k)
def mD(places:agK (Nat×Nat)):agK J->agK (Nat×J)->agM (agK J)
 |cs,[]=>some cs
 |cs,(i,x)::r=>
  match places[i]? with
  |some (off,k)=>bif x.cells.length==k&&bB (off+k) cs.length then mD places (gM cs off x.cells) r else none
  |none=>none
def lv:agK J->agM (agK D)
 |[]=>some []
 |x::r=>match x.s4,lv r with
  |some d,some l=>some (d::l)
  |_,_=>none
def AY(P:agN)(fs:agK Field):agM (agK (Nat×Nat)):=fs.mapM λf=>(eD P f.type).map λk=>(f.offset,k)
def Dj(P:agN)(f:FuncId):Bool:=
 match P.funcs[f]? with
 |some fn=>fn.body.isSome&& !(fn.name== "runtime.NumGoroutine")
 |none=>false
def b5(P:agN)(f:FuncId)(args:agK J)(h:agK aj)(K:J->agK aj->Prop):Prop:=
 Dj P f=true/\∀(G:Gh)(w:agP)(vs:Array agO),bg G w h->vs.size=args.length->(∀(i:Nat)(u:agO)(c:J),vs[i]?=some u->args[i]?=some c->ax G w u c)->
  Calls P f vs w λe w'=>∃v G' r h',e= .returned v/\a7 G.N G w G' w'/\G.N<=G'.N/\bg G' w' h'/\ax G' w' v r/\K r h'
theorem b5.mono{P:agN}{f:FuncId}{args:agK J}{h:agK aj}{K K':J->agK aj->Prop}(hc:b5 P f args h K)(hk:∀r h',K r h'->K' r h'):b5 P f args h K':=
 ⟨hc.1,λG w vs hi hl hr=>(hc.2 G w vs hi hl hr).mono λ_ _ ⟨v,G',r,h',e,x1,x2,x3,x4,x5⟩=>⟨v,G',r,h',e,x1,x2,x3,x4,hk _ _ x5⟩⟩
def oK(h:agK aj)(p:J)(K:agK J->Nat->Prop):Prop:=
 match p with
 | .ptr n off=>match h[n]? with
   |some (.cells cs)=>K cs off
   |_=>False
 | .aY xs i off=>match xs[i]? with
   |some cs=>K (cs.map .d) off
   |none=>False
 |_=>False
def lH(P:agN)(t:TypeId)(h:agK aj)(p:J)(K:J->Prop):Prop:=
 oK h p λcs off=>match jS P t,eD P t with
  |some true,some k=>eW (bB (off+k) cs.length) (K (.agg ((cs.drop off).take k)))
  |some false,some _=>match cs[off]? with
   |some c=>K c
   |none=>False
  |_,_=>False
def ua(P:agN)(t:TypeId)(h:agK aj)(p x:J)(K:agK aj->Prop):Prop:=
 match p with
 | .ptr n off=>match h[n]? with
   |some (.cells cs)=>match eD P t with
    |some k=>eW (k==x.cells.length&&x.gZ&&bB (off+x.cells.length) cs.length) (K (h.set n (.cells (gM cs off x.cells))))
    |none=>False
   |_=>False
 |_=>False
def pN(P:agN)(T:TypeId)(x i:J)(K:J->Prop):Prop:=
 match dn P T with
 |some (_,k)=>
  match x with
  | .row n off len _ k'=>match i.int? with
    |some z=>eW (k'==k) (0<=z/\z<len/\K (.ptr n (off+z.toNat*k)))
    |none=>False
  |_=>match x.ep,i.int? with
   |some xs,some z=>0<=z/\(match xs[z.toNat]? with|some c=>c.length=k/\K (.aY [c] 0 0)|none=>False)
   |_,_=>False
 |none=>match rj P T,x,i.int? with
  |some (n,_,k), .ptr b off,some z=>0<=z/\z<n/\K (.ptr b (off+z.toNat*k))
  |some (n,_,k), .aY xs i off,some z=>eW (k==1) (0<=z/\z<n/\(match xs[i]? with|some c=>(match c[off+z.toNat]? with|some d=>K (.aY [[d]] 0 0)|none=>False)|none=>False))
  |_,_,_=>False
def od(P:agN)(T:TypeId)(x:J)(K:Nat->Prop):Prop:=
 match x with
 | .d (.v (.string s))=>eW (fu P T) (K s.size)
 | .row _ _ len _ _=>eW (dn P T).isSome (K len)
 |x=>match x.ep with
  |some xs=>eW (dn P T).isSome (K xs.length)
  |none=>False
def optInt(ρ:Operand->J)(x:agM Operand)(Vd:Nat)(K:Nat->Prop):Prop:=
 match x with
 |none=>K Vd
 |some y=>match (ρ y).int? with
  |some z=>0<=z/\K z.toNat
  |none=>False
def q6(P:agN)(T:TypeId)(ρ:Operand->J)(x:J)(lo hi mx:agM Operand)(K:J->Prop):Prop:=
 match mx with
 |none=>
  match x with
  | .d (.v (.string b))=>eW (fu P T) (optInt ρ hi b.size λh=>h<=b.size/\optInt ρ lo 0 λl=>l<=h/\K (.d (.v (.string (b.extract l h)))))
  | .ptr n off=>match rj P T with
    |some (m,_,k)=>eW (bB m 4096) (optInt ρ hi m λh=>eW (bB h m) (optInt ρ lo 0 λl=>eW (bB l h&& !bB m l) (K (.row n (off+l*k) (h-l) (m-l) k))))
    |none=>False
  |x=>match x.ep,dn P T with
   |some xs,some (_,k)=>(∀c∈xs,c.length=k)/\optInt ρ hi xs.length λh=>h<=xs.length/\optInt ρ lo 0 λl=>l<=h/\K (.d (.sl ((xs.take h).drop l)))
   |_,_=>False
 |some m=>match lo,hi with
  |none,some y=>match x.ep,dn P T with
   |some xs,some (_,k)=>(∀c∈xs,c.length=k)/\optInt ρ (some m) 0 λc=>c<=xs.length/\optInt ρ (some y) 0 λh=>h=c/\K (.full (xs.take h))
   |_,_=>False
  |_,_=>False
def qL(h:agK aj)(k:Nat)(x:J)(K:agK (agK D)->Prop):Prop:=
 match x with
 | .row n off len _ k'=>match h[n]? with
   |some (.cells cs)=>match lv ((cs.drop off).take (len*k))with
    |some ds=>eW (k'==k&&bB (off+len*k) cs.length&&((cs.drop off).take (len*k)).all J.iJ) (K (lC k len ds))
    |none=>False
   |_=>False
 |x=>match x.ep with
  |some ys=>(∀c∈ys,c.length=k)/\K ys
  |none=>False
def sb(P:agN)(T:TypeId)(h:agK aj)(x y:J)(K:J->agK aj->Prop):Prop:=
 match dn P T with
 |some (e,k)=>match gi P e,nV P e with
  |some z,some cq=>eW (bB 1 k&&z.cells.toList.length==k)<|qL h k y λys=>
   match x with
   | .own n xs=>match h[n]? with
     |some (.front e' k' len)=>eW (e'==e&&k'==k)<|len=xs.length/\(∀c∈xs,c.length=k)/\xs.length+ys.length<=maxLen/\(xs.length+ys.length)*cq<=140737488355328/\K (.own n (xs++ys)) (h.set n (.front e k (xs.length+ys.length)))
     |_=>False
   | .d (.v (.slice none 0 0))=>ys.length<=maxLen/\ys.length*cq<=140737488355328/\K (.own h.length ys) (h++[.front e k ys.length])
   | .full xs=>(∀c∈xs,c.length=k)/\xs.length+ys.length<=maxLen/\(xs.length+ys.length)*cq<=140737488355328/\K (.own h.length (xs++ys)) (h++[.front e k (xs.length+ys.length)])
   |_=>False
  |_,_=>False
 |none=>False
def Jq(P:agN)(T:TypeId):agM (agK (Nat×Nat)):=
 match P.underlying T with
 |some (.struct fs)=>AY P fs.toList
 |_=>none
def ur(P:agN)(T:TypeId)(ps:agK (Nat×J))(K:J->Prop):Prop:=
 match Jq P T,gi P T with
 |some places,some z=>match mD places (z.cells.toList.map λu=> .d (.v u)) ps with
  |some cs=>eW ((ps.all λp=>p.2.gZ)&&z.cells.toList.all Value.oneCell') (K (.agg cs))
  |none=>False
 |_,_=>False
def rO(k:Nat):Nat->Nat->agK (Nat×Nat)
 |_,0=>[]
 |o,n+1=>(o,k)::rO k (o+k) n
def oM:Nat->agK J->agK J
 |0,_=>[]
 |n+1,l=>l++oM n l
def sE(P:agN)(T:TypeId)(len:Nat)(ps:agK (Nat×J))(K:J->Prop):Prop:=
 match dn P T with
 |some (e,k)=>match gi P e with
  |some z=>match mD (rO k 0 len) (oM len (z.cells.toList.map λu=> .d (.v u))) ps with
   |some cs=>match lv cs with
    |some ds=>eW (bB 1 k&&bB (len*k) 16777216&&z.cells.toList.length==k&&z.cells.toList.all Value.oneCell'&&(ps.all λp=>p.2.gZ)) (K (.full (lC k len ds)))
    |none=>False
   |none=>False
  |none=>False
 |none=>False
def AR(P:agN)(t:TypeId)(x y:J):agM Bool:=
 match x,y with
 | .d (.v (.int k a)), .d (.v (.int k' b))=>bif uf k k'&&(np P t).isSome then some (a==b)else none
 | .d (.v (.string a)), .d (.v (.string b))=>bif fu P t then some (bL a==bL b)else none
 | .d (.v (.bool a)), .d (.v (.bool b))=>bif vT P t then some (a==b)else none
 |_,_=>none
def wG(P:agN)(sub:TypeId->agK J->agK J->agM Bool):agK Field->agK J->agK J->agM Bool
 |[],_,_=>some true
 |f::fs,xs,ys=>bif f.name== "_" then none else
  match jS P f.type with
  |some false=>match xs[f.offset]?,ys[f.offset]? with
   |some x,some y=>match AR P f.type x y,wG P sub fs xs ys with
    |some a,some b=>some (a&&b)
    |_,_=>none
   |_,_=>none
  |some true=>match eD P f.type with
   |some k=>bif bB (f.offset+k) xs.length&&bB (f.offset+k) ys.length then match sub f.type ((xs.drop f.offset).take k) ((ys.drop f.offset).take k),wG P sub fs xs ys with
    |some a,some b=>some (a&&b)
    |_,_=>none
    else none
   |none=>none
  |none=>none
def EK(P:agN):Nat->TypeId->agK J->agK J->agM Bool
 |0=>λ_ _ _=>none
 |d+1=>λT xs ys=>match P.underlying T with
  |some (.struct fs)=>bif P.stoodInHeld T then none else wG P (EK P d) fs.toList xs ys
  |_=>none
def EV(P:agN)(T:TypeId)(xs ys:agK J):agM Bool:=
 match P.underlying T with
 |some (.struct fs)=>bif P.stoodInHeld T||P.eqGuardType P.depth T then none else wG P (EK P 4) fs.toList xs ys
 |_=>none
def uw(op:BinOp)(b:Bool):agM agO:=
 match op with
 | .eql=>some (.bool b)
 | .neq=>some (.bool (!b))
 |_=>none
def tv(P:agN)(T:TypeId)(op:BinOp)(x y:J)(K:J->Prop):Prop:=
 match x,y with
 | .d (.v (.int k a)), .d (.v (.int k' b))=>
   match GH op k a b with
   |some v=>eW (uf k k') (b≠0/\K (.d (.v v)))
   |none=>match KM op k a b with
    |some v=>0<=b/\K (.d (.v v))
    |none=>match IP op k a b with
     |some v=>eW (uf k k') (K (.d (.v v)))
     |none=>False
 | .d (.v (.string a)), .d (.v (.string b))=>match IK op a b with
   |some v=>K (.d (.v v))
   |none=>match op with
    | .add=>a.size+b.size<=maxLen/\K (.d (.v (.string (a++b))))
    |_=>False
 | .d (.v (.bool a)), .d (.v (.bool b))=>match Jt op a b with
   |some v=>eW (vT P T) (K (.d (.v v)))
   |none=>False
 | .agg xs, .agg ys=>match EV P T xs ys with
   |some b=>match uw op b with
    |some v=>K (.d (.v v))
    |none=>False
   |none=>False
 |_,_=>False
def tC(op:UnOp)(x:J)(K:J->Prop):Prop:=
 match x with
 | .d (.v u)=>match Eu op u with
   |some v=>K (.d (.v v))
   |none=>False
 |_=>False
def sW(P:agN)(src dst:TypeId)(x:J)(K:J->Prop):Prop:=
 match x with
 | .d (.v (.int _ n))=>match np P src,np P dst with
   |some _,some k=>K (.d (.v (.int k (k.wrap n))))
   |_,_=>False
 | .d (.v (.string b))=>eW (fu P src&&fu P dst) (K (.d (.v (.string b))))
 |x=>match x.ep,dn P src with
  |some xs,some (e,_)=>eW (yk P e&&fu P dst) (∃ns:agK Int,xs=ns.map (λn=>[.v (.int .u8 n)])/\K (.d (.v (.string ⟨(ns.map λn=>UInt8.ofNat n.toNat).toArray⟩))))
  |_,_=>False
def ux(P:agN)(T:TypeId)(x:J)(f:Nat)(K:J->Prop):Prop:=
 match oS P T f,x with
 |some (off,k,true), .agg cs=>eW (bB (off+k) cs.length) (K (.agg ((cs.drop off).take k)))
 |some (off,_,false), .agg cs=>match cs[off]? with
  |some c=>K c
  |none=>False
 |_,_=>False
def pA(P:agN)(T:TypeId):agM (TypeId×TypeId):=
 match P.underlying T with
 |some (.map k e)=>some (k,e)
 |_=>none
inductive Sd
 |no
 |lt (n:Nat)
def Sd.ok:Sd->Prop
 | .no=>True
 | .lt n=>n<maxLen
def rh(NL:Bool)(z:agO):agM D->J
 |some d=>bif NL then .bp [.d d, .d (.v (.bool true))]else .d d
 |none=>bif NL then .bp [.d (.v z), .d (.v (.bool false))]else .d (.v z)
def mC(P:agN)(op:Op)(ρ:Operand->J)(h:agK aj):agM (J×agK aj×Sd):=
 match op with
 | .makeMap T none=>match pA P T with
   |some _=>some (.mp h.length,h++[.map []], .no)
   |none=>none
 | .lookup T m i ok=>match pA P T with
   |some (k,e)=>match gi P e with
    |some z=>match ρ m,ρ i with
     | .mp n, .d (.v (.string s))=>match h[n]? with
       |some (.map kv)=>bif fu P k&&z.oneCell' then some (rh ok z (dk kv s),h, .no)else none
       |_=>none
     |_,_=>none
    |none=>none
   |none=>none
 | .mapUpdate T m i x=>match pA P T with
   |some (k,_)=>match ρ m,ρ i,(ρ x).s4 with
    | .mp n, .d (.v (.string s)),some d=>match h[n]? with
      |some (.map kv)=>bif fu P k then some (.d (.v undef),h.set n (.map ((s,d)::kv)), .lt kv.length)else none
      |_=>none
    |_,_,_=>none
   |none=>none
 |_=>none
inductive VA
 |no
 |el (c:List J)
 |st (c:List J) (cs:List (List J))
 |mk (cs:List (List J)) (len m:Nat)
 |ap (cs ys:List (List J)) (L len:Nat)
 |ix (i:Nat)
 |ol (o len:Nat)
def GP(P:agN)(t:TypeId)(c:agK J)(j:Nat):agM J:=
 match jS P t,eD P t with
 |some true,some k=>bif bB (j+k) c.length then some (.agg ((c.drop j).take k))else none
 |some false,some _=>c[j]?
 |_,_=>none
def bW(xs:agK (agK D)):agK (agK J):=xs.map λc=>c.map J.d
def Bi(h:agK aj)(k:Nat)(y:J)(ys:agK (agK J)):Prop:=
 (∃xs,y.ep=some xs/\(∀c∈xs,c.length=k)/\ys=bW xs)\/(∃n o len L e cs,y= .vec n o len L k/\h[n]?=some (.vec e k cs)/\cs.length=L/\ys=(cs.drop o).take len/\∀c∈ys,c.all J.iJ=true)
def rT(ρ:Operand->J)(d:Int):agM Operand->agM Int
 |none=>some d
 |some y=>(ρ y).int?
def fM(P:agN)(op:Op)(ρ:Operand->J)(h:agK aj)(a:VA):agM (J×agK aj×Prop):=
 match op with
 | .indexAddr T x i=>match ρ x,(ρ i).int?,dn P T,a with
   | .vec n o len L k,some z,some (_,k'), .ix i'=>match h[n]? with
     |some (.vec _ k2 cs)=>bif k'==k&&k2==k then some (.cz n i' 0 L k,h,cs.length=L/\0<=z/\z<len/\i'=o+z.toNat)else none
     |_=>none
   |_,_,_,_=>none
 | .fieldAddr S x f=>match ρ x,oS P S f with
   | .cz n i j L k,some (fo,_,_)=>some (.cz n i (j+fo) L k,h,True)
   |_,_=>none
 | .nilCheck x=>match ρ x with
   | .cz n i j L k=>some (.cz n i j L k,h,True)
   |_=>none
 | .load t p=>match ρ p,a with
   | .cz n i j L k, .el c=>match h[n]?,GP P t c j with
     |some (.vec _ k' cs),some x=>bif k'==k then some (x,h,cs.length=L/\cs[i]?=some c)else none
     |_,_=>none
   |_,_=>none
 | .store t p x=>match ρ p,a with
   | .cz n i j L k, .st c bC=>match h[n]?,eD P t with
     |some (.vec e k' cs),some q=>bif k'==k&&q==(ρ x).cells.length&&(ρ x).gZ&&bB (j+(ρ x).cells.length) k&&bB 1 k then some (.d (.v undef),h.set n (.vec e k bC),cs.length=L/\cs[i]?=some c/\bC=cs.set i (gM c j (ρ x).cells))else none
     |_,_=>none
   |_,_=>none
 | .slice T x lo hi none=>match ρ x,dn P T,a with
   | .vec n o len L k,some (_,k'), .ol o' fa=>match rT ρ 0 lo,rT ρ len hi with
     |some l,some u=>match h[n]? with
      |some (.vec _ k2 cs)=>bif k'==k&&k2==k then some (.vec n o' fa L k,h,cs.length=L/\0<=l/\l<=u/\u<=(L:Int)-o/\o'=o+l.toNat/\fa=u.toNat-l.toNat)else none
      |_=>none
     |_,_=>none
   |_,_,_=>none
 | .makeSlice T l c=>match dn P T,(ρ l).int?,(ρ c).int?,a with
   |some (e,k),some l,some c, .mk cs len m=>match gi P e,nV P e with
    |some z,some cq=>bif bB 1 k&&z.cells.toList.length==k&&z.cells.toList.all Value.oneCell' then some (.vec h.length 0 len m k,h++[.vec e k cs],0<=l/\l<=c/\l.toNat=len/\c.toNat=m/\cs=List.replicate m (z.cells.toList.map λu=> .d (.v u))/\m<=maxLen/\cq*m<=281474976710656)else none
    |_,_=>none
   |_,_,_,_=>none
 | .call c=>match c.callee with
   | .builtin .len=>match c.args.toList,c.argTypes.toList with
     |[x],[T]=>match ρ x with
      | .vec n _ len L k=>match h[n]? with
        |some (.vec _ k2 cs)=>bif (dn P T).isSome&&k2==k then some (.d (.v (.int .i64 len)),h,cs.length=L)else none
        |_=>none
      |_=>none
     |_,_=>none
   | .builtin .append=>match c.args.toList,c.argTypes.toList with
     |[x,y],[T,U]=>match dn P T,dn P U,a with
      |some (e,k),some _, .ap bC ys L' fa=>match gi P e,nV P e with
       |some z,some cq=>bif bB 1 k&&z.cells.toList.length==k then
        match ρ x with
        | .vec n o len L k1=>match h[n]? with
          |some (.vec e1 k2 cs)=>bif k1==k&&k2==k&&e1==e then some (.vec n o fa L' k,h.set n (.vec e k bC),cs.length=L/\Bi h k (ρ y) ys/\fa=len+ys.length/\
           ((o+len+ys.length<=L/\L'=L/\bC=cs.take (o+len)++ys++cs.drop (o+len+ys.length))\/(o=0/\len=L/\L'=L+ys.length/\bC=cs++ys/\L'<=maxLen/\L'*cq<=140737488355328)))else none
          |_=>none
        | .d (.v (.slice none 0 0))=>some (.vec h.length 0 fa L' k,h++[.vec e k bC],Bi h k (ρ y) ys/\bC=ys/\fa=ys.length/\L'=ys.length/\L'<=maxLen/\L'*cq<=140737488355328)
        | .full xs=>some (.vec h.length 0 fa L' k,h++[.vec e k bC],xs=[]/\Bi h k (ρ y) ys/\bC=ys/\fa=ys.length/\L'=ys.length/\L'<=maxLen/\L'*cq<=140737488355328)
        |_=>none
       else none
       |_,_=>none
      |_,_,_=>none
     |_,_=>none
   |_=>none
 |_=>none
def FB(mx:Bool)(k:IntKind):Int->agK J->agM (IntKind×Int)
 |a,[]=>some (k,a)
 |a, .d (.v (.int _ b))::l=>FB mx k (bif mx then(if b>a then b else a)else(if b<a then b else a)) l
 |_,_=>none
def wY(mx:Bool):agK J->agM (IntKind×Int)
 | .d (.v (.int k a))::l=>FB mx k a l
 |_=>none
def bM(P:agN)(o:Oper)(ρ:Operand->J)(h:agK aj)(C:J->agK aj->Prop):Prop:=
 match o.op with
 | .move x| .assign x=>C (ρ x) h
 | .pick c a b=>match ρ c with
   | .d (.v (.bool t))=>(t=true->C (ρ a) h)/\(t=false->C (ρ b) h)
   |_=>False
 | .alloc e=>match gi P e with
   |some z=>C (.ptr h.length 0) (h++[aj.cells (z.cells.toList.map λu=> .d (.v u))])
   |none=>False
 | .box _ x=>eW (ρ x).gZ<|C (.ptr h.length 0) (h++[aj.cells (ρ x).cells])
 | .load t a=>lH P t h (ρ a) λx=>C x h
 | .store t a x=>ua P t h (ρ a) (ρ x) λh'=>C (.d (.v undef)) h'
 | .nilCheck x=>match ρ x with
   | .ptr n off=>C (.ptr n off) h
   | .aY xs i off=>C (.aY xs i off) h
   | .fn f cs=>C (.fn f cs) h
   |_=>False
 | .fieldAddr S x f=>match oS P S f with
   |some (fo,_,_)=>match ρ x with
    | .ptr n off=>C (.ptr n (off+fo)) h
    | .aY xs i off=>C (.aY xs i (off+fo)) h
    |_=>False
   |none=>False
 | .field T x f=>ux P T (ρ x) f λy=>C y h
 | .indexAddr T x i=>pN P T (ρ x) (ρ i) λy=>C y h
 | .index T x i=>match ρ x,(ρ i).int? with
   | .d (.v (.string b)),some z=>eW (fu P T) (0<=z/\(match b[z.toNat]? with|some c=>C (.d (.v (.int .u8 c.toNat))) h|none=>False))
   |_,_=>False
 | .build T ps=>ur P T (ps.toList.map λp=>(p.1,ρ p.2)) λy=>C y h
 | .buildSlice T len ps=>sE P T len (ps.toList.map λp=>(p.1,ρ p.2)) λy=>C y h
 | .slice T x lo hi mx=>q6 P T ρ (ρ x) lo hi mx λy=>C y h
 | .extract x i=>match ρ x with
   | .bp cs=>match cs[i]? with
     |some c=>C c h
     |none=>False
   |_=>False
 | .makeFunc (.func f) first cF=>match first.toList with
   |[]=>C (.fn f (cF.toList.map ρ)) h
   |_=>False
 | .binOp op T x y _=>tv P T op (ρ x) (ρ y) λv=>C v h
 | .unOp op _ x=>tC op (ρ x) λv=>C v h
 | .convert a b x=>sW P a b (ρ x) λv=>C v h
 | .call c=>match c.callee with
   | .builtin .len=>match c.args.toList,c.argTypes.toList with
     |[x],[T]=>od P T (ρ x) λn=>C (.d (.v (.int .i64 n))) h
     |_,_=>False
   | .builtin .append=>match c.args.toList,c.argTypes.toList with
     |[x,y],[T,U]=>eW (dn P U).isSome<|sb P T h (ρ x) (ρ y) λv h'=>C v h'
     |_,_=>False
   | .builtin .max=>match wY true (c.args.toList.map ρ)with
     |some (k,a)=>C (.d (.v (.int k a))) h
     |none=>False
   | .builtin .min=>match wY false (c.args.toList.map ρ)with
     |some (k,a)=>C (.d (.v (.int k a))) h
     |none=>False
   | .value f=>match ρ f with
     | .fn g cF=>b5 P g (c.args.toList.map ρ++cF) h λr h'=>C r h'
     | .hid q=>∃g cs,q= .fn g cs/\b5 P g (c.args.toList.map ρ++cs.map fD.av) h λr h'=>C r h'
     |_=>False
   |_=>False
 |op=>match mC P op ρ h with
  |some (x,h',p)=>p.ok/\C x h'
  |none=>False
def AO(P:agN)(o:Oper)(K:St->Prop)(s:St):Prop:=
 match o.op with
 | .binOp op T x y _=>match (ev s x).ep,ev s y,dn P T,uw op true,uw op false with
   |some xs, .d (.v (.slice none 0 0)),some _,some v1,some v2=>(xs=[]->K (s.put o.dst (.d (.v v1))))/\K (s.put o.dst (.d (.v v2)))
   |_,_,_,_,_=>False
 |_=>False
def Dt(P:agN)(o:Oper)(K:St->Prop)(s:St):Prop:=∃a x h' p,fM P o.op (ev s) s.h a=some (x,h',p)/\p/\K ((s.wh h').put o.dst x)
def nC(P:agN)(o:Oper)(K:St->Prop)(s:St):Prop:=bM P o (ev s) s.h λx h=>K ((s.wh h).put o.dst x)
def Vk(P:agN)(o:Oper)(K:St->Prop)(s:St):Prop:=Dt P o K s\/AO P o K s\/nC P o K s
theorem js(b o n:Nat):(⟨b,o,none⟩:Addr).add n=⟨b,o+n,none⟩:=by unfold Addr.add;split<;>simp_all
structure bU(G:Gh)(w:World)(a:Act)(s:St):Prop where
 size:a.tmps.size=s.n
 tmp:∀i,ax G w (a.tmps.getD i undef) (aQ s.t i)
 inv:bg G w s.h
 df:n4 G w a.defers
theorem mX.av{G:Gh}{w:agP}{u:agO}{c:fD}(h:mX G.S w u c):ax G w u c.av:=by
 cases h with
 |d h=>exact .d h
 |aY c off b o u h1 h2=>exact .aY [c] 0 off b o u c rfl h1 h2
 |fn f vs cs hl h=>exact .hid (.fn f vs cs hl h) rfl
theorem ax.iJ{G:Gh}{w:agP}{u:agO}{x:J}(h:ax G w u x)(hb:x.iJ=true):u.oneCell'=true:=by
 cases h with
 |d hp=>cases hp with
  |v u=>exact hb
  |sl=>rfl
 |agg=>simp [J.iJ]at hb
 |bp=>simp [J.iJ]at hb
 |own n xs _ hp=>cases hp;rfl
 |vec n o len L k _ hs=>obtain⟨A,l,c,rfl⟩:=hs;rfl
 |cz n i j L k _ hs=>obtain⟨b,q,rfl⟩:=hs;rfl
 |full xs hp=>cases hp;rfl
 |hid h h1=>exact h1
 |dead=>simp [J.iJ]at hb
 |_=>rfl
theorem ax.cells{G:Gh}{w:agP}{u:agO}{x:J}(h:ax G w u x)(hb:x.gZ=true):
 u.cells.size=x.cells.length/\∀(i:Nat)(v:agO)(c:J),u.cells[i]?=some v->x.cells[i]?=some c->ax G w v c/\v.oneCell'=true:=by
 have one:x.iJ=true->x.cells=[x]->u.cells.size=x.cells.length/\∀(i:Nat)(v:agO)(c:J),u.cells[i]?=some v->x.cells[i]?=some c->ax G w v c/\v.oneCell'=true:=by
  intro hc hx;have ho:=h.iJ hc;have hu:u.cells= #[u]:=by cases u<;>simp_all [Value.cells,Value.oneCell']
  rw[hu,hx];refine⟨rfl,λi v c h1 h2=> ?_⟩
  match i with
  |0=>simp at h1 h2;subst h1;subst h2;exact⟨h,ho⟩
  |i+1=>simp at h2
 cases x with
 |agg cs=>
  cases h with
  |agg vs cs hl hr=>
   refine⟨hl,λi v c h1 h2=> ?_⟩;have hv:=hr i v c h1 h2;refine⟨hv,hv.iJ ?_⟩;simp only[J.gZ,agm]at hb;exact hb c (af8 h2)
 |bp cs=>simp [J.gZ,J.iJ]at hb
 |dead=>simp [J.gZ,J.iJ]at hb
 |_=>exact one hb rfl
theorem bg.lt{G:Gh}{w:agP}{h:agK aj}(hi:bg G w h){n:Nat}{B:aj}(hb:h[n]?=some B):n<G.N:=by
 rw[<-hi.len];exact(afV.1 hb).1
theorem bg.fR{G:Gh}{w:agP}{h:agK aj}(hi:bg G w h){n b:Nat}(hb:bj h G n=some b):b<w.heap.size:=by
 obtain⟨B,hB,hb⟩:=ly hb;have hr:=hi.b6 n B hB;cases B with
 |gone=>cases hb
 |cells cs=>
  obtain⟨_,_,vs,T,hh,_⟩:=hr;cases hb
  exact(aga.1 hh).1
 |lp ls p as bd cs=>
  obtain⟨_,_,fn,vs,T,hh,_⟩:=hr;cases hb
  exact(aga.1 hh).1
 |it sn cs=>
  obtain⟨_,_,fn,vs,T,hh,_⟩:=hr;cases hb
  exact(aga.1 hh).1
 |map kv=>
  obtain⟨_,_,es,c,hh,_⟩:=hr;cases hb
  exact(aga.1 hh).1
 |eE kv=>
  obtain⟨_,_,es,c,hh,_⟩:=hr;cases hb
  exact(aga.1 hh).1
 |front e k len=>
  have hb:G.ow n=some b:=hb;obtain⟨_,_,h1|⟨g,cap,cur,h1,_,_,hh,_⟩⟩:=hr
  ·rw[h1.1]at hb;cases hb
  ·rw[h1]at hb;cases hb;exact(aga.1 hh).1
 |vec e k cs=>
  have hb:G.ow n=some b:=hb;obtain⟨_,_,_,h1|⟨g,cap,cur,h1,_,_,hh,_⟩⟩:=hr
  ·rw[h1.1]at hb;cases hb
  ·rw[h1]at hb;cases hb;exact(aga.1 hh).1
theorem cX.jD{G:Gh}{w:agP}{n b:Nat}{B:aj}(hr:cX G w n B)(hb:B.cS G n=some b):¬G.Z b:=by
 cases B with
 |gone=>cases hb
 |cells cs=>cases hb;exact hr.1
 |lp ls p as bd cs=>cases hb;exact hr.1
 |it sn cs=>cases hb;exact hr.1
 |map kv=>cases hb;exact hr.1
 |eE kv=>cases hb;exact hr.1
 |front e k len=>
  have hb:G.ow n=some b:=hb;obtain⟨_,_,h1|⟨g,cap,cur,h1,_,hz,_⟩⟩:=hr
  ·rw[h1.1]at hb;cases hb
  ·rw[h1]at hb;cases hb;exact hz
 |vec e k cs=>
  have hb:G.ow n=some b:=hb;obtain⟨_,_,_,h1|⟨g,cap,cur,h1,_,hz,_⟩⟩:=hr
  ·rw[h1.1]at hb;cases hb
  ·rw[h1]at hb;cases hb;exact hz
theorem ma.aG{S S':Nat->Nat->Prop}{w w':agP}{es:Array MapEntry}{c:Nat}{kv:agK (agL×D)}(h:ma S w es c kv)(hS:∀b o,S b o->S' b o)(hc:∀b o,S b o->w'.cell? ⟨b,o,none⟩=w.cell? ⟨b,o,none⟩):ma S' w' es c kv:=
 ⟨h.size,h.stamped,λe he=>let ⟨s,d,h1,h2,h3⟩:=h.da e he;⟨s,d,h1,h2,h3.aG hS hc⟩,h.all,h.len,h.born,h.wO⟩
theorem rH.aG{S S':Nat->Nat->Prop}{w w':agP}{es:Array MapEntry}{c:Nat}{kv:agK (agL×D)}(h:rH S w es c kv)(hS:∀b o,S b o->S' b o)(hc:∀b o,S b o->w'.cell? ⟨b,o,none⟩=w.cell? ⟨b,o,none⟩):rH S' w' es c kv:=
 ⟨h.ok.aG hS hc,λi e he=>let ⟨p,h1,h2,h3⟩:=h.ord i e he;⟨p,h1,h2,h3.aG hS hc⟩,h.all⟩
theorem cX.aG{G G':Gh}{w w':agP}{n:Nat}(hn:n<G.N)(hE:a7 G.N G w G' w')(hN:G.N<=G'.N){B:aj}
 (hg:G'.fl n=G.fl n/\G'.sg n=G.sg n/\G'.ow n=G.ow n)
 (ho:∀b,B.cS G n=some b->w'.heap[b]?=w.heap[b]?/\∀o,¬G.S b o->¬G'.S b o)
 (h:cX G w n B):cX G' w' n B:=by
 obtain⟨f1,f2,f3⟩:=hg;cases B with
 |gone=>trivial
 |cells cs=>
  obtain⟨h1,h2,vs,T,h3,h4,h5⟩:=h;obtain⟨c2,c1⟩:=ho _ rfl;refine⟨by rw[hE.aF n hn];exact hE.jD (aga.1 h3).1 h1,by rw[hE.aF n hn];exact λo=>c1 o (h2 o),vs,T,by rw[hE.aF n hn,c2];exact h3,h4,λi u c hu hc=>(h5 i u c hu hc).aG hE hN⟩
 |lp ls p as bd cs=>
  obtain⟨h1,h2,fn,vs,T,h3,h4,h5⟩:=h;obtain⟨c2,c1⟩:=ho _ rfl;refine⟨by rw[hE.aF n hn];exact hE.jD (aga.1 h3).1 h1,by rw[hE.aF n hn];exact λo=>c1 o (h2 o),fn,vs,T,by rw[hE.aF n hn,c2];exact h3,h4,λi u c hu hc=>(h5 i u c hu hc).aG hE hN⟩
 |it sn cs=>
  obtain⟨h1,h2,fn,vs,T,h3,h4,h5⟩:=h;obtain⟨c2,c1⟩:=ho _ rfl;refine⟨by rw[hE.aF n hn];exact hE.jD (aga.1 h3).1 h1,by rw[hE.aF n hn];exact λo=>c1 o (h2 o),fn,vs,T,by rw[hE.aF n hn,c2];exact h3,h4,λi u c hu hc=>(h5 i u c hu hc).aG hE hN⟩
 |map kv=>
  obtain⟨h1,h2,es,c,h3,h4⟩:=h;obtain⟨c2,c1⟩:=ho _ rfl;exact⟨by rw[hE.aF n hn];exact hE.jD (aga.1 h3).1 h1,by rw[hE.aF n hn];exact λo=>c1 o (h2 o),es,c,by rw[hE.aF n hn,c2];exact h3,h4.aG hE.S hE.cell⟩
 |eE kv=>
  obtain⟨h1,h2,es,c,h3,h4⟩:=h;obtain⟨c2,c1⟩:=ho _ rfl;exact⟨by rw[hE.aF n hn];exact hE.jD (aga.1 h3).1 h1,by rw[hE.aF n hn];exact λo=>c1 o (h2 o),es,c,by rw[hE.aF n hn,c2];exact h3,h4.aG hE.S hE.cell⟩
 |front e k len=>
  obtain⟨h1,hm,h2⟩:=h;refine⟨f1.trans h1,hm,?_⟩;rcases h2 with⟨h2,A,h3⟩|⟨g,cap,cur,h2,h3,h4,h5,h6,h7,h8,h9⟩
  ·exact .inl ⟨f3.trans h2,A,f2.trans h3⟩
  ·obtain⟨f5,f6⟩:=ho g h2;exact .inr ⟨g,cap,cur,f3.trans h2,f2.trans h3,hE.jD (aga.1 h5).1 h4,f5.trans h5,h6,h7,h8,λo ho=>f6 o (h9 o ho)⟩
 |vec e k cs=>
  obtain⟨h1,hm,hk,h2⟩:=h;refine⟨f1.trans h1,hm,hk,?_⟩;rcases h2 with⟨h2,e2,A,h3⟩|⟨g,cap,cur,h2,h3,h4,h5,h6,h7,h8,h9,bn⟩
  ·exact .inl ⟨f3.trans h2,e2,A,f2.trans h3⟩
  ·obtain⟨f5,f6⟩:=ho g h2;exact .inr ⟨g,cap,cur,f3.trans h2,f2.trans h3,hE.jD (aga.1 h5).1 h4,f5.trans h5,h6,h7,h8,λo=>f6 o (h9 o),λi j c x u hc hx hu=>(bn i j c x u hc hx hu).aG hE hN⟩
theorem bU.put{G:Gh}{w:agP}{a:Act}{s:St}(h:bU G w a s){v:agO}{x:J}(hv:ax G w v x)(dst:agM Nat):bU G w (a.put dst v) (s.put dst x):=by
 cases dst with
 |none=>exact h
 |some d=>
  by_cases hd:d<s.n
  ·have e1:s.put (some d) x={s with t:=(d,x)::s.t}:=nQ hd x;rw[e1];refine⟨by simp [Act.put,h.size],λi=> ?_,h.inv,h.df⟩;by_cases hi:i=d
   ·subst hi;have:(a.tmps.setIfInBounds i v).getD i undef=v:=by simp [Array.getD,h.size,hd]
    simp only[Act.put,this,kF,if_true];exact hv
   ·have:(a.tmps.setIfInBounds d v).getD i undef=a.tmps.getD i undef:=by simp [Array.getElem?_setIfInBounds_ne (Ne.symm hi)]
    simp only[Act.put,this,kF,if_neg hi];exact h.tmp i
  ·have e1:s.put (some d) x=s:=zD hd x;have e2:a.put (some d) v=a:=by
    have:a.tmps.setIfInBounds d v=a.tmps:=Array.setIfInBounds_eq_of_size_le (by rw[h.size];omega);simp [Act.put,this]
   rw[e1,e2];exact h
theorem bU.move{G G':Gh}{w w':agP}{a:Act}{s:St}(h:bU G w a s)(hE:a7 G.N G w G' w')(hN:G.N<=G'.N){h':agK aj}(hi:bg G' w' h'):bU G' w' a {s with h:=h'}:=
 ⟨h.size,λi=>(h.tmp i).aG hE hN,hi,h.df.aG hE⟩
theorem bU.ev{G:Gh}{w:agP}{a:Act}{s:St}(h:bU G w a s)(x:Operand):ax G w (a.eval x) (ev s x):=by
 cases x with
 |tmp t=>exact h.tmp t
 |const v=>
  show ax G w v (LA v);unfold LA;split
  ·rename_i vs
   exact .agg vs _ (by simp) λi u c hu hc=>by
    simp only[af2,agj,hu,Option.map_some,Option.some.injEq]at hc;subst hc;exact .d (.v u)
  ·rename_i vs
   exact .bp vs _ (by simp) λi u c hu hc=>by
    simp only[af2,agj,hu,Option.map_some,Option.some.injEq]at hc;subst hc;exact .d (.v u)
  ·exact .d (.v v)
 |global g=>
  show ax G w (.pointer (some ⟨g,0,none⟩)) (match wF wc g with|some l=> .aY [l.map .v] 0 0|none=> .dead);split
  ·next l hl=>
   have hg:=h.inv.gl.1 g l (Oa hl);have:=ax.aY (G:=G) (w:=w) [l.map .v] 0 0 g 0 (λj=>l.getD j undef) (l.map .v) rfl (λj hj=> ?_) (λj d hd=> ?_)
   ·exact this
   ·rw[af0]at hj;have e:l[j]?=some l[j]:=afZ hj;rw[agf];refine⟨(hg j _ e).1,?_⟩;rw[(hg j _ e).2];simp [hj]
   ·rw[af2]at hd;cases e:l[j]? with
    |none=>rw[e]at hd;cases hd
    |some v=>
     rw[e]at hd;cases hd
     have:l.getD j undef=v:=by simp [List.getD,e]
     rw[this];exact .v v
  ·exact .dead _
 |func f=>exact .fn f #[] [] rfl λi u c hu=>by simp at hu
def Gh.cA(G:Gh)(b:Nat):Gh:={G with N:=G.N+1,aF:=λn=>if n=G.N then b else G.aF n}
theorem wI(G:Gh)(w:agP)(hz:∀b,G.Z b->b<w.heap.size)(hS:∀b o,G.S b o->b<w.heap.size)(o:Obj):a7 G.N G w (G.cA w.heap.size) (w.alloc o):=
 ⟨by simp,λ_ _ h=>h,λb _ h=>World.cell?_alloc_lt _ _ _ (hS _ _ h),λn hn=>by simp [Gh.cA,Nat.ne_of_lt hn],λ_ _=> .inl ⟨rfl,rfl⟩,fi rfl,
  λb hb=>Below.heap_alloc w o b (hz b hb),rfl,rfl,rfl,λ_ _ h=> .inl h⟩
theorem Q2{G:Gh}{w:agP}{h:agK aj}(hi:bg G w h)(vs:Array agO)(T:TypeId)(cs:agK J)(hl:vs.size=cs.length)
 (hr:∀(i:Nat)(u:agO)(c:J),vs[i]?=some u->cs[i]?=some c->ax G w u c):
 bg (G.cA w.heap.size) (w.alloc (.cells vs T)) (h++[.cells cs])/\ax (G.cA w.heap.size) (w.alloc (.cells vs T)) (.pointer (some ⟨w.heap.size,0,none⟩)) (.ptr h.length 0):=by
 have hE:=wI G w hi.z hi.S (.cells vs T);have hN:G.N<=(G.cA w.heap.size).N:=Nat.le_succ _;have fq:(G.cA w.heap.size).aF h.length=w.heap.size:=by simp [Gh.cA,hi.len]
 have j7:∀n(B:aj),n<G.N->B.cS (G.cA w.heap.size) n=B.cS G n:=λn B hn=>by
  cases B<;>simp [aj.cS,Gh.cA,Nat.ne_of_lt hn]
 have eo:∀n,n<G.N->bj (h++[.cells cs]) (G.cA w.heap.size) n=bj h G n:=λn hn=>by
  have az:n<h.length:=by rw[hi.len];exact hn
  unfold bj;rw[af5 az,afZ az];exact j7 n _ hn
 have tG:bj (h++[.cells cs]) (G.cA w.heap.size) h.length=some w.heap.size:=by
  rw[cJ (B:= .cells cs) (by simp)];exact congrArg some fq
 refine⟨⟨by simp [Gh.cA,hi.len],λb hb=>agk (hi.z b hb) hE.size,λb o hs=>agk (hi.S b o hs) hE.size,λn B hB=> ?_,λm n b hm hn=> ?_,hi.gl.aG hE⟩,?_⟩
 ·by_cases hn:n<h.length
  ·rw[af5 hn]at hB;have dA:n<G.N:=hi.len▸hn;exact cX.aG dA hE hN ⟨rfl,rfl,rfl⟩ (λb hb=>⟨Below.heap_alloc w _ _ (hi.fR (n:=n) ((cJ hB).trans hb)),λo h=>h⟩) (hi.b6 n B hB)
  ·have jH:n=h.length:=by
    have:=(afV.1 hB).1;simp at this;omega
   subst jH;simp at hB;subst hB;exact⟨by rw[fq];exact λhz=>agA _ (hi.z _ hz),λo hs=>by rw[fq]at hs;exact agA _ (hi.S _ _ hs),vs,T,by rw[fq];exact World.alloc_heap_new w _,hl,λi u c hu hc=>(hr i u c hu hc).aG hE hN⟩
 ·have key:∀n b,bj (h++[.cells cs]) (G.cA w.heap.size) n=some b->(n<G.N/\bj h G n=some b)\/(n=h.length/\b=w.heap.size):=λn b hn=>by
   by_cases az:n<G.N
   ·exact .inl ⟨az,by rw[<-eo n az];exact hn⟩
   ·by_cases e:n=h.length
    ·subst e;rw[tG]at hn;cases hn;exact .inr ⟨rfl,rfl⟩
    ·rw[ss (ags (by simp;have:=hi.len;omega))]at hn;cases hn
  rcases key m b hm with⟨_,iE⟩|⟨rfl,rfl⟩<;>rcases key n _ hn with⟨_,dA⟩|⟨rfl,hb⟩
  ·exact hi.inj m n b iE dA
  ·have:=hi.fR iE;omega
  ·have:=hi.fR dA;omega
  ·rfl
 ·have:=ax.ptr (G:=G.cA w.heap.size) (w:=w.alloc (.cells vs T)) h.length 0 (by simp [Gh.cA,hi.len])
  rwa [fq]at this
theorem Gq(w:agP)(g:Nat)(cs:Array agO):(w.setRow g cs).heap.size=w.heap.size:=by simp [World.setRow]
theorem Y7(w:agP)(g:Nat)(cs:Array agO)(b o:Nat)(h:b≠g):(w.setRow g cs).cell? ⟨b,o,none⟩=w.cell? ⟨b,o,none⟩:=World.cell?_of_block (setRow_other w g b cs h)
theorem Zm{G:Gh}{w:agP}{g:Nat}(cs:Array agO)(hg:¬G.Z g)(hS:∀b o,G.S b o->(w.setRow g cs).cell? ⟨b,o,none⟩=w.cell? ⟨b,o,none⟩):a7 G.N G w G (w.setRow g cs):=
 ⟨by rw[Gq];exact af6 _,λ_ _ h=>h,hS,λ_ _=>rfl,λ_ _=> .inl ⟨rfl,rfl⟩,fi rfl,λb hb=>setRow_other w g b cs (λe=>hg (e▸hb)),rfl,rfl,rfl,λ_ _ h=> .inl h⟩
theorem yH(cs ys:agK J)(off:Nat)(h:off+ys.length<=cs.length):(gM cs off ys).length=cs.length:=by
 simp [gM];omega
theorem aeF{R:agO->J->Prop}(vs us:Array agO)(cs ys:agK J)(off:Nat)(hl:vs.size=cs.length)(hu:us.size=ys.length)(hb:off+ys.length<=cs.length)
 (hr:∀(i:Nat)(u:agO)(c:J),vs[i]?=some u->cs[i]?=some c->R u c) (mF:∀(i:Nat)(u:agO)(c:J),us[i]?=some u->ys[i]?=some c->R u c):
 ∀(i:Nat)(u:agO)(c:J),(vs.toList.take off++us.toList++vs.toList.drop (off+us.toList.length)).toArray[i]?=some u->(gM cs off ys)[i]?=some c->R u c:=by
 intro i u c h1 h2;have l8:us.toList.length=ys.length:=by rw[agt,hu]
 rw[l8]at h1;rw[List.getElem?_toArray]at h1;unfold gM at h2;simp only[agc]at h1 h2;have tU:vs.toList.length=cs.length:=by rw[agt,hl]
 by_cases h:i<off
 ·rw[af5 (by simp;omega),List.getElem?_take_of_lt h]at h1;rw[af5 (by simp;omega),List.getElem?_take_of_lt h]at h2;exact hr i u c (by rw[<-agj];exact h1) h2
 ·rw[agb (by simp;omega)]at h1 h2;simp only[List.length_take,tU]at h1 h2;rw[Nat.min_eq_left (by omega)]at h1 h2;by_cases h':i-off<ys.length
  ·rw[af5 (by rw[l8];exact h')]at h1;rw[af5 h']at h2;exact mF (i-off) u c (by rw[<-agj];exact h1) h2
  ·rw[agb (by rw[l8];omega),List.getElem?_drop]at h1;rw[agb (by omega),List.getElem?_drop]at h2;rw[l8]at h1;rw[show off+ys.length+(i-off-ys.length)=i by omega]at h1 h2;exact hr i u c (by rw[<-agj];exact h1) h2
theorem adh{P:agN}{G:Gh}{w:agP}{h:agK aj}(hi:bg G w h){n off:Nat}{cs:agK J}(hn:h[n]?=some (.cells cs)){t:TypeId}{v:agO}{x:J}
 (hv:ax G w v x) (hb:x.gZ=true) (ht:eD P t=some x.cells.length) (ho:off+x.cells.length<=cs.length):
 ∃w',(storeVar t ⟨G.aF n,off,none⟩ v).run P w= .ok () w'/\a7 G.N G w G w'/\bg G w' (h.set n (.cells (gM cs off x.cells))):=by
 obtain⟨hz,hS,vs,T,hh,hl,hr⟩:=hi.b6 n _ hn;obtain⟨wB,NQ⟩:=hv.cells hb;obtain⟨i,hi1,iQ⟩:∃i,P.info? t=some i/\i.size=x.cells.length:=by
  unfold eD at ht;cases hq:P.info? t with
  |none=>rw[hq]at ht;cases ht
  |some i=>rw[hq]at ht;exact⟨i,rfl,by simpa using ht⟩
 have jo:=run_storeCells_at P (G.aF n) off T v.cells.toList 0 vs w hh (by rw[agt,wB,hl];simpa using ho) (λu hu=>by
  obtain⟨j,hj⟩:=List.mem_iff_getElem?.1 hu;have fI:v.cells[j]?=some u:=by rw[<-agj];exact hj
  have vy:j<x.cells.length:=by rw[<-wB];exact(aga.1 fI).1
  exact(NQ j u _ fI (afZ vy)).2)
 simp only[Nat.add_zero]at jo;obtain⟨w',dq⟩:∃w',w'=w.setRow (G.aF n) (vs.toList.take off++v.cells.toList++vs.toList.drop (off+v.cells.toList.length)).toArray:=⟨_,rfl⟩;rw[<-dq]at jo;have hE:a7 G.N G w G w':=by
  rw[dq];exact Zm _ hz λb o hs=>Y7 w _ _ b o (λe=>hS o (e▸hs))
 have dt:∀m,m≠n->(h.set n (.cells (gM cs off x.cells)))[m]?=h[m]?:=λm hm=>by rw[agu (Ne.symm hm)]
 have jQ:(h.set n (.cells (gM cs off x.cells)))[n]?=some (.cells (gM cs off x.cells)):=by
  rw[agp (afV.1 hn).1]
 have db:∀m,bj (h.set n (.cells (gM cs off x.cells))) G m=bj h G m:=λm=>by
  by_cases e:m=n
  ·subst e;rw[cJ jQ,cJ hn];rfl
  ·unfold bj;rw[dt m e]
 have kd:bj h G n=some (G.aF n):=cJ hn;refine⟨w',?_,hE,⟨by rw[List.length_set];exact hi.len,λb hb=>agk (hi.z b hb) hE.size,λb o hs=>agk (hi.S b o hs) hE.size,λm B hB=> ?_,λm m' b h1 h2=>hi.inj m m' b (by rw[<-db];exact h1) (by rw[<-db];exact h2),hi.gl.aG hE⟩⟩
 ·unfold storeVar;simp only[sizeOf,typeInfo,Sem.run_bind,wB];simp [hi1,iQ,jo]
 ·by_cases e:m=n
  ·subst e;rw[jQ]at hB;cases hB
   refine⟨hz,hS,_,T,by rw[dq];exact setRow_heap w _ vs _ T _ hh,?_,λi u c hu hc=> ?_⟩
   ·rw[yH _ _ _ ho];have:v.cells.toList.length=x.cells.length:=by rw[agt];exact wB
    simp only[List.size_toArray,afW,List.length_take,List.length_drop,agt,hl,wB];omega
   ·exact(aeF (R:=ax G w) vs v.cells cs x.cells off hl wB ho hr (λi u c h1 h2=>(NQ i u c h1 h2).1) i u c hu hc).aG hE (af6 _)
  ·rw[dt m e]at hB;have bQ:∀b,bj h G m=some b->b≠G.aF n:=λb hb eb=>e (hi.inj m n b hb (by rw[eb];exact kd));refine cX.aG (hi.lt hB) hE (af6 _) ⟨rfl,rfl,rfl⟩ (λb hb=>⟨?_,λo h=>h⟩) (hi.b6 m B hB);rw[dq];exact setRow_other w _ _ _ (bQ _ ((cJ hB).trans hb))
theorem cx.mL{S:Nat->Nat->Prop}{w:agP}{v:agO}{xs:agK (agK D)}(h:cx S w v (.sl xs)):
 ∃(A:agM Addr)(b o c k:Nat)(u:Nat->Nat->agO),v= .slice A xs.length c/\(xs≠ []->A=some ⟨b,o,none⟩)/\xs.length<=c/\c<=maxLen/\(∀x∈xs,x.length=k)/\
  (∀i j,i<xs.length->j<k->S b (o+i*k+j)/\w.cell? ⟨b,o+i*k+j,none⟩=some (u i j)/\(u i j).oneCell'=true)/\
  (∀(i j:Nat)(x:agK D)(d:D),xs[i]?=some x->x[j]?=some d->cx S w (u i j) d):=by
 cases h with
 |sl A b o c k xs u hA hc hm hk hS hu=>exact⟨A,b,o,c,k,u,rfl,hA,hc,hm,hk,hS,hu⟩
structure Rd(S:Nat->Nat->Prop)(w:World)(k:Nat)(xs:List (List D))(us:List Value):Prop where
 len:us.length=xs.length*k
 wid:∀x∈xs,x.length=k
 one:∀u∈us,u.oneCell'=true
 rel:∀(i j:Nat)(x:List D)(d:D),xs[i]?=some x->x[j]?=some d->∃u,us[i*k+j]?=some u/\cx S w u d
theorem Rd.aG{S S':Nat->Nat->Prop}{w w':agP}{k:Nat}{xs:agK (agK D)}{us:agK agO}(h:Rd S w k xs us)(hS:∀b o,S b o->S' b o)(hc:∀b o,S b o->w'.cell? ⟨b,o,none⟩=w.cell? ⟨b,o,none⟩):Rd S' w' k xs us:=
 ⟨h.len,h.wid,h.one,λi j x d hx hd=>let ⟨u,h1,h2⟩:=h.rel i j x d hx hd;⟨u,h1,h2.aG hS hc⟩⟩
theorem Rd.append{S:Nat->Nat->Prop}{w:agP}{k:Nat}{xs ys:agK (agK D)}{us vs:agK agO}(h:Rd S w k xs us)(h':Rd S w k ys vs):Rd S w k (xs++ys) (us++vs):=by
 refine⟨by rw[afW,afW,h.len,h'.len,Nat.add_mul],λx hx=> ?_,λu hu=> ?_,λi j x d hx hd=> ?_⟩
 ·rcases agy.1 hx with hx|hx
  ·exact h.wid x hx
  ·exact h'.wid x hx
 ·rcases agy.1 hu with hu|hu
  ·exact h.one u hu
  ·exact h'.one u hu
 ·by_cases hi:i<xs.length
  ·rw[af5 hi]at hx;obtain⟨u,h1,h2⟩:=h.rel i j x d hx hd;exact⟨u,by rw[af5 (afV.1 h1).1];exact h1,h2⟩
  ·rw[agb (by omega)]at hx;obtain⟨u,h1,h2⟩:=h'.rel (i-xs.length) j x d hx hd;refine⟨u,?_,h2⟩;have e:i*k+j=xs.length*k+((i-xs.length)*k+j):=by rw[Nat.sub_mul];have:=Nat.mul_le_mul_right k (Nat.le_of_not_lt hi);omega
   rw[e,agb (by rw[h.len];omega),h.len,Nat.add_sub_cancel_left];exact h1
theorem Rd.Fa{S:Nat->Nat->Prop}{w:agP}{k:Nat}{xs:agK (agK D)}{us:agK agO}(h:Rd S w k xs us)(b c:Nat)(hc:xs.length<=c)(hm:c<=maxLen)
 (hS:∀o,o<xs.length*k->S b o) (fQ:∀(o:Nat)(u:agO),us[o]?=some u->w.cell? ⟨b,o,none⟩=some u):cx S w (.slice (some ⟨b,0,none⟩) xs.length c) (.sl xs):=by
 refine .sl _ b 0 c k xs (λi j=>us.getD (i*k+j) undef) (λ_=>rfl) hc hm h.wid (λi j hi hj=> ?_) (λi j x d hx hd=> ?_)
 ·have az:i*k+j<xs.length*k:=by
   have:(i+1)*k<=xs.length*k:=Nat.mul_le_mul_right k hi;rw[Nat.add_mul]at this;omega
  have hg:us[i*k+j]?=some (us[i*k+j]'(by rw[h.len];exact az)):=afZ (by rw[h.len];exact az);rw[agf];refine⟨hS _ az,?_,?_⟩
  ·rw[fQ _ _ hg];simp [hg]
  ·simp only[List.getD_eq_getElem?_getD,hg,Option.getD_some];exact h.one _ (List.getElem_mem _)
 ·obtain⟨u,h1,h2⟩:=h.rel i j x d hx hd;simp only[List.getD_eq_getElem?_getD,h1,Option.getD_some];exact h2
theorem cx.rd{S:Nat->Nat->Prop}{w:agP}{v:agO}{xs:agK (agK D)}{k:Nat}(h:cx S w v (.sl xs))(eZ:0<k)(hk:∀x∈xs,x.length=k):
 ∃us,Rd S w k xs us/\∃A c,v= .slice A xs.length c/\xs.length<=c/\c<=maxLen/\(xs≠ []->∃b o,A=some ⟨b,o,none⟩/\∀(j:Nat)(u:agO),us[j]?=some u->S b (o+j)/\w.cell? ⟨b,o+j,none⟩=some u):=by
 obtain⟨A,b,o,c,k',u,rfl,hA,hc,hm,kt,hS,hu⟩:=h.mL;by_cases hx:xs=[]
 ·subst hx;exact⟨[],⟨by simp,(λ_ h=>by cases h),(λ_ h=>by cases h),λi j x d hx=>by simp at hx⟩,A,c,rfl,hc,hm,λh=>absurd rfl h⟩
 ·have ek:k'=k:=by
   obtain⟨x,lE⟩:=List.exists_mem_of_ne_nil xs hx;rw[<-kt x lE,hk x lE]
  subst ek;refine⟨(List.range (xs.length*k')).map λt=>u (t / k') (t%k'),⟨by simp,hk,λv hv=> ?_,λi j x d hx hd=> ?_⟩,A,c,rfl,hc,hm,λbQ=>⟨b,o,hA bQ,λj v hv=> ?_⟩⟩
  ·obtain⟨t,ht,rfl⟩:=List.mem_map.1 hv;have nv:=List.mem_range.1 ht;exact(hS (t / k') (t%k') (Nat.div_lt_of_lt_mul (by rw[Nat.mul_comm];exact nv)) (Nat.mod_lt _ eZ)).2.2
  ·have hj:j<k':=by rw[<-hk x (af8 hx)];exact(afV.1 hd).1
   have hi:i<xs.length:=(afV.1 hx).1;refine⟨u i j,?_,hu i j x d hx hd⟩;have az:i*k'+j<xs.length*k':=by
    have:(i+1)*k'<=xs.length*k':=Nat.mul_le_mul_right k' hi;rw[Nat.add_mul]at this;omega
   rw[af2,List.getElem?_range az];simp only[Option.map_some,Option.some.injEq];rw[show(i*k'+j)/ k'=i by rw[Nat.add_comm,Nat.add_mul_div_right _ _ eZ,Nat.div_eq_of_lt hj,agf],show(i*k'+j)%k'=j by rw[Nat.add_comm,Nat.add_mul_mod_self_right,Nat.mod_eq_of_lt hj]]
  ·rw[af2]at hv;by_cases hj:j<xs.length*k'
   ·rw[List.getElem?_range hj]at hv;simp only[Option.map_some,Option.some.injEq]at hv;subst hv;have:=hS (j / k') (j%k') (Nat.div_lt_of_lt_mul (by rw[Nat.mul_comm];exact hj)) (Nat.mod_lt _ eZ);have e:o+j / k'*k'+j%k'=o+j:=by have:=Nat.div_add_mod j k';rw[Nat.mul_comm]at this;omega
    rw[e]at this;exact⟨this.1,this.2.1⟩
   ·rw[ags (by simp;omega)]at hv;cases hv
theorem cx.src{P:agN}{S:Nat->Nat->Prop}{w:agP}{v:agO}{xs:agK (agK D)}{k:Nat}(h:cx S w v (.sl xs))(eZ:0<k)(hk:∀x∈xs,x.length=k){tx e':TypeId}(ht:P.underlying tx=some (.slice e')):
 ∃us,Rd S w k xs us/\Src P k tx v xs.length us w:=by
 obtain⟨us,hr,A,c,rfl,_,_,hA⟩:=h.rd eZ hk;refine⟨us,hr,?_⟩;by_cases hx:xs=[]
 ·subst hx;have jI:us=[]:=List.eq_nil_of_length_eq_zero (by rw[hr.len];simp);subst jI;cases A with
  |none=>exact Src.ofNil w ht c
  |some a=>exact Src.ofSlice w ht a 0 c [] (by simp) (λj u hu=>by simp at hu) (λu hu=>by cases hu)
 ·obtain⟨b,o,rfl,hc⟩:=hA hx;exact Src.ofSlice w ht _ _ c us hr.len (λj u hu=>by rw[js];exact(hc j u hu).2) hr.one
def Gh.fp(G:Gh)(v:agO)(len:Nat):Gh:=
 {G with N:=G.N+1,sg:=λn=>if n=G.N then v else G.sg n,fl:=λn=>if n=G.N then len else G.fl n,ow:=λn=>if n=G.N then none else G.ow n}
theorem LL{G:Gh}{w:agP}{h:agK aj}(hi:bg G w h){v:agO}{xs:agK (agK D)}(hv:cx G.S w v (.sl xs))(hf:∃A,v= .slice A xs.length xs.length)(e:TypeId)(k:Nat):
 a7 G.N G w (G.fp v xs.length) w/\G.N<=(G.fp v xs.length).N/\bg (G.fp v xs.length) w (h++[.front e k xs.length])/\ax (G.fp v xs.length) w v (.own h.length xs):=by
 have bQ:∀n,n<G.N->n≠G.N:=λn hn=>Nat.ne_of_lt hn;have hE:a7 G.N G w (G.fp v xs.length) w:=⟨af6 _,λ_ _ h=>h,λ_ _ _=>rfl,λ_ _=>rfl,λn hn=> .inl ⟨by simp [Gh.fp,bQ n hn],by simp [Gh.fp,bQ n hn]⟩,fi rfl,λ_ _=>rfl,rfl,rfl,rfl,λ_ _ h=> .inl h⟩;have hN:G.N<=(G.fp v xs.length).N:=Nat.le_succ _;have Np:xs.length<=maxLen:=by
  obtain⟨A,b,o,c,k',u,_,_,h1,h2,_⟩:=hv.mL;exact agd h1 h2
 have j7:∀n(B:aj),n<G.N->B.cS (G.fp v xs.length) n=B.cS G n:=λn B hn=>by
  cases B<;>simp [aj.cS,Gh.fp,Nat.ne_of_lt hn]
 have hold:∀n b,bj (h++[.front e k xs.length]) (G.fp v xs.length) n=some b->bj h G n=some b:=λn b hb=>by
  by_cases hn:n<h.length
  ·unfold bj at hb ⊢;rw[af5 hn,afZ hn]at hb;rw[afZ hn];rw[<-hb];exact(j7 n _ (hi.len▸hn)).symm
  ·by_cases en:n=h.length
   ·subst en;rw[cJ (B:= .front e k xs.length) (by simp)]at hb;simp [aj.cS,Gh.fp,hi.len]at hb
   ·rw[ss (ags (by simp;omega))]at hb;cases hb
 refine⟨hE,hN,⟨by simp [Gh.fp,hi.len],hi.z,hi.S,λn B hB=> ?_,λm n b hm hn=>hi.inj m n b (hold m b hm) (hold n b hn),hi.gl.aG hE⟩,?_⟩
 ·by_cases hn:n<h.length
  ·rw[af5 hn]at hB;have dA:n<G.N:=hi.len▸hn;exact cX.aG dA hE hN ⟨by simp [Gh.fp,bQ n dA],by simp [Gh.fp,bQ n dA],by simp [Gh.fp,bQ n dA]⟩ (λb hb=>⟨rfl,λo h=>h⟩) (hi.b6 n B hB)
  ·have jH:n=h.length:=by
    have:=(afV.1 hB).1;simp at this;omega
   subst jH;simp at hB;subst hB;obtain⟨A,hA⟩:=hf;exact⟨by simp [Gh.fp,hi.len],Np, .inl ⟨by simp [Gh.fp,hi.len],A,by simp [Gh.fp,hi.len,hA]⟩⟩
 ·exact .own h.length xs (by simp [Gh.fp,hi.len]) hv (by simp [Gh.fp,hi.len]) (λ_=>by simp [Gh.fp,hi.len])
theorem GC{P:agN}{e k b:Nat}(hk:eD P e=some k)(hb:nV P e=some b):∃i,P.info? e=some i/\i.size=k/\i.bytes=b:=by
 unfold eD at hk;unfold nV at hb;cases hq:P.info? e with
 |none=>rw[hq]at hk;cases hk
 |some i=>rw[hq]at hk hb;exact⟨i,rfl,by simpa using hk,by simpa using hb⟩
def Gh.grow(G:Gh)(n:Nat)(S:Nat->Nat->Prop)(v:agO)(len:Nat)(ow:agM Nat):Gh:=
 {G with S:=S,sg:=λm=>if m=n then v else G.sg m,fl:=λm=>if m=n then len else G.fl m,ow:=λm=>if m=n then ow else G.ow m}
theorem Qo{G:Gh}{w w':agP}{h:agK aj}(hi:bg G w h){n e k len fa:Nat}(hn:h[n]?=some (.front e k len))(S:Nat->Nat->Prop)(v:agO)(g:Nat)
 (hE:a7 G.N G w (G.grow n S v fa (some g)) w') (hg:g=w.heap.size\/G.ow n=some g) (VG:g<w'.heap.size)
 (hS:∀b o,S b o->G.S b o\/b=g) (ga:∀b,b<w.heap.size->b≠g->w'.heap[b]?=w.heap[b]?)
 (hB:cX (G.grow n S v fa (some g)) w' n (.front e k fa)):bg (G.grow n S v fa (some g)) w' (h.set n (.front e k fa)):=by
 have dt:∀m,m≠n->(h.set n (.front e k fa))[m]?=h[m]?:=λm hm=>by rw[agu (Ne.symm hm)]
 have jQ:(h.set n (.front e k fa))[n]?=some (.front e k fa):=by rw[agp (afV.1 hn).1]
 have j7:∀m(B:aj),m≠n->B.cS (G.grow n S v fa (some g)) m=B.cS G m:=λm B hm=>by
  cases B<;>simp [aj.cS,Gh.grow,hm]
 have db:∀m,m≠n->bj (h.set n (.front e k fa)) (G.grow n S v fa (some g)) m=bj h G m:=λm hm=>by
  unfold bj;rw[dt m hm];cases h[m]? with
  |none=>rfl
  |some B=>exact j7 m B hm
 have sw:∀m,m≠n->bj h G m≠some g:=λm hm hb=>by
  rcases hg with hg|hg
  ·have:=hi.fR hb;omega
  ·exact hm (hi.inj m n g hb ((cJ hn).trans hg))
 refine⟨by rw[List.length_set];exact hi.len,λb hb=>agk (hi.z b hb) hE.size,λb o hs=> ?_,λm B hm=> ?_,λm m' b h1 h2=> ?_,hi.gl.aG hE⟩
 ·rcases hS b o hs with hs|hs
  ·exact agk (hi.S b o hs) hE.size
  ·rw[hs];exact VG
 ·by_cases em:m=n
  ·subst em;rw[jQ]at hm;cases hm;exact hB
  ·rw[dt m em]at hm;refine cX.aG (hi.lt hm) hE (af6 _) ⟨by simp [Gh.grow,em],by simp [Gh.grow,em],by simp [Gh.grow,em]⟩ (λb hb=> ?_) (hi.b6 m B hm);have hr:bj h G m=some b:=(cJ hm).trans hb;have bQ:b≠g:=λe'=>sw m em (by rw[hr,e']);refine⟨ga _ (hi.fR hr) bQ,λo iC hs=> ?_⟩;rcases hS _ o hs with hs|hs
   ·exact iC hs
   ·exact bQ hs
 ·by_cases e1:m=n<;>by_cases e2:m'=n
  ·rw[e1,e2]
  ·subst e1;rw[db m' e2]at h2;have:bj (h.set m (.front e k fa)) (G.grow m S v fa (some g)) m=some g:=by rw[cJ jQ];simp [aj.cS,Gh.grow]
   rw[this]at h1;cases h1;exact absurd h2 (sw m' e2)
  ·subst e2;rw[db m e1]at h1;have:bj (h.set m' (.front e k fa)) (G.grow m' S v fa (some g)) m'=some g:=by rw[cJ jQ];simp [aj.cS,Gh.grow]
   rw[this]at h2;cases h2;exact absurd h1 (sw m e1)
  ·rw[db m e1]at h1;rw[db m' e2]at h2;exact hi.inj m m' b h1 h2
set_option maxHeartbeats 1000000 in
theorem Oy{P:agN}{G:Gh}{w:agP}{h:agK aj}(hi:bg G w h){T tx ty e k cq:Nat}{i:TypeInfo}{z:agO}(hT:P.underlying T=some (.slice e))(iZ:P.info? e=some i)(hz:i.zero=some z)(lB:i.size=k)(tS:i.bytes=cq)(ik:z.cells.size=k)
 (eZ:0<k) {n:Nat} {xs ys:agK (agK D)} (hn:h[n]?=some (.front e k xs.length)) {u v:agO} (hu:ax G w u (.own n xs)) (kM:∀x∈xs,x.length=k)
 {us:agK agO} (hr:Rd G.S w k ys us) (hs:Src P k tx v ys.length us w) (td:xs.length+ys.length<=maxLen) (mi:(xs.length+ys.length)*cq<=140737488355328):
 ∃r w' G',(Builtin.append_ #[T,tx] ty #[u,v]).run P w= .ok r w'/\a7 G.N G w G' w'/\G.N<=G'.N/\bg G' w' (h.set n (.front e k (xs.length+ys.length)))/\ax G' w' r (.own n (xs++ys)):=by
 subst lB;subst tS;have lL:=hi.lt hn;obtain⟨jY,Np,hbr⟩:=hi.b6 n _ hn;obtain⟨hp,Rc⟩:cx G.S w u (.sl xs)/\u=G.sg n:=by
  cases hu with
  |own _ _ _ hp hle hf=>exact⟨hp,hf jY.symm⟩
 obtain⟨olds,wA,A,c,uW,iW,sM,hA⟩:=hp.rd eZ kM;have Iv:h.set n (.front e i.size (xs.length+0))=h:=by
  rw[Nat.add_zero];refine List.ext_getElem? λm=> ?_;by_cases em:m=n
  ·subst em;rw[agp (afV.1 hn).1,hn]
  ·rw[agu (Ne.symm em)]
 by_cases hy:ys.length=0
 ·have jg:ys=[]:=List.eq_nil_of_length_eq_zero hy;subst jg;have jI:us=[]:=List.eq_nil_of_length_eq_zero (by rw[hr.len];simp);subst jI;have:=run_append_nothing (P:=P) w T tx ty e i hT iZ A xs.length c iW v hs;refine⟨u,w,G,by rw[uW];exact this,a7.refl _ _ _,af6 _,?_,by rw[agh];exact hu⟩;simp only[af7];rw[Iv];exact hi
 ·have hy0:0<ys.length:=Nat.pos_of_ne_zero hy;have Hi:xs.length+ys.length<=9223372036854775807:=by simp only[maxLen]at td;omega
  have IX:Rd G.S w i.size (xs++ys) (olds++us):=wA.append hr;have grow:c<xs.length+ys.length->∃r w' G',(Builtin.append_ #[T,tx] ty #[u,v]).run P w= .ok r w'/\a7 G.N G w G' w'/\G.N<=G'.N/\bg G' w' (h.set n (.front e i.size (xs.length+ys.length)))/\ax G' w' r (.own n (xs++ys)):=by
   intro hg;have hold:(Builtin.firstCells i.size xs.length (.slice A xs.length c)).run P w.drew= .ok olds.toArray w.drew:=by
    by_cases hx:xs=[]
    ·subst hx;have:olds=[]:=List.eq_nil_of_length_eq_zero (by rw[wA.len];simp);subst this;cases A with
     |none=>exact run_firstCells_none _ _ _ _ _
     |some a=>exact run_firstCells_some _ _ _ _ _ _ [] (by simp) (λj u hu=>by simp at hu)
    ·obtain⟨b,o,rfl,hc⟩:=hA hx;exact run_firstCells_some _ _ _ _ _ _ olds wA.len (λj u hu=>by rw[js];exact(hc j u hu).2)
   have cG:=run_append_grow_src (P:=P) w T tx ty e i z hT iZ hz A xs.length c olds hold v ys.length us hs hg (by omega) (growslice_fits hg mi);obtain⟨cap,iy⟩:∃cap,cap=grownCap w (xs.length+ys.length) c e:=⟨_,rfl⟩;have iN:xs.length+ys.length<=cap:=by rw[iy];exact grownCap_ge _ _ _ _
   have hle:cap<=maxLen:=by rw[iy];exact grownCap_le_maxLen _ _ _ _ td
   rw[<-iy]at cG;obtain⟨cur,ir⟩:∃cur,cur=(olds++us).toArray++Builtin.zeroCells z.cells (cap-(xs.length+ys.length)):=⟨_,rfl⟩;rw[<-ir]at cG;obtain⟨w',dq⟩:∃w',w'=w.drew.alloc (.cells cur e):=⟨_,rfl⟩;rw[<-dq]at cG;have eN:cur.size=cap*i.size:=by
     have:=size_zeroCells z.cells (cap-(xs.length+ys.length));rw[ir,Array.size_append,this,List.size_toArray,IX.len,ik,afW,<-Nat.add_mul]
     congr 1
     omega
   have eo:w'.heap[w.heap.size]?=some (.cells cur e (0,0)):=by rw[dq];exact World.alloc_heap_new w.drew _
   have J9:∀b,b<w.heap.size->w'.heap[b]?=w.heap[b]?:=λb hb=>by rw[dq];exact Below.heap_alloc w.drew _ b hb
   have eQ:w'.heap.size=w.heap.size+1:=by rw[dq];simp
   obtain⟨S,hS⟩:∃S:Nat->Nat->Prop,S=λb o=>G.S b o\/(b=w.heap.size/\o<(xs.length+ys.length)*i.size):=⟨_,rfl⟩;have fQ:∀b o,G.S b o->w'.cell? ⟨b,o,none⟩=w.cell? ⟨b,o,none⟩:=λb o hs=>World.cell?_of_block (J9 b (hi.S b o hs));have hE:a7 G.N G w (G.grow n S (.slice (some ⟨w.heap.size,0,none⟩) (xs.length+ys.length) cap) (xs.length+ys.length) (some w.heap.size)) w':=
    ⟨by rw[eQ];exact Nat.le_succ _,λb o h=>by show S b o;rw[hS];exact .inl h,fQ,λ_ _=>rfl,
     λm _=>by
      by_cases em:m=n
      ·right;subst em;simp only[Gh.grow,if_true,jY];omega
      ·left;exact⟨by simp [Gh.grow,em],by simp [Gh.grow,em]⟩,
     fi rfl,λb hb=>J9 b (hi.z b hb),by rw[dq];rfl,by rw[dq];rfl,by rw[dq];rfl,λb o hs=>by
      have bR:S b o:=hs;rw[hS]at bR;rcases bR with h|⟨rfl,_⟩
      ·exact .inl h
      ·exact .inr λhz=>agA _ (hi.z _ hz)⟩
   have hP:cx S w' (.slice (some ⟨w.heap.size,0,none⟩) (xs++ys).length cap) (.sl (xs++ys)):=by
    refine(IX.aG (S':=S) (w':=w') (λb o h=>by rw[hS];exact .inl h) fQ).Fa w.heap.size cap (by rw[afW];exact iN) hle (λo ho=>by rw[hS];exact .inr ⟨rfl,by rw[afW]at ho;exact ho⟩) (λo x ho=> ?_);rw[cell_of_row w' w.heap.size o cur e (0,0) eo,ir,Array.getElem?_append_left (by simp only[List.size_toArray];exact(afV.1 ho).1),List.getElem?_toArray];exact ho
   rw[afW]at hP;refine⟨_,w',_,by rw[uW];exact cG,hE,af6 _,Qo hi hn S _ w.heap.size hE (.inl rfl) (by rw[eQ];exact agI _) (λb o hs=> ?_) (λb hb _=>J9 b hb) ?_,?_⟩
   ·rw[hS]at hs;exact hs.imp id And.left
   ·refine⟨by simp [Gh.grow],td, .inr ⟨w.heap.size,cap,cur,by simp [Gh.grow],by simp [Gh.grow],λhz=>agA _ (hi.z _ hz),eo,iN,hle,eN,λo ho hs=> ?_⟩⟩;have bR:S w.heap.size o:=hs;rw[hS]at bR;rcases bR with bR|⟨_,bR⟩
    ·have:=hi.S _ _ bR;omega
    ·omega
   ·exact .own n (xs++ys) lL hP (by simp [Gh.grow]) (λ_=>by simp [Gh.grow])
  rcases hbr with⟨iT,A',jh⟩|⟨g,cap,cur,iT,jh,vA,nF,IB,J6,S0,Rq⟩
  ·refine grow ?_;rw[Rc,jh]at uW;cases uW
   omega
  ·have OF:=uW;rw[Rc,jh]at OF;injection OF with UR _ e1;have e2:=e1.symm;subst e2;subst UR;by_cases lA:xs.length+ys.length<=c
   ·
    have jL:xs.length*i.size+us.length<=cur.size:=by rw[hr.len,S0,<-Nat.add_mul];exact Nat.mul_le_mul_right _ lA
    have xS:∀o,w.cell? ⟨g,o,none⟩=cur[o]?:=λo=>cell_of_row w g o cur e (0,0) nF;have wE:∀j,j<us.length->(w.cell? ⟨g,0+xs.length*i.size+j,none⟩).isSome=true:=λj hj=>by
     rw[xS,agf,agi (by omega)];rfl
    have cG:=run_append_room_src (P:=P) w T tx ty e i hT iZ g 0 xs.length c v ys.length us hs lA wE
     (λj hj=>by unfold World.frozen?;rw[nF];simp)
    rw[agf]at cG wE;obtain⟨w',dq⟩:∃w',w'=w.setCells g (xs.length*i.size) us:=⟨_,rfl⟩;rw[<-dq]at cG;have aau:g<w.heap.size:=(aga.1 nF).1;have jo:=run_storeCells_at P g (xs.length*i.size) e us 0 cur w nF (by simpa using jL) hs.one;have um:=run_storeCells_cells (P:=P) g (xs.length*i.size) us 0 w (by simpa using wE) (λj hj=>by unfold World.frozen?;rw[nF];simp) hs.one;simp only[Nat.add_zero]at jo um;rw[jo]at um;have tL:w'=w.setRow g (cur.toList.take (xs.length*i.size)++us++cur.toList.drop (xs.length*i.size+us.length)).toArray:=by
      rw[dq];injection um with _ e2;exact e2.symm
    obtain⟨jf,JN⟩:∃jf:Array agO,jf=(cur.toList.take (xs.length*i.size)++us++cur.toList.drop (xs.length*i.size+us.length)).toArray:=⟨_,rfl⟩;rw[<-JN]at tL;have lM:w'.heap[g]?=some (.cells jf e (0,0)):=by rw[tL];exact setRow_heap w g cur jf e _ nF
    have ga:∀b,b≠g->w'.heap[b]?=w.heap[b]?:=λb hb=>by rw[tL];exact setRow_other w g b jf hb
    have eQ:w'.heap.size=w.heap.size:=by rw[tL];exact Gq w g jf
    have fy:∀o,jf[o]?=if o<xs.length*i.size then cur[o]? else if o<xs.length*i.size+us.length then us[o-xs.length*i.size]? else cur[o]?:=λo=>by
     rw[JN,List.getElem?_toArray,agc];have hl:cur.toList.length=cur.size:=agt;by_cases h1:o<xs.length*i.size
     ·rw[if_pos h1,af5 (by simp;omega),List.getElem?_take_of_lt h1,agj]
     ·rw[if_neg h1,agb (by simp;omega)];simp only[List.length_take,hl];rw[Nat.min_eq_left (by omega)];by_cases h2:o<xs.length*i.size+us.length
      ·rw[if_pos h2,af5 (by omega)]
      ·rw[if_neg h2,agb (by omega),List.getElem?_drop,show xs.length*i.size+us.length+(o-xs.length*i.size-us.length)=o by omega,agj]
    have V1:jf.size=cur.size:=by
     rw[JN];simp only[List.size_toArray,afW,List.length_take,List.length_drop,agt];omega
    have fQ:∀b o,G.S b o->w'.cell? ⟨b,o,none⟩=w.cell? ⟨b,o,none⟩:=λb o hs=>by
     by_cases eb:b=g
     ·subst eb;have ho:o<xs.length*i.size:=Nat.lt_of_not_le λhle=>Rq o hle hs;rw[xS,cell_of_row w' b o jf e (0,0) lM,fy,if_pos ho]
     ·exact World.cell?_of_block (ga b eb)
    obtain⟨S,hS⟩:∃S:Nat->Nat->Prop,S=λb o=>G.S b o\/(b=g/\o<(xs.length+ys.length)*i.size):=⟨_,rfl⟩;have hE:a7 G.N G w (G.grow n S (.slice (some ⟨g,0,none⟩) (xs.length+ys.length) c) (xs.length+ys.length) (some g)) w':=
     ⟨by rw[eQ];exact af6 _,λb o h=>by show S b o;rw[hS];exact .inl h,fQ,λ_ _=>rfl,
      λm _=>by
       by_cases em:m=n
       ·right;subst em;simp only[Gh.grow,if_true,jY];omega
       ·left;exact⟨by simp [Gh.grow,em],by simp [Gh.grow,em]⟩,
      fi rfl,λb hb=>ga b (λe=>vA (e▸hb)),by rw[tL];rfl,by rw[tL];rfl,by rw[tL];rfl,λb o hs=>by
       have bR:S b o:=hs;rw[hS]at bR;rcases bR with h|⟨rfl,_⟩
       ·exact .inl h
       ·exact .inr vA⟩
    have hP:cx S w' (.slice (some ⟨g,0,none⟩) (xs++ys).length c) (.sl (xs++ys)):=by
     refine(IX.aG (S':=S) (w':=w') (λb o h=>by rw[hS];exact .inl h) fQ).Fa g c (by rw[afW];exact lA) J6 (λo ho=>by rw[hS];exact .inr ⟨rfl,by rw[afW]at ho;exact ho⟩) (λo x ho=> ?_);rw[cell_of_row w' g o jf e (0,0) lM,fy];have iD:olds.length=xs.length*i.size:=wA.len;by_cases h1:o<xs.length*i.size
     ·rw[if_pos h1];rw[af5 (by omega)]at ho;have hx:xs≠ []:=λe=>by subst e;simp at h1
      obtain⟨b,o',eA,hc⟩:=hA hx;cases eA
      have:=(hc o x ho).2;rw[agf,xS]at this;exact this
     ·rw[if_neg h1];rw[agb (by omega),iD]at ho;have:=(afV.1 ho).1;rw[if_pos (by omega)];exact ho
    rw[afW]at hP;refine⟨_,w',_,by rw[uW];exact cG,hE,af6 _,Qo hi hn S _ g hE (.inr iT) (by rw[eQ];exact aau) (λb o hs=> ?_) (λb _ hb=>ga b hb) ?_,?_⟩
    ·rw[hS]at hs;exact hs.imp id And.left
    ·refine⟨by simp [Gh.grow],td, .inr ⟨g,c,jf,by simp [Gh.grow],by simp [Gh.grow],vA,lM,lA,J6,by rw[V1,S0],λo ho hs=> ?_⟩⟩;have bR:S g o:=hs;rw[hS]at bR;rcases bR with bR|⟨_,bR⟩
     ·exact Rq o (agd (Nat.mul_le_mul_right _ (agB _ _)) ho) bR
     ·omega
    ·exact .own n (xs++ys) lL hP (by simp [Gh.grow]) (λ_=>by simp [Gh.grow])
   ·exact grow (by omega)
def WF(r:agM Nat):Fence:={Fence.wide with round:=r}
def gw(N0:Nat)(G:Gh)(w:agP)(K:St->Prop)(a':Act)(w':agP):Prop:=∃G' s',a7 N0 G w G' w'/\N0<=G'.N/\bU G' w' a' s'/\K s'
section
variable {P:agN} {r:agM Nat} {n N0:Nat} {G:Gh} {w:agP} {a:Act} {s:St} {o:Oper} {K:St->Prop} {Q:Exit->Act->agP->Prop}
theorem kY(fm:∀c,o.op≠ .defer c)(hs:bU G w a s)(bE:N0<=G.N){v:agO}{x:J}{w':agP}{G':Gh}{h':agK aj}(hr:(execOp a.eval o).run P w= .ok (.value v) w')
 (hE:a7 G.N G w G' w') (hN:G.N<=G'.N) (hi:bg G' w' h') (hv:ax G' w' v x) (hK:K ((s.wh h').put o.dst x)):o.wpIn (WF r) n P a w (gw N0 G w K) Q:=by
 refine⟨λ_ _=>trivial,?_⟩;rw[Oper.semAt_eq _ _ _ fm,hr];exact⟨G',_,hE.less bE,agd bE hN,((hs.move hE hN hi).put hv o.dst),hK⟩
theorem dQ(fm:∀c,o.op≠ .defer c)(hs:bU G w a s)(bE:N0<=G.N){v:agO}{x:J}(hr:(execOp a.eval o).run P w= .ok (.value v) w)(hv:ax G w v x)(hK:K (s.put o.dst x)):
 o.wpIn (WF r) n P a w (gw N0 G w K) Q:=
 kY fm hs bE hr (a7.refl _ _ _) (af6 _) hs.inv hv hK
theorem HH(fm:∀c,o.op≠ .defer c)(hs:bU G w a s)(bE:N0<=G.N){w':agP}{G':Gh}{h':agK aj}(hr:(execOp a.eval o).run P w= .ok .skip w')
 (hE:a7 G.N G w G' w') (hN:G.N<=G'.N) (hi:bg G' w' h') (hK:K ((s.wh h').put o.dst (.d (.v undef)))):o.wpIn (WF r) n P a w (gw N0 G w K) Q:=by
 refine⟨λ_ _=>trivial,?_⟩;rw[Oper.semAt_eq _ _ _ fm,hr];exact⟨G',_,hE.less bE,agd bE hN,((hs.move hE hN hi).put (.d (.v undef)) o.dst),hK⟩
theorem Nq{t k:Nat}(h:eD P t=some k):∃i,P.info? t=some i/\i.size=k:=by
 unfold eD at h;cases hq:P.info? t with
 |none=>rw[hq]at h;cases h
 |some i=>rw[hq]at h;exact⟨i,rfl,by simpa using h⟩
theorem DW{t:Nat}{z:agO}(h:gi P t=some z):∃i,P.info? t=some i/\i.zero=some z:=by
 unfold gi at h;cases hq:P.info? t with
 |none=>rw[hq]at h;cases h
 |some i=>rw[hq]at h;exact⟨i,rfl,by simpa using h⟩
theorem Cg{t:Nat}{z:agO}(h:gi P t=some z)(w:agP):(zeroValue t).run P w= .ok z w:=by
 obtain⟨i,h1,h2⟩:=DW h;simp [zeroValue,typeInfo,h1,h2]
theorem jX{t k:Nat}(h:eD P t=some k)(w:agP):(sizeOf t).run P w= .ok k w:=by
 obtain⟨i,h1,h2⟩:=Nq h;simp [sizeOf,typeInfo,h1,h2]
theorem xl{t:Nat}{g:Bool}(h:jS P t=some g)(w:agP):(isAgg t).run P w= .ok g w:=by
 unfold jS at h;cases hq:P.underlying t with
 |none=>rw[hq]at h;cases h
 |some d=>
  rw[hq]at h;unfold isAgg;rw[Sem.run_bind,run_underlying hq w];simp only[Option.map_some,Option.some.injEq]at h;subst h;cases d<;>rfl
theorem ZC{t:Nat}(h:jS P t=some true):∃d,P.underlying t=some d/\d.isRow=true:=by
 unfold jS at h;cases hq:P.underlying t with
 |none=>rw[hq]at h;cases h
 |some d=>rw[hq]at h;refine⟨d,rfl,?_⟩;cases d<;>simp_all [TypeDesc.isRow]
theorem N1{t:Nat}{C:J->Prop}:∀(b o:Nat)(cs:agK J)(off:Nat)(us:Nat->agO),(∀j,j<cs.length->w.cell? ⟨b,o+j,none⟩=some (us j))->(∀(j:Nat)(c:J),cs[j]?=some c->ax G w (us j) c)->
 (match jS P t,eD P t with
  |some true,some k=>eW (bB (off+k) cs.length) (C (.agg ((cs.drop off).take k)))
  |some false,some _=>match cs[off]? with
   |some c=>C c
   |none=>False
  |_,_=>False)->∃u x,(loadVar t ⟨b,o+off,none⟩).run P w= .ok u w/\ax G w u x/\C x:=by
 intro b o cs off us h1 h2 h3;split at h3
 ·rename_i k hg hk
  obtain⟨hlen,hC⟩:=bf.1 h3;rw[cN]at hlen;obtain⟨d,yF,kA⟩:=ZC hg;have BI:((List.range k).map λj=>us (off+j)).length=k:=by simp
  have cG:=run_loadVar_mid (P:=P) w b (o+off) t ((List.range k).map λj=>us (off+j)) d (λj u hu=>by
   rw[af2]at hu;by_cases hj:j<k
   ·rw[List.getElem?_range hj]at hu;simp only[Option.map_some,Option.some.injEq]at hu;subst hu;have:=h1 (off+j) (by omega)
    rwa [<-Nat.add_assoc]at this
   ·rw[ags (by simp;omega)]at hu;cases hu) yF kA (by rw[BI];exact hk)
  refine⟨_,_,cG, .agg _ _ (by simp;omega) λi u c hu hc=> ?_,hC⟩;rw[List.getElem?_toArray,af2]at hu;rw[List.getElem?_take]at hc;split at hc
  ·rename_i lB
   rw[List.getElem?_range lB]at hu;simp only[Option.map_some,Option.some.injEq]at hu;subst hu;rw[List.getElem?_drop]at hc;exact h2 (off+i) c hc
  ·cases hc
 ·rename_i k hg hk
  split at h3
  ·rename_i c hc
   refine⟨us off,c,?_,h2 off c hc,h3⟩;unfold loadVar;rw[Sem.run_bind,xl hg w];simp only[Result.andThen_ok,Bool.false_eq_true,if_false];unfold load;simp only[Sem.run,h1 off (afV.1 hc).1]
  ·exact h3.elim
 ·exact h3.elim
theorem No{t:Nat}{p:J}{v:agO}{C:J->Prop}(hi:bg G w s.h)(hv:ax G w v p)(h:lH P t s.h p C):∃u x,(Instr.loadAt t v).run P w= .ok u w/\ax G w u x/\C x:=by
 have key:=N1 (P:=P) (G:=G) (w:=w) (t:=t) (C:=C);unfold lH oK at h;cases p with
 |ptr m off=>
  simp only at h;split at h
  ·rename_i cs hm
   obtain⟨_,_,vs,T,hh,hl,hr⟩:=hi.b6 m _ hm;cases hv with
   |ptr _ _ uo=>
    obtain⟨u,x,h1,h2,h3⟩:=key (G.aF m) 0 cs off (λj=>vs.getD j undef) (λj hj=>by
     have fI:j<vs.size:=by rw[hl];exact hj
     rw[agf,cell_of_row w (G.aF m) j vs T (0,0) hh];simp [Array.getD,fI]) (λj c hc=>by
     have fI:j<vs.size:=by rw[hl];exact(afV.1 hc).1
     exact hr j _ c (by simp [Array.getD,fI]) hc) h
    rw[agf]at h1;exact⟨u,x,by simp [Instr.loadAt,Instr.sureAddr,h1],h2,h3⟩
  ·exact h.elim
 |aY xs i off=>
  simp only at h;split at h
  ·rename_i cs eN
   cases hv with
   |aY _ _ _ b o us x hx hS hu=>
    rw[hx]at eN;cases eN
    obtain⟨u,y,h1,h2,h3⟩:=key b o (cs.map .d) off us (λj hj=>(hS j (by simpa using hj)).2) (λj c hc=>by
     rw[af2]at hc;cases hd:cs[j]? with
     |none=>rw[hd]at hc;cases hc
     |some d=>rw[hd]at hc;cases hc;exact .d (hu j d hd)) h
    exact⟨u,y,by simp [Instr.loadAt,Instr.sureAddr,h1],h2,h3⟩
  ·exact h.elim
 |_=>exact h.elim
theorem ax.list{u:agO}{x:J}{xs:agK (agK D)}(h:ax G w u x)(hx:x.ep=some xs):cx G.S w u (.sl xs):=by
 unfold J.ep at hx;split at hx
 ·cases hx;cases h with|d h=>exact h
 ·cases hx;cases h with|own _ _ _ h=>exact h
 ·cases hx;cases h with|full _ h=>exact h
 ·cases hx
  cases h with
  |d h=>
   cases h with
   |v=>exact .sl none 0 0 0 0 [] (λ_ _=>undef) (λh=>absurd rfl h) (af6 _) (by simp) (λ_ h=>by cases h) (λi j hi=>by simp at hi) (λi j x d hx=>by simp at hx)
 ·cases hx
theorem ax.int{u:agO}{x:J}{z:Int}(h:ax G w u x)(hx:x.int?=some z):∃k,u= .int k z:=by
 unfold J.int? at hx;split at hx
 ·rename_i k m
  cases hx
  cases h with
  |d h=>cases h with|v=>exact⟨k,rfl⟩
 ·cases hx
theorem ax.bool{u:agO}{t:Bool}(h:ax G w u (.d (.v (.bool t)))):u= .bool t:=by
 cases h with|d h=>cases h with|v=>rfl
theorem ax.val{u v:agO}(h:ax G w u (.d (.v v))):u=v:=by
 cases h with|d h=>cases h with|v=>rfl
theorem elmT_spec{T e k:Nat}(h:dn P T=some (e,k)):P.underlying T=some (.slice e)/\eD P e=some k:=by
 unfold dn at h;split at h
 ·rename_i e' he
  cases hq:eD P e' with
  |none=>rw[hq]at h;cases h
  |some k'=>rw[hq]at h;simp at h;obtain⟨rfl,rfl⟩:=h;exact⟨he,hq⟩
 ·cases h
theorem IS{T m e k:Nat}(h:rj P T=some (m,e,k)):P.underlying T=some (.array m e)/\eD P e=some k:=by
 unfold rj at h;split at h
 ·rename_i m' e' he
  cases hq:eD P e' with
  |none=>rw[hq]at h;cases h
  |some k'=>rw[hq]at h;simp at h;obtain⟨rfl,rfl,rfl⟩:=h;exact⟨he,hq⟩
 ·cases h
theorem aay{T:Nat}{x i:J}{u v:agO}{C:J->Prop}(hu:ax G w u x)(hv:ax G w v i)(h:pN P T x i C):∃p y,(Instr.indexAt T u v).run P w= .ok p w/\ax G w p y/\C y:=by
 unfold pN at h;split at h
 ·rename_i e k hT
  obtain⟨dX,eC⟩:=elmT_spec hT;split at h
  ·rename_i m off len cap k'
   split at h
   ·rename_i z hz
    obtain⟨ri,h0,az,hC⟩:=bf.1 h;rw[beq_iff_eq]at ri;subst ri;obtain⟨kz,rfl⟩:=hv.int hz;cases hu with
    |row _ _ _ _ _ hm hl mI=>
     have hN:(z.toNat:Int)=z:=Int.toNat_of_nonneg h0;refine⟨_,_,?_, .ptr m (off+z.toNat*k') hm,hC⟩;simp [Instr.indexAt,asIntOf,run_underlying dX,h0,az,jX eC,js]
   ·exact h.elim
  ·split at h
   ·rename_i xs z jn hz
    obtain⟨h0,h⟩:=h;obtain⟨kz,rfl⟩:=hv.int hz;split at h
    ·rename_i c hc
     obtain⟨hk,hC⟩:=h;obtain⟨A,b,o,cc,k',us,rfl,hA,iW,sM,kt,hS,jI⟩:=(hu.list jn).mL;have az:z.toNat<xs.length:=(afV.1 hc).1;have bQ:xs≠ []:=λe=>by subst e;simp at az
     have ek:k'=k:=by rw[<-kt c (af8 hc),hk]
     subst ek;rw[hA bQ];have IT:z<(xs.length:Int):=by omega
     refine⟨_, .aY [c] 0 0,?_, .aY [c] 0 0 b (o+z.toNat*k') (us z.toNat) c rfl (λj hj=> ?_) (λj d hd=>jI _ _ _ _ hc hd),hC⟩
     ·simp [Instr.indexAt,asIntOf,run_underlying dX,h0,IT,jX eC,js]
     ·have:=hS z.toNat j az (by rw[hk]at hj;exact hj);exact⟨this.1,this.2.1⟩
    ·exact h.elim
   ·exact h.elim
 ·split at h
  ·rename_i m e k b off z hT hz
   obtain⟨h0,az,hC⟩:=h;obtain⟨dX,eC⟩:=IS hT;obtain⟨kz,rfl⟩:=hv.int hz;cases hu with
   |ptr _ _ hb=>
    refine⟨_,_,?_, .ptr b (off+z.toNat*k) hb,hC⟩;simp [Instr.indexAt,Instr.sureAddr,asIntOf,run_underlying dX,h0,az,jX eC,js]
  ·rename_i m e k xs i' off z hT hz
   obtain⟨qa,h0,az,h9⟩:=bf.1 h;rw[beq_iff_eq]at qa;subst qa;obtain⟨dX,eC⟩:=IS hT;obtain⟨kz,rfl⟩:=hv.int hz;split at h9
   ·rename_i c hc
    split at h9
    ·rename_i d hd
     cases hu with
     |aY _ _ _ b o us c' fy hS jI=>
      rw[hc]at fy;cases fy
      have aaS:=(afV.1 hd).1;refine⟨_, .aY [[d]] 0 0,?_, .aY [[d]] 0 0 b (o+(off+z.toNat)) (λ_=>us (off+z.toNat)) [d] rfl (λj hj=> ?_) (λj d' gz=> ?_),h9⟩
      ·simp [Instr.indexAt,Instr.sureAddr,asIntOf,run_underlying dX,h0,az,jX eC,js,Nat.add_assoc]
      ·simp at hj;subst hj;exact hS _ aaS
      ·match j with
       |0=>simp at gz;subst gz;exact jI _ _ hd
       |j+1=>simp at gz
    ·exact h9.elim
   ·exact h9.elim
  ·exact h.elim
theorem pe{T:Nat}(h:fu P T=true):P.underlying T=some .string:=by
 unfold fu at h;split at h
 ·assumption
 ·cases h
theorem ae7{T:Nat}{x:J}{u:agO}{ty:Nat}{C:Nat->Prop}(hu:ax G w u x)(h:od P T x C):∃m:Nat,(Builtin.len_ #[T] ty #[u]).run P w= .ok (.int .i64 m) w/\C m:=by
 have Ep:∀(A:agM Addr)(l c:Nat),(dn P T).isSome=true->(Builtin.len_ #[T] ty #[.slice A l c]).run P w= .ok (.int .i64 l) w:=by
  intro A l c hT;obtain⟨⟨e,k⟩,hT⟩:=Option.isSome_iff_exists.1 hT;simp [Builtin.len_,run_underlying (elmT_spec hT).1,goInt]
 unfold od at h;split at h
 ·rename_i b
  have:=hu.val;subst this;obtain⟨hT,hC⟩:=bf.1 h;exact⟨b.size,by simp [Builtin.len_,run_underlying (pe hT),goInt],hC⟩
 ·cases hu with
  |row=>exact⟨_,Ep _ _ _ (bf.1 h).1,(bf.1 h).2⟩
 ·split at h
  ·rename_i xs jn
   obtain⟨A,b,o,c,k,us,rfl,_⟩:=(hu.list jn).mL;exact⟨_,Ep _ _ _ (bf.1 h).1,(bf.1 h).2⟩
  ·exact h.elim
def wX(a:Act)(x:agM Operand)(d m:Nat):Prop:=match x with|none=>m=d|some y=>∃k z,a.eval y= .int k z/\0<=z/\m=z.toNat
theorem rQ{x:agM Operand}{d:Nat}{C:Nat->Prop}(hs:bU G w a s)(h:optInt (ev s) x d C):∃m,C m/\wX a x d m:=by
 cases x with
 |none=>exact⟨_,h,rfl⟩
 |some y=>
  unfold optInt at h;simp only at h;split at h
  ·rename_i z hz
   obtain⟨k,hk⟩:=(hs.ev y).int hz;exact⟨_,h.2,k,z,hk,h.1,rfl⟩
  ·exact h.elim
theorem vP{k:IntKind}{z:Int}{y:Nat}{code:BoundsCode}(h0:0<=z)(h:z.toNat<=y)(w:agP):(Instr.sliceBound (.int k z) y code).run P w= .ok z.toNat w:=by
 have:z<=(y:Int):=by omega
 simp [Instr.sliceBound,asIntOf,h0,this]
theorem x7{lo hi:agM Operand}{len cap l h:Nat}{uH:Bool}(iD:wX a lo 0 l)(n3:wX a hi len h)(hl:l<=h)(hh:h<=cap)(w:agP):
 (Instr.sliceBounds uH len cap (lo.map a.eval) (hi.map a.eval) none).run P w= .ok (l,h,cap) w:=by
 unfold wX at iD n3;cases lo with
 |none=>
  subst iD;cases hi with
  |none=>subst n3;simp [Instr.sliceBounds]
  |some y=>
   obtain⟨k,z,e,h0,rfl⟩:=n3;simp [Instr.sliceBounds,e,vP h0 hh]
 |some x=>
  obtain⟨k',z',e',RG,rfl⟩:=iD;cases hi with
  |none=>subst n3;simp [Instr.sliceBounds,e',vP RG hl]
  |some y=>
   obtain⟨k,z,e,h0,rfl⟩:=n3;simp [Instr.sliceBounds,e,e',vP h0 hh,vP RG hl]
theorem cx.part{S:Nat->Nat->Prop}{v:agO}{xs:agK (agK D)}{k:Nat}(hp:cx S w v (.sl xs))(hk:∀c∈xs,c.length=k){l h:Nat}(hl:l<=h)(hh:h<=xs.length):
 ∃A c,v= .slice A xs.length c/\xs.length<=c/\cx S w (.slice (if c=l then A else A.map (·.add (l*k))) (h-l) (c-l)) (.sl ((xs.take h).drop l)):=by
 obtain⟨A,b,o,c,k',us,rfl,hA,iW,sM,kt,hS,jI⟩:=hp.mL;refine⟨A,c,rfl,iW,?_⟩;have hlen:((xs.take h).drop l).length=h-l:=by simp;omega
 rw[<-hlen];by_cases hx:xs=[]
 ·subst hx;have e:((([]:agK (agK D)).take h).drop l)=[]:=by simp
  rw[e];exact .sl _ 0 0 (c-l) 0 [] (λ_ _=>undef) (λh=>absurd rfl h) (Nat.zero_le _) (by omega) (λ_ h=>by cases h) (λi j hi=>by simp at hi) (λi j x d hx=>by simp at hx)
 ·have ek:k'=k:=by
   obtain⟨x,lE⟩:=List.exists_mem_of_ne_nil xs hx;rw[<-kt x lE,hk x lE]
  subst ek;have dt:∀i,i<h-l->((xs.take h).drop l)[i]?=xs[l+i]?:=λi hi=>by
   rw[List.getElem?_drop,List.getElem?_take_of_lt (by omega)]
  refine .sl _ b (o+l*k') (c-l) k' _ (λi j=>us (l+i) j) (λbQ=> ?_) (by rw[hlen];omega) (by omega) (λx hx=>hk x (List.mem_of_mem_take (List.mem_of_mem_drop hx))) (λi j hi hj=> ?_) (λi j x d hx hd=> ?_)
  ·have IJ:0<((xs.take h).drop l).length:=List.length_pos_iff.2 bQ;rw[hlen]at IJ;rw[if_neg (by omega),hA hx];simp [js]
  ·rw[hlen]at hi;have:=hS (l+i) j (by omega) hj;rw[Nat.add_mul,<-Nat.add_assoc]at this;exact this
  ·have hi:=(afV.1 hx).1;rw[hlen]at hi;rw[dt i hi]at hx;exact jI _ _ _ _ hx hd
theorem VZ{T:Nat}{x:J}{u:agO}{lo hi mx:agM Operand}{C:J->Prop}(hs:bU G w a s)(hu:ax G w u x)(h:q6 P T (ev s) x lo hi mx C):
 ∃p y,(Instr.sliceAt T u (lo.map a.eval) (hi.map a.eval) (mx.map a.eval)).run P w= .ok p w/\ax G w p y/\C y:=by
 unfold q6 at h;split at h
 ·split at h
  ·rename_i b
   obtain⟨hT,h⟩:=bf.1 h;have hT:=pe hT;have:=hu.val;subst this;obtain⟨m,h,hm⟩:=rQ hs h;obtain⟨sF,h⟩:=h;obtain⟨l,h,hl⟩:=rQ hs h;obtain⟨oP,h⟩:=h;refine⟨_,_,?_, .d (.v _),h⟩;have hb:=x7 (P:=P) (uH:=false) hl hm oP sF w;simp [Instr.sliceAt,Instr.slice,run_underlying hT,hb]
  ·rename_i m off
   split at h
   ·rename_i c e k hT
    rw[bf,cN]at h;obtain⟨sM,h⟩:=h;have sM:c<=maxLen:=by unfold maxLen;omega
    obtain⟨dX,eC⟩:=IS hT;obtain⟨hh,h,hm⟩:=rQ hs h;obtain⟨sF,h⟩:=bf.1 h;rw[cN]at sF;obtain⟨l,h,hl⟩:=rQ hs h;obtain⟨oP,h⟩:=bf.1 h;simp only[afX,cN,Bool.not_eq_true',<-Bool.not_eq_true,Nat.not_le]at oP;obtain⟨oP,iW⟩:=oP;have hb:=x7 (P:=P) (uH:=false) hl hm oP sF w;cases hu with
    |ptr _ _ uo=>
     refine⟨_,_,?_, .row m (off+l*k) (hh-l) (c-l) k uo (by omega) (by omega),h⟩;simp [Instr.sliceAt,Instr.sureAddr,run_underlying dX,hb,jX eC,js,Nat.ne_of_gt iW]
   ·exact h.elim
  ·split at h
   ·rename_i xs e k jn hT
    obtain⟨hk,h⟩:=h;obtain⟨dX,eC⟩:=elmT_spec hT;obtain⟨hh,h,hm⟩:=rQ hs h;obtain⟨sF,h⟩:=h;obtain⟨l,h,hl⟩:=rQ hs h;obtain⟨oP,h⟩:=h;obtain⟨A,c,rfl,iW,hp⟩:=(hu.list jn).part hk oP sF;have hb:=x7 (P:=P) (uH:=true) hl hm oP (agd sF iW) w;refine⟨_,_,?_, .d hp,h⟩;simp [Instr.sliceAt,Instr.slice,run_underlying dX,hb,jX eC]
   ·exact h.elim
 ·rename_i y
  split at h
  case h_2=>exact h.elim
  rename_i yh
  split at h
  ·rename_i xs e k jn hT
   obtain⟨hk,h⟩:=h;obtain⟨dX,eC⟩:=elmT_spec hT;obtain⟨c',h3,hc⟩:=rQ hs h;obtain⟨e9,h3⟩:=h3;obtain⟨hh,h4,hm⟩:=rQ hs h3;obtain⟨rfl,h5⟩:=h4;clear h h3;obtain⟨k1,z1,e1,p1,q1⟩:=hc;obtain⟨k2,z2,e2,p2,q2⟩:=hm;obtain⟨A,c,rfl,iW,hp⟩:=(hu.list jn).part hk (Nat.zero_le hh) e9;have W9:cx G.S w (.slice A hh hh) (.sl (xs.take hh)):=by
    have h1:(if c=0 then A else A.map (·.add (0*k)))=A:=by
     split
     ·rfl
     ·cases A<;>simp [Addr.add]
    rw[h1,agv]at hp;obtain⟨A',b,o,c2,k',us,e,r1,r2,r3,r4,r5,r6⟩:=hp.mL;have hl:(xs.take hh).length=hh:=by simp;omega
    injection e with eA e3 e4;subst eA;have:=cx.sl (S:=G.S) (w:=w) A b o hh k' (xs.take hh) us r1 (by omega) (by omega) r4 r5 r6
    rwa [hl]at this
   refine⟨.slice A hh hh, .full (xs.take hh),?_, .full _ W9 ⟨A,by simp;omega⟩,h5⟩;have b1:(Instr.sliceBound (.int k1 z1) c .slice3Acap).run P w= .ok hh w:=by rw[vP p1 (by omega),q1]
   have b2:(Instr.sliceBound (.int k2 z2) hh .slice3B).run P w= .ok hh w:=by rw[vP p2 (by omega),<-q2]
   simp only[Option.map_some,Option.map_none,e1,e2];have hA:A.map (·.add 0)=A:=by cases A<;>simp [Addr.add]
   simp [Instr.sliceAt,Instr.slice,Instr.sliceBounds,run_underlying dX,b1,b2,jX eC,hA]
  ·exact h.elim
theorem Ju:∀{cs:agK J}{ds:agK D},lv cs=some ds->ds.length=cs.length/\∀(i:Nat)(c:J)(d:D),cs[i]?=some c->ds[i]?=some d->c.s4=some d
 |[],ds,h=>by simp [lv]at h;subst h;simp
 |c::cs,ds,h=>by
  unfold lv at h;split at h
  ·rename_i d l hd hl
   cases h
   obtain⟨h1,h2⟩:=Ju hl;refine⟨by simp [h1],λi c' d' hc gz=> ?_⟩
   match i with
   |0=>simp at hc gz;subst hc;subst gz;exact hd
   |i+1=>exact h2 i c' d' (by simpa using hc) (by simpa using gz)
  ·cases h
theorem cx.vj{S:Nat->Nat->Prop}{w:agP}{u:agO}{x:D}(h:cx S w u x):cx S w u x.vj:=by
 unfold D.vj;split
 ·cases h with
  |v=>exact .sl none 0 0 0 0 [] (λ_ _=>undef) (λh=>absurd rfl h) (af6 _) (Nat.zero_le _) (λ_ h=>absurd h agC) (λi j hi=>absurd hi (ago _)) (λi j x d hx=>by simp at hx)
 ·exact h
theorem ax.GR{u:agO}{x:J}{d:D}(h:ax G w u x)(hx:x.s4=some d):cx G.S w u d:=by
 unfold J.s4 at hx;split at hx
 ·cases hx;cases h with|d h=>exact h.vj
 ·cases hx;cases h with|own _ _ _ h=>exact h
 ·cases hx;cases h with|full _ h=>exact h
 ·cases hx
theorem pH(k:Nat):∀(m:Nat)(l:agK D),(lC k m l).length=m
 |0,_=>rfl
 |m+1,l=>by simp [lC,pH k m]
theorem KI(k:Nat):∀(m:Nat)(l:agK D)(i:Nat),i<m->(lC k m l)[i]?=some ((l.drop (i*k)).take k)
 |0,_,_,h=>by omega
 |m+1,l,0,_=>by simp [lC]
 |m+1,l,i+1,h=>by
  have:=KI k m (l.drop k) i (by omega);rw[lC,agx,this,List.drop_drop,Nat.add_mul,Nat.one_mul,Nat.add_comm k]
theorem Pf{k m:Nat}{us:agK agO}{ds:agK D}(hl:ds.length=m*k)(hu:us.length=m*k)(h1:∀u∈us,u.oneCell'=true)
 (hr:∀(i:Nat)(u:agO)(d:D),us[i]?=some u->ds[i]?=some d->cx G.S w u d):Rd G.S w k (lC k m ds) us:=by
 have hb:∀i,i<m->(i+1)*k<=m*k:=λi hi=>Nat.mul_le_mul_right k hi;refine⟨by rw[pH,hu],λx hx=> ?_,h1,λi j x d hx hd=> ?_⟩
 ·obtain⟨i,hi⟩:=List.mem_iff_getElem?.1 hx;have Cz:i<m:=by have:=(afV.1 hi).1;rwa [pH]at this
  rw[KI k m ds i Cz]at hi;cases hi
  have:=hb i Cz;rw[Nat.add_mul]at this;simp;omega
 ·have Cz:i<m:=by have:=(afV.1 hx).1;rwa [pH]at this
  rw[KI k m ds i Cz]at hx;cases hx
  rw[List.getElem?_take]at hd;split at hd
  ·rw[List.getElem?_drop]at hd;have:=(afV.1 hd).1;have az:i*k+j<us.length:=by omega
   exact⟨us[i*k+j],afZ az,hr _ _ _ (afZ az) hd⟩
  ·cases hd
theorem acx{k U e':Nat}{y:J}{v:agO}{C:agK (agK D)->Prop}(hi:bg G w s.h)(hv:ax G w v y)(hk:0<k)(hU:P.underlying U=some (.slice e'))(h:qL s.h k y C):
 ∃ys us,Rd G.S w k ys us/\Src P k U v ys.length us w/\C ys:=by
 unfold qL at h;split at h
 ·rename_i m off len cap k'
  split at h
  ·rename_i cs hm
   split at h
   ·rename_i ds oz
    obtain⟨dw,hC⟩:=bf.1 h;simp only[afX,beq_iff_eq,cN]at dw;obtain⟨⟨rfl,hlen⟩,gu⟩:=dw;obtain⟨h1,h2⟩:=Ju oz;obtain⟨_,_,vs,T,hh,hl,hr⟩:=hi.b6 m _ hm;cases hv with
    |row _ _ _ _ _ uo iW mI=>
     have Vj:ds.length=len*k':=by rw[h1];simp;omega
     have l8:((vs.toList.drop off).take (len*k')).length=len*k':=by simp;omega
     have uM:∀(i:Nat)(u:agO)(c:J),((vs.toList.drop off).take (len*k'))[i]?=some u->((cs.drop off).take (len*k'))[i]?=some c->ax G w u c:=λi u c hu hc=>by
      rw[List.getElem?_take]at hu hc;split at hu
      ·rename_i lB
       rw[if_pos lB]at hc;rw[List.getElem?_drop]at hu hc;exact hr _ u c (by rw[<-agj];exact hu) hc
      ·cases hu
     have e9:((cs.drop off).take (len*k')).length=len*k':=by simp;omega
     have Rm:∀u∈(vs.toList.drop off).take (len*k'),u.oneCell'=true:=λu hu=>by
      obtain⟨i,hi⟩:=List.mem_iff_getElem?.1 hu;have iu:i<len*k':=by rw[<-l8];exact(afV.1 hi).1
      have xp:=afZ (l:=(cs.drop off).take (len*k')) (i:=i) (by rw[e9];exact iu);exact(uM i u _ hi xp).iJ (agm.1 gu _ (af8 xp))
     have w7:=Pf (G:=G) (w:=w) (k:=k') (m:=len) Vj l8 Rm (λi u d hu hd=>by
      have iu:i<len*k':=by rw[<-l8];exact(afV.1 hu).1
      have xp:=afZ (l:=(cs.drop off).take (len*k')) (i:=i) (by rw[e9];exact iu);exact(uM i u _ hu xp).GR (h2 i _ d xp hd))
     refine⟨_,_,w7,?_,hC⟩;rw[pH];refine Src.ofSlice w hU _ len cap _ l8 (λj u hu=> ?_) Rm;rw[List.getElem?_take]at hu;split at hu
     ·rw[List.getElem?_drop,agj]at hu;rw[js,cell_of_row w _ _ vs T (0,0) hh];exact hu
     ·cases hu
   ·exact h.elim
  ·exact h.elim
 ·split at h
  ·rename_i ys jg
   obtain⟨us,h1,h2⟩:=(hv.list jg).src (P:=P) hk h.1 hU;exact⟨ys,us,h1,h2,h.2⟩
  ·exact h.elim
theorem yo:cx G.S w (.slice none 0 0) (.sl []):=
 .sl none 0 0 0 0 [] (λ_ _=>undef) (λh=>absurd rfl h) (af6 _) (by simp) (λ_ h=>by cases h) (λi j hi=>by simp at hi) (λi j x d hx=>by simp at hx)
theorem ach(h:agK aj)(x y:aj):(h++[x]).set h.length y=h++[y]:=by simp
theorem TJ{T U ty e':Nat}{x y:J}{u v:agO}{C:J->agK aj->Prop}(hi:bg G w s.h)(hu:ax G w u x)(hv:ax G w v y)(hU:P.underlying U=some (.slice e'))(h:sb P T s.h x y C):
 ∃p w' G' q h',(Builtin.append_ #[T,U] ty #[u,v]).run P w= .ok p w'/\a7 G.N G w G' w'/\G.N<=G'.N/\bg G' w' h'/\ax G' w' p q/\C q h':=by
 unfold sb at h;split at h
 ·rename_i e k hT
  obtain⟨dX,eC⟩:=elmT_spec hT;split at h
  ·rename_i z cq hz mi
   obtain⟨dw,h⟩:=bf.1 h;simp only[afX,beq_iff_eq,cN,agt]at dw;obtain⟨hk,ik⟩:=dw;obtain⟨i,hi1,iQ,Dh⟩:=GC eC mi;have NF:i.zero=some z:=by
    obtain⟨i',h1,h2⟩:=DW hz;rw[hi1]at h1;cases h1;exact h2
   obtain⟨ys,us,hr,hs,h2⟩:=acx hi hv hk hU h;clear h;have fresh:∀(xs:agK (agK D)),cx G.S w u (.sl xs)->(∃A,u= .slice A xs.length xs.length)->(∀c∈xs,c.length=k)->xs.length+ys.length<=maxLen->(xs.length+ys.length)*cq<=140737488355328->
    C (.own s.h.length (xs++ys)) (s.h++[.front e k (xs.length+ys.length)])->
    ∃p w' G' q h',(Builtin.append_ #[T,U] ty #[u,v]).run P w= .ok p w'/\a7 G.N G w G' w'/\G.N<=G'.N/\bg G' w' h'/\ax G' w' p q/\C q h':=by
    intro xs hp hf kM hm hb hC;obtain⟨a1,a2,a3,a4⟩:=LL hi hp hf e k;obtain⟨p,w',G',r1,r2,r3,r4,r5⟩:=Oy (P:=P) (ty:=ty) a3 dX hi1 NF iQ Dh ik hk (n:=s.h.length) (xs:=xs) (ys:=ys) (by simp) a4 kM (hr.aG a1.S a1.cell) hs hm hb;rw[ach]at r4;exact⟨p,w',G',_,_,r1,a1.trans (r2.less a2),agd a2 r3,r4,r5,hC⟩
   split at h2
   ·rename_i m xs
    split at h2
    ·rename_i e2 k2 len hm
     obtain⟨dw,rfl,kM,mI,hb,hC⟩:=bf.1 h2;simp only[afX,beq_iff_eq]at dw;obtain⟨rfl,rfl⟩:=dw;obtain⟨p,w',G',r1,r2,r3,r4,r5⟩:=Oy (P:=P) (ty:=ty) hi dX hi1 NF iQ Dh ik hk hm hu kM hr hs mI hb;exact⟨p,w',G',_,_,r1,r2,r3,r4,r5,hC⟩
    ·exact h2.elim
   ·have:=hu.val;subst this;obtain⟨mI,hb,hC⟩:=h2;exact fresh [] yo ⟨none,rfl⟩ (λ_ h=>by cases h) (by simpa using mI) (by simpa using hb) (by simpa using hC)
   ·rename_i xs
    obtain⟨kM,mI,hb,hC⟩:=h2;cases hu with
    |full _ hp hf=>exact fresh xs hp hf kM mI hb hC
   ·exact h2.elim
  ·exact h.elim
 ·exact h.elim
end
theorem SQ(off:Nat):∀(l:agK agO)(k:Nat)(cs:Array agO),((l.zipIdx k).foldl (λcs(p:agO×Nat)=>cs.setIfInBounds (off+p.2) p.1) cs).size=cs.size/\
 ∀i,off+k+l.length<=cs.size->((l.zipIdx k).foldl (λcs(p:agO×Nat)=>cs.setIfInBounds (off+p.2) p.1) cs)[i]?=if off+k<=i/\i<off+k+l.length then l[i-(off+k)]? else cs[i]?
 |[],k,cs=>⟨rfl,λi _=>by
    have h:¬(off+k<=i/\i<off+k+([]:agK agO).length):=by simp
    rw[if_neg h];rfl⟩
 |u::l,k,cs=>by
  obtain⟨h1,h2⟩:=SQ off l (k+1) (cs.setIfInBounds (off+k) u);simp only[List.zipIdx_cons,List.foldl_cons];refine⟨by rw[h1];simp,λi hi=> ?_⟩;simp only[afY]at hi ⊢;rw[h2 i (by simp;omega)];by_cases ha:off+(k+1)<=i/\i<off+(k+1)+l.length
  ·rw[if_pos ha,if_pos ⟨by omega,by omega⟩];rw[show i-(off+k)=i-(off+(k+1))+1 by omega,agx]
  ·rw[if_neg ha];by_cases hb:i=off+k
   ·subst hb;rw[if_pos ⟨af6 _,by omega⟩,Nat.sub_self,List.getElem?_cons_zero,Array.getElem?_setIfInBounds_self_of_lt (by omega)]
   ·rw[if_neg (by omega),Array.getElem?_setIfInBounds_ne (Ne.symm hb)]
section
variable {P:agN} {G:Gh} {w:agP}
structure Row(G:Gh)(w:World)(vs:Array Value)(cs:List J):Prop where
 len:vs.size=cs.length
 rel:∀(i:Nat)(u:Value)(c:J),vs[i]?=some u->cs[i]?=some c->ax G w u c
 one:∀(i:Nat)(u:Value),vs[i]?=some u->u.oneCell'=true
theorem adK{vs us:Array agO}{cs ys:agK J}(h:Row G w vs cs)(h':Row G w us ys){off:Nat}(hb:off+ys.length<=cs.length):
 Row G w (us.zipIdx.foldl (λcs(p:agO×Nat)=>cs.setIfInBounds (off+p.2) p.1) vs) (gM cs off ys):=by
 have e:us.zipIdx.foldl (λcs(p:agO×Nat)=>cs.setIfInBounds (off+p.2) p.1) vs=(us.toList.zipIdx 0).foldl (λcs(p:agO×Nat)=>cs.setIfInBounds (off+p.2) p.1) vs:=by
  rw[<-Array.foldl_toList,Array.toList_zipIdx]
 obtain⟨h1,h2⟩:=SQ off us.toList 0 vs;rw[<-e]at h1 h2;have hl:us.toList.length=ys.length:=by rw[agt,h'.len]
 have hle:off+0+us.toList.length<=vs.size:=by rw[hl,h.len];omega
 have hs:∀i,(gM cs off ys)[i]?=if off+0<=i/\i<off+0+us.toList.length then ys[i-off]? else cs[i]?:=λi=>by
  unfold gM;rw[agc];by_cases ha:i<off
  ·rw[af5 (by simp;omega),List.getElem?_take_of_lt ha,if_neg (by omega)]
  ·rw[agb (by simp;omega)];simp only[List.length_take];rw[Nat.min_eq_left (by omega)];by_cases hb:i-off<ys.length
   ·rw[af5 hb,if_pos (by omega)]
   ·rw[agb (by omega),List.getElem?_drop,if_neg (by omega),show off+ys.length+(i-off-ys.length)=i by omega]
 refine⟨by rw[h1,yH _ _ _ hb,h.len],λi u c hu hc=> ?_,λi u hu=> ?_⟩
 ·rw[h2 i hle]at hu;rw[hs]at hc;split at hu
  ·rename_i hp
   rw[if_pos hp]at hc;exact h'.rel _ _ _ (by rw[<-agj];exact hu) hc
  ·rename_i hp
   rw[if_neg hp]at hc;exact h.rel _ _ _ hu hc
 ·rw[h2 i hle]at hu;split at hu
  ·exact h'.one _ _ (by rw[<-agj];exact hu)
  ·exact h.one _ _ hu
theorem ax.Sn{u:agO}{x:J}(h:ax G w u x)(hb:x.gZ=true):Row G w u.cells x.cells:=by
 obtain⟨h1,h2⟩:=h.cells hb;refine⟨h1,λi v c hv hc=>(h2 i v c hv hc).1,λi v hv=> ?_⟩;have az:i<x.cells.length:=by rw[<-h1];exact(aga.1 hv).1
 exact(h2 i v _ hv (afZ az)).2
theorem Kz(place:Nat->agM (Nat×Nat))(places:agK (Nat×Nat))(hp:∀i pl,places[i]?=some pl->place i=some pl):∀(ps:agK (Nat×J))(qs:agK (Nat×agO))(cs bC:agK J)(vs:Array agO),Row G w vs cs->
 qs.length=ps.length->(∀(i:Nat)(p:Nat×J)(q:Nat×agO),ps[i]?=some p->qs[i]?=some q->q.1=p.1/\ax G w q.2 p.2)->(ps.all λp=>p.2.gZ)=true->mD places cs ps=some bC->
 ∃eF,Instr.fill place vs qs=some eF/\Row G w eF bC
 |[],[],cs,bC,vs,h,_,_,_,hf=>by
  simp only[mD,Option.some.injEq]at hf;subst hf;exact⟨vs,rfl,h⟩
 |[],_::_,_,_,_,_,hl,_,_,_=>by simp at hl
 |_::_,[],_,_,_,_,hl,_,_,_=>by simp at hl
 |(j,x)::ps,(j',u)::qs,cs,bC,vs,h,hl,hr,hb,hf=>by
  obtain⟨e1,e2⟩:=hr 0 (j,x) (j',u) rfl rfl;simp only at e1 e2;subst e1;simp only[agG,afX]at hb;unfold mD at hf;split at hf
  ·rename_i off k yj
   rw[cond_eq_ite]at hf;split at hf
   ·rename_i hc
    simp only[afX,beq_iff_eq,cN]at hc;have lM:=e2.Sn hb.1;obtain⟨eF,h1,h2⟩:=Kz place places hp ps qs _ bC _ (adK h lM (by rw[hc.1];exact hc.2)) (by simpa using hl) (λi p q hp hq=>hr (i+1) p q (by simpa using hp) (by simpa using hq)) hb.2 hf;refine⟨eF,?_,h2⟩;unfold Instr.fill;rw[hp _ _ yj];have h3:¬(u.cells.size≠k||decide (off+u.cells.size>vs.size))=true:=by
     rw[lM.len,hc.1,h.len];simp;exact hc.2
    simp only[h3];exact h1
   ·cases hf
  ·cases hf
theorem TH{z:Array agO}(h:z.toList.all Value.oneCell'=true):z.all (·.oneCell')=true:=by
 rw[agm]at h;exact Array.all_eq_true_iff_forall_mem.2 λu hu=>h u (Array.mem_toList_iff.2 hu)
theorem UQ(z:agO)(h:z.cells.all (·.oneCell')=true):Row G w z.cells (z.cells.toList.map λu=> .d (.v u)):=by
 refine⟨by simp,λi u c hu hc=> ?_,λi u hu=>Array.all_eq_true_iff_forall_mem.1 h u (Array.mem_of_getElem? hu)⟩;rw[af2,agj,hu]at hc;cases hc
 exact .d (.v u)
theorem NZ:∀(fs:agK Field)(ps:agK (Nat×Nat))(w:agP),AY P fs=some ps->(fs.mapM (m:=Sem) λf=>do pure (f.offset,<-sizeOf f.type)).run P w= .ok ps w
 |[],ps,w,h=>by simp [AY]at h;subst h;simp
 |f::fs,ps,w,h=>by
  unfold AY at h;simp only[List.mapM_cons,Option.bind_eq_bind,Option.bind_eq_some_iff,Option.map_eq_some_iff,Option.pure_def,Option.some.injEq]at h;obtain⟨p,⟨k,hk,rfl⟩,qs,hq,rfl⟩:=h;have ih:=NZ fs qs w hq;simp only[List.mapM_cons,Sem.run_bind,jX hk,Sem.run_pure,Result.andThen_ok,ih]
theorem acT{T:Nat}{ps:agK (Nat×J)}{qs:Array (Nat×agO)}{C:J->Prop}(hl:qs.toList.length=ps.length)
 (hr:∀(i:Nat)(p:Nat×J)(q:Nat×agO),ps[i]?=some p->qs.toList[i]?=some q->q.1=p.1/\ax G w q.2 p.2) (h:ur P T ps C):∃u y,(Instr.build T qs).run P w= .ok u w/\ax G w u y/\C y:=by
 unfold ur at h;split at h
 ·rename_i places z D7 hz
  obtain⟨fs,hT,yj⟩:∃fs,P.underlying T=some (.struct fs)/\AY P fs.toList=some places:=by
   unfold Jq at D7;split at D7
   ·exact⟨_,by assumption,D7⟩
   ·cases D7
  ·split at h
   ·rename_i cs hf
    obtain⟨dw,hC⟩:=bf.1 h;simp only[afX]at dw;obtain⟨hb,gu⟩:=dw;have gu:=TH gu;have jY:(fs.mapM (m:=Sem) λf=>do pure (f.offset,<-sizeOf f.type)).run P w= .ok places.toArray w:=by
     rw[Array.mapM_eq_mapM_toList];have:=NZ fs.toList places w yj;have e:(Functor.map List.toArray (fs.toList.mapM (m:=Sem) λf=>do pure (f.offset,<-sizeOf f.type)):Sem _)=(fs.toList.mapM (m:=Sem) λf=>do pure (f.offset,<-sizeOf f.type))>>=λl=>pure l.toArray:=rfl;rw[e,Sem.run_bind,this];rfl
    obtain⟨eF,h1,h2⟩:=Kz (λi=>places.toArray[i]?) places (λi pl h=>by simpa using h) ps qs.toList _ cs z.cells (UQ (G:=G) (w:=w) z gu) hl hr hb hf;refine⟨.agg eF, .agg cs,?_, .agg eF cs h2.len h2.rel,hC⟩;unfold Instr.build;simp only[Sem.run_bind,Cg hz,Result.andThen_ok,run_underlying hT,jY,h1,Sem.run_pure]
   ·exact h.elim
 ·exact h.elim
theorem QI{T:Nat}(h:vT P T=true):P.underlying T=some .bool:=by
 unfold vT at h;split at h
 ·assumption
 ·cases h
theorem ED{T:Nat}{k:IntKind}(h:np P T=some k):P.underlying T=some (.int k):=by
 unfold np at h;split at h
 ·cases h;assumption
 ·cases h
theorem MJ{t off:Nat}{vs:Array agO}{u:agO}(ha:jS P t=some false)(hu:vs[off]?=some u):(part t vs off).run P w= .ok u w:=by
 unfold part;rw[Sem.run_bind,xl ha w];simp [hu]
theorem W8{t:Nat}{u v:agO}{x y:J}{b:Bool}(d:Nat)(hu:ax G w u x)(hv:ax G w v y)(h:AR P t x y=some b):(Op.equalIn (d+1) t u v).run P w= .ok b w:=by
 unfold AR at h;split at h
 ·have e1:=hu.val;have e2:=hv.val;subst e1;subst e2
  rename_i k a k' b'
  cases hc:uf k k'&&(np P t).isSome with
  |false=>rw[hc]at h;cases h
  |true=>
   rw[hc]at h;cases h;rw[afX,HZ]at hc;obtain⟨rfl,hc⟩:=hc;obtain⟨k2,hk⟩:=Option.isSome_iff_exists.1 hc;exact run_equalIn_int w d t k k2 a b' (ED hk)
 ·have e1:=hu.val;have e2:=hv.val;subst e1;subst e2;cases hc:fu P t with
  |false=>rw[hc]at h;cases h
  |true=>rw[hc]at h;cases h;rw[<-Hd,<-Hd];exact run_equalIn_string w d t _ _ (pe hc)
 ·have e1:=hu.val;have e2:=hv.val;subst e1;subst e2;cases hc:vT P t with
  |false=>rw[hc]at h;cases h
  |true=>rw[hc]at h;cases h;exact run_equalIn_bool w d t _ _ (QI hc)
 ·cases h
theorem X3{t off k:Nat}{vs:Array agO}(ha:jS P t=some true)(hk:eD P t=some k):(part t vs off).run P w= .ok (.agg (vs.extract off (off+k))) w:=by
 unfold part;rw[Sem.run_bind,xl ha w];simp [jX hk]
theorem P0{us:Array agO}{xs:agK J}{off k:Nat}(hx:us.size=xs.length)(hb:off+k<=xs.length)(hu:∀(i:Nat)(u:agO)(c:J),us[i]?=some u->xs[i]?=some c->ax G w u c):
 (us.extract off (off+k)).size=((xs.drop off).take k).length/\∀(i:Nat)(u:agO)(c:J),(us.extract off (off+k))[i]?=some u->((xs.drop off).take k)[i]?=some c->ax G w u c:=by
 refine⟨by simp;omega,λi u c h1 h2=> ?_⟩;rw[List.getElem?_take]at h2;split at h2
 ·next hi=>
  rw[List.getElem?_drop]at h2;rw[Array.getElem?_extract]at h1;split at h1
  ·exact hu _ _ _ h1 h2
  ·cases h1
 ·cases h2
theorem DA{sub:TypeId->agK J->agK J->agM Bool}(d:Nat)
 (xy:∀(T:Nat)(us vs:Array agO)(xs ys:agK J)(b:Bool),us.size=xs.length->vs.size=ys.length->(∀(i:Nat)(u:agO)(c:J),us[i]?=some u->xs[i]?=some c->ax G w u c)->(∀(i:Nat)(u:agO)(c:J),vs[i]?=some u->ys[i]?=some c->ax G w u c)->sub T xs ys=some b->(Op.equalIn (d+1) T (.agg us) (.agg vs)).run P w= .ok b w)
 {us vs:Array agO} {xs ys:agK J} (hx:us.size=xs.length) (hy:vs.size=ys.length)
 (hu:∀(i:Nat)(u:agO)(c:J),us[i]?=some u->xs[i]?=some c->ax G w u c) (hv:∀(i:Nat)(u:agO)(c:J),vs[i]?=some u->ys[i]?=some c->ax G w u c):
 ∀(fs:agK Field)(b:Bool),wG P sub fs xs ys=some b->(Op.eqFields (d+1) us vs fs).run P w= .ok b w
 |[],b,h=>by cases h;simp [Op.eqFields]
 |f::fs,b,h=>by
  unfold wG at h;cases hn:f.name== "_" with
  |true=>rw[hn]at h;cases h
  |false=>
   rw[hn]at h;simp only[cond_false]at h;have bQ:f.name≠ "_" :=by simpa using hn
   split at h
   ·next e1=>
    split at h
    ·next x y e2 e3=>
     split at h
     ·next a c e4 e5=>
      cases h
      have l1:f.offset<us.size:=by rw[hx];exact(afV.1 e2).1
      have l2:f.offset<vs.size:=by rw[hy];exact(afV.1 e3).1
      have g1:=agi l1;have g2:=agi l2;simp only[Op.eqFields,if_pos bQ,Sem.run_bind,MJ (w:=w) e1 g1,MJ (w:=w) e1 g2,Result.andThen_ok,W8 d (hu _ _ _ g1 e2) (hv _ _ _ g2 e3) e4];cases a with
      |true=>simp only[Bool.not_true,Bool.false_eq_true,if_false,Bool.true_and];exact DA d xy hx hy hu hv fs c e5
      |false=>simp
     ·cases h
    ·cases h
   ·next e1=>
    split at h
    ·next k e2=>
     cases kG:bB (f.offset+k) xs.length&&bB (f.offset+k) ys.length with
     |false=>rw[kG]at h;cases h
     |true=>
      rw[kG]at h;rw[afX,cN,cN]at kG;simp only[cond_true]at h;split at h
      ·next a c e4 e5=>
       cases h
       obtain⟨p1,p2⟩:=P0 hx kG.1 hu;obtain⟨q1,q2⟩:=P0 hy kG.2 hv;simp only[Op.eqFields,if_pos bQ,Sem.run_bind,X3 (w:=w) e1 e2,Result.andThen_ok,xy _ _ _ _ _ a p1 q1 p2 q2 e4];cases a with
       |true=>simp only[Bool.not_true,Bool.false_eq_true,if_false,Bool.true_and];exact DA d xy hx hy hu hv fs c e5
       |false=>simp
      ·cases h
    ·cases h
   ·cases h
theorem Pz:∀(n d:Nat)(T:Nat)(us vs:Array agO)(xs ys:agK J)(b:Bool),us.size=xs.length->vs.size=ys.length->(∀(i:Nat)(u:agO)(c:J),us[i]?=some u->xs[i]?=some c->ax G w u c)->(∀(i:Nat)(u:agO)(c:J),vs[i]?=some u->ys[i]?=some c->ax G w u c)->EK P n T xs ys=some b->(Op.equalIn (d+n+1) T (.agg us) (.agg vs)).run P w= .ok b w
 |0,_,_,_,_,_,_,_,_,_,_,_,h=>by cases h
 |n+1,d,T,us,vs,xs,ys,b,hx,hy,hu,hv,h=>by
  unfold EK at h;split at h
  ·next fs hT=>
   cases hc:P.stoodInHeld T with
   |true=>rw[hc]at h;cases h
   |false=>
    rw[hc]at h;have hf:P.fieldsOf T=fs:=by unfold Program.fieldsOf;rw[hT]
    rw[show d+(n+1)+1=(d+n+1)+1 by omega,run_equalIn_struct w (d+n+1) T us vs (by rw[hf];exact hT) hc,hf];exact DA (d+n) (λT' LN eF IC HK b'=>Pz n d T' LN eF IC HK b') hx hy hu hv _ b h
  ·cases h
theorem UY{T:Nat}{us vs:Array agO}{xs ys:agK J}{b:Bool}(hx:us.size=xs.length)(hy:vs.size=ys.length)
 (hu:∀(i:Nat)(u:agO)(c:J),us[i]?=some u->xs[i]?=some c->ax G w u c) (hv:∀(i:Nat)(u:agO)(c:J),vs[i]?=some u->ys[i]?=some c->ax G w u c) (h:EV P T xs ys=some b):
 P.eqGuardType P.depth T=false/\(Op.equalIn 10000 T (.agg us) (.agg vs)).run P w= .ok b w:=by
 unfold EV at h;split at h
 ·next fs hT=>
  cases hc:P.stoodInHeld T||P.eqGuardType P.depth T with
  |true=>rw[hc]at h;cases h
  |false=>
   rw[hc]at h;rw[agJ]at hc;refine⟨hc.2,?_⟩;have hf:P.fieldsOf T=fs:=by unfold Program.fieldsOf;rw[hT]
   rw[run_equalIn_struct w 9999 T us vs (by rw[hf];exact hT) hc.1,hf];exact DA 9998 (λT' LN eF IC HK b'=>Pz 4 9994 T' LN eF IC HK b') hx hy hu hv _ b h
 ·cases h
theorem adx{op:BinOp}{x y:J}{u v:agO}{T:Nat}{X Y:Operand}{C:J->Prop}(hu:ax G w u x)(hv:ax G w v y)(h:tv P T op x y C):
 ∃r z,(do eqGuard op T X Y u v;binOp op T u v:Sem agO).run P w= .ok r w/\ax G w r z/\C z:=by
 unfold tv at h;split at h
 ·rename_i k a k' b
  have e1:=hu.val;have e2:=hv.val;subst e1;subst e2;have hg:(eqGuard op T X Y (.int k a) (.int k' b)).run P w= .ok () w:=by unfold eqGuard;cases op<;>simp
  rw[Sem.run_bind,hg];simp only[Result.andThen_ok];split at h
  ·rename_i z hq
   obtain⟨ri,hp,hC⟩:=bf.1 h;rw[HZ]at ri;subst ri;refine⟨z,_,?_, .d (.v z),hC⟩;cases op<;>simp [GH]at hq<;>subst hq<;>simp [binOp,Op.intDiv,hp]
  ·split at h
   ·rename_i z hq
    refine⟨z,_,?_, .d (.v z),h.2⟩;have hb:¬b<0:=by omega
    cases op<;>simp [KM]at hq<;>subst hq<;>simp [binOp,Op.shift,hb]
   ·split at h
    ·rename_i z hq
     obtain⟨ri,hC⟩:=bf.1 h;rw[HZ]at ri;subst ri;refine⟨z,_,?_, .d (.v z),hC⟩;cases op<;>simp [IP]at hq<;>subst hq<;>simp [binOp,Op.intArith,Op.intCmp,Op.intBits]
    ·exact h.elim
 ·rename_i a b
  have e1:=hu.val;have e2:=hv.val;subst e1;subst e2;have hg:(eqGuard op T X Y (.string a) (.string b)).run P w= .ok () w:=by unfold eqGuard;cases op<;>simp
  rw[Sem.run_bind,hg];simp only[Result.andThen_ok];split at h
  ·rename_i z hq
   refine⟨z,_,?_, .d (.v z),h⟩;cases op<;>simp [IK]at hq<;>subst hq<;>simp [binOp,Op.stringOp,Hd]
  ·split at h
   ·refine⟨_,_,?_, .d (.v _),h.2⟩;have hm:¬(((a.size+b.size:Nat):Int)>IntKind.i64.max):=by
     have:=h.1;unfold maxLen at this;have e:IntKind.i64.max=9223372036854775807:=by decide
     rw[e];omega
    simp only[binOp,Op.stringOp];rw[if_neg hm];rfl
   ·exact h.elim
 ·rename_i a b
  have e1:=hu.val;have e2:=hv.val;subst e1;subst e2;have hg:(eqGuard op T X Y (.bool a) (.bool b)).run P w= .ok () w:=by unfold eqGuard;cases op<;>simp
  rw[Sem.run_bind,hg];simp only[Result.andThen_ok];split at h
  ·rename_i z hq
   obtain⟨hT,hC⟩:=bf.1 h;have hT:=QI hT;refine⟨z,_,?_, .d (.v z),hC⟩;have hb:=run_equalIn_bool (P:=P) w 9999 T a b hT;cases op<;>simp [Jt]at hq<;>subst hq<;>simp [binOp,Op.equal,Op.maxDepth,hb]
  ·exact h.elim
 ·rename_i xs ys
  cases hu with
  |agg us _ hl1 FR=>
   cases hv with
   |agg vs _ Av FC=>
    split at h
    ·next b hb=>
     obtain⟨hg,he⟩:=UY hl1 Av FR FC hb;rw[Sem.run_bind,run_eqGuard_agg w op T X Y us vs hg];simp only[Result.andThen_ok];split at h
     ·next z hz=>
      refine⟨z,_,?_, .d (.v z),h⟩;cases op<;>simp [uw]at hz<;>subst hz
      ·rw[run_eql_struct,he];rfl
      ·rw[run_neq_struct,he];rfl
     ·exact h.elim
    ·exact h.elim
 ·exact h.elim
theorem Wm{op:UnOp}{x:J}{u:agO}{C:J->Prop}(hu:ax G w u x)(h:tC op x C):∃r z,(Op.unary op u).run P w= .ok r w/\ax G w r z/\C z:=by
 unfold tC at h;split at h
 ·rename_i v
  have e:=hu.val;subst e;split at h
  ·rename_i z hq
   refine⟨z,_,?_, .d (.v z),h⟩;unfold Eu at hq;split at hq
   ·cases hq;simp [Op.unary]
   ·cases hq;simp [Op.unary,Op.intArith]
   ·cases hq;simp [Op.unary,Op.intBits]
   ·cases hq
  ·exact h.elim
 ·exact h.elim
theorem aav{T:Nat}(h:yk P T=true):P.underlying T=some (.int .u8):=by
 unfold yk at h;split at h
 ·assumption
 ·cases h
theorem Wq{a b:Nat}{x:J}{u:agO}{C:J->Prop}(hu:ax G w u x)(h:sW P a b x C):∃r z,(convert a b u).run P w= .ok r w/\ax G w r z/\C z:=by
 unfold sW at h;split at h
 ·rename_i k2 m
  have e:=hu.val;subst e;split at h
  ·rename_i k1 k h1 h2
   refine⟨_,_,?_, .d (.v _),h⟩;simp [convert,run_underlying (ED h1),run_underlying (ED h2),Conv.intToInt]
  ·exact h.elim
 ·rename_i s
  have e:=hu.val;subst e;obtain⟨dw,hC⟩:=bf.1 h;rw[afX]at dw;refine⟨_,_,?_, .d (.v _),hC⟩;simp [convert,run_underlying (pe dw.1),run_underlying (pe dw.2)]
 ·split at h
  ·rename_i xs e k jn hT
   obtain⟨dw,ns,rfl,hC⟩:=bf.1 h;rw[afX]at dw;refine⟨_,_,?_, .d (.v _),hC⟩;obtain⟨A,bb,o,cc,k',us,rfl,hA,iW,sM,kt,hS,jI⟩:=(hu.list jn).mL;rw[run_convert_bytes_string w a b e A _ cc (elmT_spec hT).1 (aav dw.1) (pe dw.2)];simp only[af0]at hA iW hS ⊢;cases ns with
   |nil=>
    cases A with
    |none=>rfl
    |some ad=>
     have hl:=run_loadCells_list (P:=P) w ad (([]:agK Int).map (Value.int .u8)) (λj v hj=>by simp at hj);simp only[List.map_nil,af7]at hl;have:=run_bytesToString (P:=P) w ad 0 cc [] (by simpa using hl);exact this
   |cons n0 ns=>
    have BC:=hA (by simp);subst BC;have qa:k'=1:=(kt [.v (.int .u8 n0)] (by simp)).symm;subst qa;have hl:=run_loadCells_list (P:=P) w ⟨bb,o,none⟩ ((n0::ns).map (Value.int .u8)) (λj v hj=>by
     have az:=(afV.1 hj).1;rw[af0]at az;have h1:=(hS j 0 az (by omega)).2.1;rw[af2,afZ az]at hj;cases hj
     have h2:=jI j 0 [.v (.int .u8 ((n0::ns)[j]))] (.v (.int .u8 ((n0::ns)[j]))) (by rw[af2,afZ az];rfl) rfl;have h3:us j 0= .int .u8 ((n0::ns)[j]):=by
      generalize us j 0=q at h2;cases h2;rfl
     rw[js];rw[h3]at h1
     simpa using h1)
    rw[af0]at hl;rw[run_bytesToString w _ _ cc _ hl];have key:∀(l:agK Int)(r:agL),l.foldl (λr n=>r.push (UInt8.ofNat n.toNat)) r=⟨r.data++(l.map λn=>UInt8.ofNat n.toNat).toArray⟩:=by
      intro l
      induction l with
      |nil=>intro r;simp
      |cons x l ih=>intro r;rw[List.foldl_cons,ih];simp [ByteArray.push]
    rw[key];have zj:ByteArray.empty.data= #[]:=rfl;rw[zj];simp
  ·exact h.elim
theorem I0{T f off k:Nat}{g:Bool}(h:oS P T f=some (off,k,g)):∃fs fd,P.underlying T=some (.struct fs)/\fs[f]?=some fd/\eD P fd.type=some k/\0<k/\jS P fd.type=some g/\fd.offset=off:=by
 unfold oS at h;split at h
 ·rename_i fs hT
  split at h
  ·rename_i fd hf
   split at h
   ·rename_i k' g' h1 h2
    cases h
    exact⟨fs,fd,hT,hf,h1,Nat.succ_pos _,h2,rfl⟩
   ·cases h
  ·cases h
 ·cases h
theorem Kv{T f off k o b:Nat}{g:Bool}(h:oS P T f=some (off,k,g)):(Instr.fieldAt T (.pointer (some ⟨b,o,none⟩)) f).run P w= .ok (.pointer (some ⟨b,o+off,none⟩)) w:=by
 obtain⟨fs,fd,h1,h2,h3,h4,h5,rfl⟩:=I0 h;simp [Instr.fieldAt,run_underlying h1,h2,Instr.sureAddr,fieldPlace,jX h3,Nat.ne_of_gt h4,js]
theorem UT{T f:Nat}{x:J}{u:agO}{C:J->Prop}(hu:ax G w u x)(h:ux P T x f C):∃r z,(Instr.field T u f).run P w= .ok r w/\ax G w r z/\C z:=by
 unfold ux at h;split at h
 ·rename_i off k cs hT
  obtain⟨hl,hC⟩:=bf.1 h;rw[cN]at hl;obtain⟨fs,fd,h1,h2,h3,h4,h5,rfl⟩:=I0 hT;cases hu with
  |agg vs _ hlen hr=>
   refine⟨.agg (vs.extract fd.offset (fd.offset+k)),_,?_, .agg _ _ ?_ λi u c hu hc=> ?_,hC⟩
   ·simp [Instr.field,run_underlying h1,h2,asAgg,part,xl h5,jX h3]
   ·simp;omega
   ·rw[Array.getElem?_extract]at hu;rw[List.getElem?_take]at hc;split at hc
    ·rw[List.getElem?_drop]at hc;split at hu
     ·exact hr _ u c hu hc
     ·cases hu
    ·cases hc
 ·rename_i off k cs hT
  obtain⟨fs,fd,h1,h2,h3,h4,h5,rfl⟩:=I0 hT;split at h
  ·rename_i c hc
   cases hu with
   |agg vs _ hlen hr=>
    have az:fd.offset<vs.size:=by rw[hlen];exact(afV.1 hc).1
    refine⟨vs[fd.offset],c,?_,hr _ _ c (agi az) hc,h⟩;simp [Instr.field,run_underlying h1,h2,asAgg,part,xl h5,agi az]
  ·exact h.elim
 ·exact h.elim
end
def Gh.qE(G:Gh)(b m:Nat):Gh:={G with S:=λc o=>G.S c o\/(c=b/\o<m)}
theorem Mi{G:Gh}{w:agP}{h:agK aj}(hi:bg G w h)(ob:Obj)(m:Nat):a7 G.N G w (G.qE w.heap.size m) (w.alloc ob)/\bg (G.qE w.heap.size m) (w.alloc ob) h:=by
 have hE:a7 G.N G w (G.qE w.heap.size m) (w.alloc ob):=
  ⟨by simp,λ_ _ h=> .inl h,λb _ h=>World.cell?_alloc_lt _ _ _ (hi.S _ _ h),λ_ _=>rfl,λ_ _=> .inl ⟨rfl,rfl⟩,fi rfl,λb hb=>Below.heap_alloc w ob b (hi.z b hb),rfl,rfl,rfl,λb o hs=>hs.imp id fun⟨e,_⟩ hz=>agA _ (hi.z _ (e▸hz))⟩
 refine⟨hE,hi.len,λb hb=>agk (hi.z b hb) hE.size,λb o hs=> ?_,λn B hB=> ?_,λm n b h1 h2=>hi.inj m n b h1 h2,hi.gl.aG hE⟩
 ·rcases hs with hs|⟨rfl,_⟩
  ·exact agk (hi.S b o hs) hE.size
  ·simp
 ·refine cX.aG (hi.lt hB) hE (af6 _) ⟨rfl,rfl,rfl⟩ (λb hb=> ?_) (hi.b6 n B hB);have az:=hi.fR (n:=n) (b:=b) ((cJ hB).trans hb);refine⟨Below.heap_alloc w _ _ az,λo iC hs=> ?_⟩;rcases hs with hs|⟨e,_⟩
  ·exact iC hs
  ·omega
theorem RM(k:Nat):∀(n o i:Nat)(pl:Nat×Nat),(rO k o n)[i]?=some pl->pl=(o+i*k,k)
 |0,_,_,_,h=>by simp [rO]at h
 |n+1,o,0,pl,h=>by simp [rO]at h;rw[<-h];simp
 |n+1,o,i+1,pl,h=>by
  have:=RM k n (o+k) i pl (by simpa [rO]using h);rw[this,Nat.add_mul];simp;omega
theorem Ql(l:agK J):∀n,(oM n l).length=n*l.length
 |0=>by simp [oM]
 |n+1=>by rw[oM,afW,Ql l n,Nat.add_mul];omega
theorem SX(l:agK J):∀(n i:Nat),i<n*l.length->(oM n l)[i]?=l[i%l.length]?
 |0,i,h=>by omega
 |n+1,i,h=>by
  rw[oM];by_cases hi:i<l.length
  ·rw[af5 hi,Nat.mod_eq_of_lt hi]
  ·rw[agb (by omega),SX l n _ (by rw[Nat.add_mul]at h;omega),<-Nat.mod_eq_sub_mod (by omega)]
theorem Y8(z:agO){k:Nat}(hz:z.cells.size=k)(n:Nat):oM n (z.cells.toList.map λu=> .d (.v u))=(List.range (n*k)).map λi=> .d (.v (z.cells[i%z.cells.size]!)):=by
 have hl:(z.cells.toList.map λu=>J.d (.v u)).length=k:=by simp [hz]
 refine List.ext_getElem? λi=> ?_;by_cases hi:i<n*k
 ·rw[SX _ _ _ (by rw[hl];exact hi),af2,af2,List.getElem?_range hi,hl,hz,agj];have hk:0<k:=Nat.pos_of_ne_zero λe=>by subst e;simp at hi
  have az:i%k<z.cells.size:=by rw[hz];exact Nat.mod_lt _ hk
  rw[agi az];simp only[Option.map_some];rw[getElem!_pos z.cells (i%k) az]
 ·rw[ags (by rw[Ql,hl];omega),ags (by simp;omega)]
theorem N5:∀{ps:agK (Nat×J)}{places:agK (Nat×Nat)}{cs bC:agK J},mD places cs ps=some bC->bC.length=cs.length
 |[],_,_,_,h=>by simp only[mD,Option.some.injEq]at h;rw[h]
 |(i,x)::ps,places,cs,bC,h=>by
  unfold mD at h;split at h
  ·rw[cond_eq_ite]at h;split at h
   ·rename_i hc
    simp only[afX,beq_iff_eq,cN]at hc;rw[N5 h,yH _ _ _ (by rw[hc.1];exact hc.2)]
   ·cases h
  ·cases h
section
variable {P:agN} {r:agM Nat} {n N0:Nat} {G:Gh} {w:agP} {a:Act} {s:St} {o:Oper} {K:St->Prop} {Q:Exit->Act->agP->Prop}
theorem YP{T len:Nat}{h:agK aj}{ps:agK (Nat×J)}{qs:Array (Nat×agO)}{C:J->Prop}(hi:bg G w h)(hl:qs.toList.length=ps.length)
 (hr:∀(i:Nat)(p:Nat×J)(q:Nat×agO),ps[i]?=some p->qs.toList[i]?=some q->q.1=p.1/\ax G w q.2 p.2) (hC:sE P T len ps C):
 ∃u w' G' y,(Instr.buildSlice T len qs).run P w= .ok u w'/\a7 G.N G w G' w'/\G.N<=G'.N/\bg G' w' h/\ax G' w' u y/\C y:=by
 unfold sE at hC;split at hC
 ·rename_i e k hT
  obtain⟨dX,eC⟩:=elmT_spec hT;split at hC
  ·rename_i z hz
   split at hC
   ·rename_i cs hf
    split at hC
    ·rename_i ds oz
     obtain⟨dw,hC⟩:=bf.1 hC;simp only[afX,beq_iff_eq,cN,agt]at dw;obtain⟨⟨⟨⟨hk,hsm⟩,ik⟩,gu⟩,hb⟩:=dw;have gu:=TH gu;rw[Y8 z ik]at hf;have yj:=RM k;obtain⟨z0,tn⟩:∃z0:Array agO,z0=if len*k=0 then #[]else z.cells:=⟨_,rfl⟩
     obtain⟨zr,AF⟩:∃zr:Array agO,zr=(Array.range (len*k)).map (z0[·%z0.size]!):=⟨_,rfl⟩;have lM:Row G w zr ((List.range (len*k)).map λi=> .d (.v (z.cells[i%z.cells.size]!))):=by
      have y8:∀i,i<len*k->z0[i%z0.size]! =z.cells[i%z.cells.size]! :=λi hi=>by rw[tn,if_neg (by omega)]
      refine⟨by rw[AF];simp,λi u c hu hc=> ?_,λi u hu=> ?_⟩
      ·rw[AF,Array.getElem?_map]at hu;rw[af2]at hc;by_cases hi:i<len*k
       ·rw[List.getElem?_range hi]at hc;rw[Array.getElem?_range,if_pos hi]at hu;simp only[Option.map_some,Option.some.injEq]at hu hc;subst hu;subst hc;rw[y8 i hi];exact .d (.v _)
       ·rw[ags (by simp;omega)]at hc;cases hc
      ·rw[AF,Array.getElem?_map]at hu;by_cases hi:i<len*k
       ·rw[Array.getElem?_range,if_pos hi]at hu;simp only[Option.map_some,Option.some.injEq]at hu;subst hu;rw[y8 i hi];have az:i%z.cells.size<z.cells.size:=Nat.mod_lt _ (by omega);rw[getElem!_pos z.cells _ az];exact Array.all_eq_true_iff_forall_mem.1 gu _ (Array.getElem_mem _)
       ·rw[Array.getElem?_eq_none (by simp;omega)]at hu;cases hu
     obtain⟨eF,h1,h2⟩:=Kz (λi=>some (i*k,k)) (rO k 0 len) (λi pl h=>by
      have:=yj len 0 i pl h;rw[this];simp) ps qs.toList _ cs zr lM hl hr hb hf
     obtain⟨d1,d2⟩:=Ju oz;have e9:cs.length=len*k:=by
      have:=N5 hf;rw[this];simp
     have tU:eF.size=len*k:=by rw[h2.len,e9]
     obtain⟨i1,i2⟩:=Mi hi (.cells eF e) (len*k);have w7:Rd G.S w k (lC k len ds) eF.toList:=Pf (by rw[d1,e9]) (by rw[agt,tU]) (λu hu=>by
      obtain⟨j,hj⟩:=List.mem_iff_getElem?.1 hu;exact h2.one j u (by rw[<-agj];exact hj)) (λi u d hu hd=>by
      have az:i<cs.length:=by rw[<-d1];exact(afV.1 hd).1
      exact(h2.rel i u _ (by rw[<-agj];exact hu) (afZ az)).GR (d2 i _ d (afZ az) hd))
     have hp:cx (G.qE w.heap.size (len*k)).S (w.alloc (.cells eF e)) (.slice (some ⟨w.heap.size,0,none⟩) len len) (.sl (lC k len ds)):=by
      have:=(w7.aG i1.S i1.cell).Fa w.heap.size len (by rw[pH];exact af6 _) (by have:=Nat.le_mul_of_pos_right len hk;simp only[maxLen];omega) (λo ho=> .inr ⟨rfl,by rw[pH]at ho;exact ho⟩) (λo u hu=>by
       rw[World.cell?_alloc_new];rw[<-agj];exact hu)
      rwa [pH]at this
     refine⟨_,_,_,_,?_,i1,af6 _,i2, .full _ hp ⟨some ⟨w.heap.size,0,none⟩,by rw[pH]⟩,hC⟩;have iC:¬(len*k>2^24):=by omega
     unfold Instr.buildSlice;simp only[Sem.run_bind,run_underlying dX,Result.andThen_ok,jX eC,iC,if_false];by_cases h0:len*k=0
     ·rw[if_pos h0]at tn;subst tn;subst AF;simp [h0]at h1;simp [h0,h1,newRow]
     ·rw[if_neg h0]at tn;subst tn;subst AF;simp [h0,Cg hz,h1,newRow]
    ·exact hC.elim
   ·exact hC.elim
  ·exact hC.elim
 ·exact hC.elim
end
section
variable {P:agN} {G:Gh} {w:agP} {h:agK aj}
theorem pZ(k s:agL)(d:D)(l:agK (agL×D)):dk ((k,d)::l) s=if k=s then some d else dk l s:=by
 have e1:dk ((k,d)::l) s=bif bL k==bL s then some d else dk l s:=rfl;rw[e1];by_cases e:k=s
 ·subst e;rw[if_pos rfl];simp
 ·rw[if_neg e];have:(bL k==bL s)=false:=by rw[beq_eq_false_iff_ne];exact λhe=>e (nN he)
  rw[this];rfl
theorem zg{T k e:TypeId}(h:pA P T=some (k,e)):P.underlying T=some (.map k e):=by
 unfold pA at h;split at h
 ·next k' e' hT=>cases h;exact hT
 ·cases h
theorem Vm(hi:bg G w h):a7 G.N G w (G.cA w.heap.size) (w.alloc (.map #[] 0))/\bg (G.cA w.heap.size) (w.alloc (.map #[] 0)) (h++[.map []])/\ax (G.cA w.heap.size) (w.alloc (.map #[] 0)) (.map (some w.heap.size)) (.mp h.length):=by
 have hE:=wI G w hi.z hi.S (.map #[] 0);have hN:G.N<=(G.cA w.heap.size).N:=Nat.le_succ _;have fq:(G.cA w.heap.size).aF h.length=w.heap.size:=by simp [Gh.cA,hi.len]
 have j7:∀n(B:aj),n<G.N->B.cS (G.cA w.heap.size) n=B.cS G n:=λn B hn=>by
  cases B<;>simp [aj.cS,Gh.cA,Nat.ne_of_lt hn]
 have eo:∀n,n<G.N->bj (h++[.map []]) (G.cA w.heap.size) n=bj h G n:=λn hn=>by
  have az:n<h.length:=by rw[hi.len];exact hn
  unfold bj;rw[af5 az,afZ az];exact j7 n _ hn
 have tG:bj (h++[.map []]) (G.cA w.heap.size) h.length=some w.heap.size:=by
  rw[cJ (B:= .map []) (by simp)];exact congrArg some fq
 refine⟨hE,⟨by simp [Gh.cA,hi.len],λb hb=>agk (hi.z b hb) hE.size,λb o hs=>agk (hi.S b o hs) hE.size,λn B hB=> ?_,λm n b hm hn=> ?_,hi.gl.aG hE⟩,?_⟩
 ·by_cases hn:n<h.length
  ·rw[af5 hn]at hB;have dA:n<G.N:=hi.len▸hn;exact cX.aG dA hE hN ⟨rfl,rfl,rfl⟩ (λb hb=>⟨Below.heap_alloc w _ _ (hi.fR (n:=n) ((cJ hB).trans hb)),λo h=>h⟩) (hi.b6 n B hB)
  ·have jH:n=h.length:=by
    have:=(afV.1 hB).1;simp at this;omega
   subst jH;simp at hB;subst hB;exact⟨by rw[fq];exact λhz=>agA _ (hi.z _ hz),λo hs=>by rw[fq]at hs;exact agA _ (hi.S _ _ hs), #[],0,by rw[fq];exact World.alloc_heap_new w _,
    ⟨by simp,MapKept.stamped_empty 0,λe he=>(by simp at he),λs d hs=>(by cases hs),by simp,λi e he=>(by simp at he),rfl⟩⟩
 ·have key:∀n b,bj (h++[.map []]) (G.cA w.heap.size) n=some b->(n<G.N/\bj h G n=some b)\/(n=h.length/\b=w.heap.size):=λn b hn=>by
   by_cases az:n<G.N
   ·exact .inl ⟨az,by rw[<-eo n az];exact hn⟩
   ·by_cases e:n=h.length
    ·subst e;rw[tG]at hn;cases hn;exact .inr ⟨rfl,rfl⟩
    ·rw[ss (ags (by simp;have:=hi.len;omega))]at hn;cases hn
  rcases key m b hm with⟨_,iE⟩|⟨rfl,rfl⟩<;>rcases key n _ hn with⟨_,dA⟩|⟨rfl,hb⟩
  ·exact hi.inj m n b iE dA
  ·have:=hi.fR iE;omega
  ·have:=hi.fR dA;omega
  ·rfl
 ·have:=ax.mp (G:=G.cA w.heap.size) (w:=w.alloc (.map #[] 0)) h.length (by simp [Gh.cA,hi.len])
  rwa [fq]at this
theorem oY{s:agL}:MapKept.IsKey .string (.string s):=trivial
theorem Vq{T k e:TypeId}{z:agO}{n:Nat}{kv:agK (agL×D)}{s:agL}{ok:Bool}(hi:bg G w h)(hT:pA P T=some (k,e))(hz:gi P e=some z)(hk:fu P k=true)(hn:h[n]?=some (.map kv)):
 ∃v,(Instr.lookup T (.map (some (G.aF n))) (.string s) ok).run P w= .ok v w/\ax G w v (rh ok z (dk kv s)):=by
 obtain⟨_,_,es,clock,hh,hm⟩:=hi.b6 n _ hn;have Be:∀x∈es.toList,MapKept.IsKey .string x.key:=λx hx=>by
  obtain⟨s',d,h1,_⟩:=hm.da x hx;rw[h1];exact oY
 have og:=pe hk;have one:∀(v:agO)(d:D)(b:Bool),cx G.S w v d->ax G w (if ok then .tuple #[v, .bool b]else v) (bif ok then .bp [.d d, .d (.v (.bool b))]else .d d):=λv d b hp=>by
  cases ok with
  |false=>exact .d hp
  |true=>
   refine .bp #[v, .bool b] _ rfl λi u c hu hc=> ?_
   match i with
   |0=>simp at hu hc;subst hu;subst hc;exact .d hp
   |1=>simp at hu hc;subst hu;subst hc;exact .d (.v _)
   |i+2=>simp at hu
 rcases MapKept.findNow_spec (oY (s:=s)) es.toList 0 Be with⟨h1,h2⟩|⟨j,e0,h1,h2,h3⟩
 ·have afn:dk kv s=none:=by
   cases hq:dk kv s with
   |none=>rfl
   |some d=>
    obtain⟨x,hx,kM⟩:=hm.all s d hq;exact absurd kM (h2 x hx)
  refine⟨if ok then .tuple #[z, .bool false]else z,?_,?_⟩
  ·simp [Instr.lookup,run_underlying (zg hT),MapKept.run_getObj_map hh,MapKept.run_checkKey og oY,MapKept.run_findKey og h1,Cg hz,Result.andThen]
  ·rw[afn];have:=one z (.v z) false (.v z);unfold rh;exact this
 ·have iF:e0∈es.toList:=af8 h2;obtain⟨s',d,k1,k2,k3⟩:=hm.da e0 iF;rw[h3]at k1;cases k1
  refine⟨if ok then .tuple #[e0.val, .bool true]else e0.val,?_,?_⟩
  ·simp [Instr.lookup,run_underlying (zg hT),MapKept.run_getObj_map hh,MapKept.run_checkKey og oY,MapKept.run_findKey og h1,Result.andThen]
  ·rw[k2];have:=one e0.val d true k3;unfold rh;exact this
theorem ZP{T k e:TypeId}{n:Nat}{kv:agK (agL×D)}{s:agL}{v:agO}{d:D}(hi:bg G w h)(hT:pA P T=some (k,e))(hk:fu P k=true)(hn:h[n]?=some (.map kv))(hv:cx G.S w v d)(hlen:kv.length<maxLen):
 ∃w',(Instr.mapUpdate T (.map (some (G.aF n))) (.string s) v).run P w= .ok () w'/\a7 G.N G w G w'/\bg G w' (h.set n (.map ((s,d)::kv))):=by
 obtain⟨hZ,hS,es,clock,hh,hm⟩:=hi.b6 n _ hn;have Be:∀x∈es.toList,MapKept.IsKey .string x.key:=λx hx=>by
  obtain⟨s',d,h1,_⟩:=hm.da x hx;rw[h1];exact oY
 have og:=pe hk;have fin:∀(tV:Array MapEntry)(xt:Nat)(w':agP),w'=ChangeMaps.setBlock w (G.aF n) (.map tV xt)->ma G.S w tV xt ((s,d)::kv)->a7 G.N G w G w'/\bg G w' (h.set n (.map ((s,d)::kv))):=by
  intro tV xt w' dq iE;have ga:∀b,b≠G.aF n->w'.heap[b]?=w.heap[b]?:=λb hb=>by rw[dq];exact ChangeMaps.heap_setBlock_other hh _ hb
  have Iv:w'.heap[G.aF n]?=some (.map tV xt):=by rw[dq];exact ChangeMaps.heap_setBlock_same hh _
  have eQ:w'.heap.size=w.heap.size:=by rw[dq];simp [ChangeMaps.setBlock]
  have fQ:∀b o,G.S b o->w'.cell? ⟨b,o,none⟩=w.cell? ⟨b,o,none⟩:=λb o hs=>World.cell?_of_block (ga b (λe=>hS o (e▸hs)));have hE:a7 G.N G w G w':=⟨by rw[eQ];exact af6 _,λ_ _ h=>h,fQ,λ_ _=>rfl,λ_ _=> .inl ⟨rfl,rfl⟩,fi rfl,λb hb=>ga b (λe=>hZ (e▸hb)),by rw[dq];rfl,by rw[dq];rfl,by rw[dq];rfl,λ_ _ h=> .inl h⟩;refine⟨hE,?_⟩;have kd:bj h G n=some (G.aF n):=cJ hn;have jQ:(h.set n (.map ((s,d)::kv)))[n]?=some (.map ((s,d)::kv)):=by rw[agp (afV.1 hn).1]
  have dt:∀m,m≠n->(h.set n (.map ((s,d)::kv)))[m]?=h[m]?:=λm hm=>by rw[agu (Ne.symm hm)]
  have db:∀m,bj (h.set n (.map ((s,d)::kv))) G m=bj h G m:=λm=>by
   by_cases e:m=n
   ·subst e;rw[cJ jQ,cJ hn];rfl
   ·unfold bj;rw[dt m e]
  refine⟨by rw[List.length_set];exact hi.len,λb hb=>agk (hi.z b hb) hE.size,λb o hs=>agk (hi.S b o hs) hE.size,λm B hB=> ?_,λm m' b h1 h2=>hi.inj m m' b (by rw[<-db];exact h1) (by rw[<-db];exact h2),hi.gl.aG hE⟩;by_cases e:m=n
  ·subst e;rw[jQ]at hB;cases hB
   exact⟨hZ,hS,tV,xt,Iv,iE.aG (λ_ _ h=>h) fQ⟩
  ·rw[dt m e]at hB;have bQ:∀b,bj h G m=some b->b≠G.aF n:=λb hb eb=>e (hi.inj m n b hb (by rw[eb];exact kd));exact cX.aG (hi.lt hB) hE (af6 _) ⟨rfl,rfl,rfl⟩ (λb hb=>⟨ga b (bQ _ ((cJ hB).trans hb)),λo h=>h⟩) (hi.b6 m B hB)
 rcases MapKept.findNow_spec (oY (s:=s)) es.toList 0 Be with⟨h1,h2⟩|⟨j,e0,h1,h2,h3⟩
 ·have iE:ma G.S w (es.push ⟨.string s,v,clock⟩) (clock+1) ((s,d)::kv):=by
   refine⟨by have:=hm.len;simp;omega,MapKept.stamped_push hm.stamped h2,λx hx=> ?_,λs' d' bR=> ?_,by have:=hm.len;simp;omega,λi e he=> ?_,by rw[hm.wO];simp⟩
   ·simp only[Array.toList_push,agy,List.mem_singleton]at hx;rcases hx with hx|rfl
    ·obtain⟨s',d',k1,k2,k3⟩:=hm.da x hx;refine⟨s',d',k1,?_,k3⟩;rw[pZ,if_neg (λe=>h2 x hx (by rw[k1,e]))];exact k2
    ·exact⟨s,d,rfl,by rw[pZ,if_pos rfl],hv⟩
   ·rw[pZ]at bR;simp only[Array.toList_push,agy,List.mem_singleton];split at bR
    ·next e=>subst e;exact⟨_, .inr rfl,rfl⟩
    ·obtain⟨x,hx,hk⟩:=hm.all s' d' bR;exact⟨x, .inl hx,hk⟩
   ·rw[Array.getElem?_push]at he;split at he
    ·next ei=>cases he;rw[ei];exact hm.wO
    ·exact hm.born i e he
  obtain⟨f1,f2⟩:=fin _ _ _ rfl iE;refine⟨_,?_,f1,f2⟩;simp [Instr.mapUpdate,run_underlying (zg hT),MapKept.run_getObj_map hh,MapKept.run_checkKey og oY,MapKept.run_findKey og h1,MapKept.run_setObj_map _ hh,Result.andThen,ChangeMaps.setBlock]
 ·have hj:es[j]?=some e0:=by simpa using h2
  have vy:j<es.toList.length:=(afV.1 h2).1;have afj:∀e',es[j]?=some e'->({e' with key:= .string s,val:=v}:MapEntry).key=e'.key:=λe' oH=>by rw[hj]at oH;cases oH;exact h3.symm
  have BI:(es.modify j (λe'=>{e' with key:= .string s,val:=v})).toList=es.toList.set j {e0 with key:= .string s,val:=v}:=by
   rw[Array.toList_modify];exact ChangeMaps.modify_eq_set _ _ _ _ h2
  have gC:(es.toList.map (·.key)).Nodup:=hm.stamped.2.2;have iE:ma G.S w (es.modify j (λe'=>{e' with key:= .string s,val:=v})) clock ((s,d)::kv):=by
   refine⟨by simpa using hm.size,MapKept.stamped_modify hm.stamped _ _ (λ_ _=>rfl) (λe' _ oH=>afj e' oH),λx hx=> ?_,λs' d' bR=> ?_,by have:=hm.len;simp;omega,λi e he=> ?_,by rw[hm.wO];simp⟩
   ·rw[BI]at hx;obtain⟨i,cy,ex⟩:=List.getElem_of_mem hx;rw[List.getElem_set]at ex;split at ex
    ·rw[<-ex];exact⟨s,d,rfl,by rw[pZ,if_pos rfl],hv⟩
    ·next bQ=>
     have iQ:i<es.toList.length:=by simpa using cy
     have lE:x∈es.toList:=by rw[<-ex];exact List.getElem_mem iQ
     obtain⟨s',d',k1,k2,k3⟩:=hm.da x lE;refine⟨s',d',k1,?_,k3⟩;rw[pZ,if_neg ?_]
     ·exact k2
     ·intro tV;have a1:(es.toList.map (·.key))[i]?=some (.string s):=by rw[af2,afZ iQ,ex];simp [k1,tV]
      have a2:(es.toList.map (·.key))[j]?=some (.string s):=by rw[af2,h2];simp [h3]
      have U0:i<(es.toList.map (·.key)).length:=by simpa using iQ
      exact bQ ((List.getElem?_inj U0 gC).1 (a1.trans a2.symm)).symm
   ·rw[BI];rw[pZ]at bR;split at bR
    ·next e=>subst e;exact⟨_,List.mem_iff_getElem?.2 ⟨j,agp vy⟩,rfl⟩
    ·next bQ=>
     obtain⟨x,hx,hk⟩:=hm.all s' d' bR;obtain⟨i,cy,ex⟩:=List.getElem_of_mem hx;refine⟨x,List.mem_iff_getElem.2 ⟨i,by simpa using cy,?_⟩,hk⟩;rw[List.getElem_set];split
     ·next e=>
      subst e;exfalso;have:es.toList[j]?=some x:=by rw[afZ cy,ex]
      rw[this]at h2;cases h2
      rw[h3]at hk;injection hk with hk;exact bQ hk
     ·exact ex
   ·rw[Array.getElem?_modify]at he;split at he
    ·next ei=>
     subst ei;rw[hj]at he;cases he
     exact hm.born _ e0 hj
    ·exact hm.born i e he
  obtain⟨f1,f2⟩:=fin _ _ _ rfl iE;refine⟨_,?_,f1,f2⟩;simp [Instr.mapUpdate,run_underlying (zg hT),MapKept.run_getObj_map hh,MapKept.run_checkKey og oY,MapKept.run_findKey og h1,hj,h3,MapKept.run_keyThatStays oY,MapKept.run_setObj_map _ hh,Result.andThen,ChangeMaps.setBlock]
end
set_option linter.unusedVariables false
set_option linter.unusedSimpArgs false
section
variable {P:agN} {G:Gh} {w:agP} {h:agK aj}
theorem Cr{w':agP}(hi:bg G w h){n:Nat}{B B':aj}(hn:h[n]?=some B)(qH:∀G':Gh,B.cS G' n=G'.ow n)(GO:∀G':Gh,B'.cS G' n=G'.ow n)(S:Nat->Nat->Prop)(v:agO)(len:Nat)(ow:agM Nat)
 (hE:a7 G.N G w (G.grow n S v len ow) w') (hg:∀g,ow=some g->(g=w.heap.size\/G.ow n=some g)/\g<w'.heap.size)
 (hS:∀b o,S b o->G.S b o\/ow=some b) (ga:∀b,b<w.heap.size->ow≠some b->w'.heap[b]?=w.heap[b]?)
 (hB:cX (G.grow n S v len ow) w' n B'):bg (G.grow n S v len ow) w' (h.set n B'):=by
 have dt:∀m,m≠n->(h.set n B')[m]?=h[m]?:=λm hm=>by rw[agu (Ne.symm hm)]
 have jQ:(h.set n B')[n]?=some B':=by rw[agp (afV.1 hn).1]
 have j7:∀m(C:aj),m≠n->C.cS (G.grow n S v len ow) m=C.cS G m:=λm C hm=>by
  cases C<;>simp [aj.cS,Gh.grow,hm]
 have db:∀m,m≠n->bj (h.set n B') (G.grow n S v len ow) m=bj h G m:=λm hm=>by
  unfold bj;rw[dt m hm];cases h[m]? with
  |none=>rfl
  |some C=>exact j7 m C hm
 have zi:bj (h.set n B') (G.grow n S v len ow) n=ow:=by rw[cJ jQ,GO];simp [Gh.grow]
 have sw:∀m b,m≠n->ow=some b->bj h G m≠some b:=λm b hm ho hb=>by
  rcases (hg b ho).1 with hg|hg
  ·have:=hi.fR hb;omega
  ·exact hm (hi.inj m n b hb ((cJ hn).trans ((qH G).trans hg)))
 refine⟨by rw[List.length_set];exact hi.len,λb hb=>agk (hi.z b hb) hE.size,λb o hs=> ?_,λm C hm=> ?_,λm m' b h1 h2=> ?_,hi.gl.aG hE⟩
 ·rcases hS b o hs with hs|hs
  ·exact agk (hi.S b o hs) hE.size
  ·exact(hg b hs).2
 ·by_cases em:m=n
  ·subst em;rw[jQ]at hm;cases hm;exact hB
  ·rw[dt m em]at hm;refine cX.aG (hi.lt hm) hE (af6 _) ⟨by simp [Gh.grow,em],by simp [Gh.grow,em],by simp [Gh.grow,em]⟩ (λb hb=> ?_) (hi.b6 m C hm);have hr:bj h G m=some b:=(cJ hm).trans hb;have bQ:ow≠some b:=λe'=>sw m b em e' hr;refine⟨ga _ (hi.fR hr) bQ,λo iC hs=> ?_⟩;rcases hS _ o hs with hs|hs
   ·exact iC hs
   ·exact bQ hs
 ·by_cases e1:m=n<;>by_cases e2:m'=n
  ·rw[e1,e2]
  ·subst e1;rw[db m' e2]at h2;rw[zi]at h1;exact absurd h2 (sw m' b e2 h1)
  ·subst e2;rw[db m e1]at h1;rw[zi]at h2;exact absurd h1 (sw m b e1 h2)
  ·rw[db m e1]at h1;rw[db m' e2]at h2;exact hi.inj m m' b h1 h2
def Gh.dy(G:Gh)(v:agO)(len:Nat)(ow:agM Nat):Gh:=
 {G with N:=G.N+1,sg:=λn=>if n=G.N then v else G.sg n,fl:=λn=>if n=G.N then len else G.fl n,ow:=λn=>if n=G.N then ow else G.ow n}
theorem I3{w':agP}(hi:bg G w h)(B:aj)(qH:∀(G':Gh) n,B.cS G' n=G'.ow n)(v:agO)(len:Nat)(ow:agM Nat)(hw:(∀b,b<w.heap.size->w'.heap[b]?=w.heap[b]?)/\w.heap.size<=w'.heap.size/\w'.os=w.os/\w'.tape=w.tape/\w'.output=w.output)
 (how:∀g,ow=some g->w.heap.size<=g)
 (hB:cX (G.dy v len ow) w' G.N B):a7 G.N G w (G.dy v len ow) w'/\bg (G.dy v len ow) w' (h++[B]):=by
 have bQ:∀n,n<G.N->n≠G.N:=λn hn=>Nat.ne_of_lt hn;have hE:a7 G.N G w (G.dy v len ow) w':=⟨hw.2.1,λ_ _ h=>h,λb o hs=>World.cell?_of_block (hw.1 b (hi.S b o hs)),λ_ _=>rfl,λn hn=> .inl ⟨by simp [Gh.dy,bQ n hn],by simp [Gh.dy,bQ n hn]⟩,fi rfl,λb hb=>hw.1 b (hi.z b hb),hw.2.2.1,hw.2.2.2.1,hw.2.2.2.2,λ_ _ h=> .inl h⟩;have hN:G.N<=(G.dy v len ow).N:=Nat.le_succ _;have j7:∀n(C:aj),n<G.N->C.cS (G.dy v len ow) n=C.cS G n:=λn C hn=>by
  cases C<;>simp [aj.cS,Gh.dy,Nat.ne_of_lt hn]
 have key:∀n b,bj (h++[B]) (G.dy v len ow) n=some b->(n<G.N/\bj h G n=some b)\/(n=G.N/\ow=some b):=λn b hb=>by
  by_cases hn:n<h.length
  ·unfold bj at hb;rw[af5 hn,afZ hn]at hb;exact .inl ⟨hi.len▸hn,by unfold bj;rw[afZ hn,<-hb];exact(j7 n _ (hi.len▸hn)).symm⟩
  ·by_cases en:n=h.length
   ·subst en;rw[cJ (B:=B) (by simp),qH]at hb;exact .inr ⟨hi.len,by simpa [Gh.dy,hi.len]using hb⟩
   ·rw[ss (ags (by simp;omega))]at hb;cases hb
 refine⟨hE,by simp [Gh.dy,hi.len],λb hb=>agk (hi.z b hb) hw.2.1,λb o hs=>agk (hi.S b o hs) hw.2.1,λn C hC=> ?_,λm n b h1 h2=> ?_,hi.gl.aG hE⟩
 ·by_cases hn:n<h.length
  ·rw[af5 hn]at hC;have dA:n<G.N:=hi.len▸hn;exact cX.aG dA hE hN ⟨by simp [Gh.dy,bQ n dA],by simp [Gh.dy,bQ n dA],by simp [Gh.dy,bQ n dA]⟩ (λb hb=>⟨hw.1 b (hi.fR ((cJ hC).trans hb)),λo h=>h⟩) (hi.b6 n C hC)
  ·have jH:n=h.length:=by
    have:=(afV.1 hC).1;simp at this;omega
   subst jH;simp at hC;subst hC;rw[hi.len];exact hB
 ·rcases key m b h1 with⟨_,a1⟩|⟨rfl,a1⟩<;>rcases key n b h2 with⟨_,b1⟩|⟨rfl,b1⟩
  ·exact hi.inj m n b a1 b1
  ·have:=hi.fR a1;have:=how b b1;omega
  ·have:=hi.fR b1;have:=how b a1;omega
  ·rfl
theorem ax.rG{n o len L k:Nat}{e:TypeId}{cs:agK (agK J)}{u:agO}(hi:bg G w h)(hn:h[n]?=some (.vec e k cs))(hL:cs.length=L)(hv:ax G w u (.vec n o len L k)):O0 (G.sg n) u o len L k:=by
 have hb:=(hi.b6 n _ hn).1;cases hv with|vec _ _ _ _ _ h1 h2 h3 h4=>exact h4 (by rw[<-hL,hb])
theorem ax.Pd{n i j L k:Nat}{e:TypeId}{k':Nat}{cs:agK (agK J)}{u:agO}(hi:bg G w h)(hn:h[n]?=some (.vec e k' cs))(hL:cs.length=L)(hv:ax G w u (.cz n i j L k)):Od (G.sg n) u i j L k:=by
 have hb:=(hi.b6 n _ hn).1;cases hv with|cz _ _ _ _ _ h1 h2 h3 h4=>exact h4 (by rw[<-hL,hb])
theorem Al{n:Nat}{e k:Nat}{cs:agK (agK J)}(hi:bg G w h)(hn:h[n]?=some (.vec e k cs))(bQ:cs≠ []):∃(g cap:Nat)(cur:Array agO),G.ow n=some g/\G.sg n= .slice (some ⟨g,0,none⟩) cs.length cap/\¬G.Z g/\w.heap[g]?=some (.cells cur e (0,0))/\cs.length<=cap/\cap<=maxLen/\cur.size=cap*k/\(∀o,¬G.S g o)/\
        ∀(i j:Nat)(c:agK J)(x:J)(u:agO),cs[i]?=some c->c[j]?=some x->cur[i*k+j]?=some u->ax G w u x:=by
 obtain⟨_,_,_,h4|h4⟩:=hi.b6 n _ hn
 ·exact absurd h4.2.1 bQ
 ·exact h4
theorem AJ{n:Nat}{e k:Nat}{cs:agK (agK J)}(hi:bg G w h)(hn:h[n]?=some (.vec e k cs)):∀c∈cs,c.length=k:=(hi.b6 n _ hn).2.2.1
theorem kh{i k L j:Nat}(hi:i<L)(hj:j<k):i*k+j<L*k:=by
 have:(i+1)*k<=L*k:=Nat.mul_le_mul_right k hi;rw[Nat.add_mul]at this;omega
theorem Ca{i k j:Nat}(hj:j<k):(i*k+j)/ k=i/\(i*k+j)%k=j:=by
 have hk:0<k:=by omega
 exact⟨by rw[Nat.add_comm,Nat.add_mul_div_right _ _ hk,Nat.div_eq_of_lt hj,agf],by rw[Nat.add_comm,Nat.add_mul_mod_self_right,Nat.mod_eq_of_lt hj]⟩
theorem Zf{i i' j j' k:Nat}(hj:j<k)(fI:j'<k)(e:i*k+j=i'*k+j'):i=i'/\j=j':=by
 have h1:=Ca (i:=i) hj;have h2:=Ca (i:=i') fI;exact⟨by rw[<-h1.1,<-h2.1,e],by rw[<-h1.2,<-h2.2,e]⟩
theorem aee{t n i j L k:Nat}{e:TypeId}{cs:agK (agK J)}{c:agK J}{x:J}{v:agO}(hi:bg G w h)(hn:h[n]?=some (.vec e k cs))(hL:cs.length=L)(hc:cs[i]?=some c)(hx:GP P t c j=some x)(hv:ax G w v (.cz n i j L k)):
 ∃u,(Instr.loadAt t v).run P w= .ok u w/\ax G w u x:=by
 have iu:i<cs.length:=(afV.1 hc).1;have Nz:c.length=k:=AJ hi hn c (af8 hc);obtain⟨g,cap,cur,r1,r2,r3,r4,r5,r6,r7,r8,r9⟩:=Al hi hn (λe=>by subst e;simp at iu);obtain⟨_,g',A6,p1,p2⟩:=hv.Pd hi hn hL;rw[r2]at p1;cases p1
 have h1:∀q,q<c.length->w.cell? ⟨g,i*k+q,none⟩=some (cur.getD (i*k+q) undef):=λq hq=>by
  rw[cell_of_row w g _ cur e (0,0) r4];have:i*k+q<cur.size:=by
    rw[r7];exact agk (kh iu (by omega)) (Nat.mul_le_mul_right k r5)
  simp [Array.getD,this]
 have h2:∀(q:Nat)(y:J),c[q]?=some y->ax G w (cur.getD (i*k+q) undef) y:=λq y hq=>by
  have Jw:=(afV.1 hq).1;have az:i*k+q<cur.size:=by
   rw[r7];exact agk (kh iu (by omega)) (Nat.mul_le_mul_right k r5)
  have e1:cur[i*k+q]?=some (cur.getD (i*k+q) undef):=by simp [Array.getD,az]
  exact r9 i q c y _ hc hq e1
 have key:=N1 (P:=P) (G:=G) (w:=w) (t:=t) (C:=(·=x)) g (i*k) c j (λq=>cur.getD (i*k+q) undef) h1 h2 (by
  unfold GP at hx;revert hx;cases jS P t with
  |none=>intro hx;cases hx
  |some ag=>
   cases eD P t with
   |none=>cases ag<;>(intro hx;cases hx)
   |some kk=>
    cases ag with
    |true=>
     simp only;intro hx;cases hb:bB (j+kk) c.length with
     |false=>rw[hb]at hx;cases hx
     |true=>rw[hb]at hx;cases hx;exact rfl
    |false=>
     simp only;intro hx;rw[hx])
 obtain⟨u,y,k1,k2,rfl⟩:=key;refine⟨u,?_,k2⟩;rw[p2];simp [Instr.loadAt,Instr.sureAddr,k1]
theorem Wd{t b off k:Nat}{T:TypeId}{v:agO}{vs:Array agO}(hh:w.heap[b]?=some (.cells vs T (0,0)))(ht:eD P t=some k)(hk:v.cells.size=k)(gu:∀u∈v.cells.toList,u.oneCell'=true)(hb:off+k<=vs.size):
 (storeVar t ⟨b,off,none⟩ v).run P w= .ok () (w.setRow b (vs.toList.take off++v.cells.toList++vs.toList.drop (off+v.cells.toList.length)).toArray):=by
 obtain⟨i,hi1,iQ⟩:=Nq ht;have jo:=run_storeCells_at P b off T v.cells.toList 0 vs w hh (by rw[agt,hk];simpa using hb) gu;simp only[Nat.add_zero]at jo;unfold storeVar;simp only[sizeOf,typeInfo,Sem.run_bind,hk];simp [hi1,iQ,jo]
theorem MO(vs:Array agO)(us:agK agO)(off q:Nat)(hb:off+us.length<=vs.size):(vs.toList.take off++us++vs.toList.drop (off+us.length)).toArray[q]?=if off<=q/\q<off+us.length then us[q-off]? else vs[q]?:=by
 rw[List.getElem?_toArray,agc];have tU:vs.toList.length=vs.size:=agt;by_cases h1:q<off
 ·rw[af5 (by simp;omega),List.getElem?_take_of_lt h1,if_neg (by omega),agj]
 ·rw[agb (by simp;omega)];simp only[List.length_take,tU];rw[Nat.min_eq_left (by omega)];by_cases h2:q<off+us.length
  ·rw[af5 (by omega),if_pos (by omega)]
  ·rw[agb (by omega),List.getElem?_drop,if_neg (by omega),show off+us.length+(q-off-us.length)=q by omega,agj]
theorem Oz(vs:Array agO)(us:agK agO)(off:Nat)(hb:off+us.length<=vs.size):(vs.toList.take off++us++vs.toList.drop (off+us.length)).toArray.size=vs.size:=by
 simp only[List.size_toArray,afW,List.length_take,List.length_drop,agt];omega
theorem T9(cs ys:agK J)(off q:Nat)(hb:off+ys.length<=cs.length):(gM cs off ys)[q]?=if off<=q/\q<off+ys.length then ys[q-off]? else cs[q]?:=by
 unfold gM;rw[agc];by_cases h1:q<off
 ·rw[af5 (by simp;omega),List.getElem?_take_of_lt h1,if_neg (by omega)]
 ·rw[agb (by simp;omega)];simp only[List.length_take];rw[Nat.min_eq_left (by omega)];by_cases h2:q<off+ys.length
  ·rw[af5 (by omega),if_pos (by omega)]
  ·rw[agb (by omega),List.getElem?_drop,if_neg (by omega),show off+ys.length+(q-off-ys.length)=q by omega]
theorem Ny{n e k g cap:Nat}{cs bC:agK (agK J)}{cur:Array agO}{us:agK agO}{off:Nat}(hi:bg G w h)(hn:h[n]?=some (.vec e k cs))(eZ:0<k)(r1:G.ow n=some g)(r2:G.sg n= .slice (some ⟨g,0,none⟩) cs.length cap)(r3:¬G.Z g)(r4:w.heap[g]?=some (.cells cur e (0,0)))(r5:cs.length<=cap)(r6:cap<=maxLen)(r7:cur.size=cap*k)(r8:∀o,¬G.S g o)
 (hb:off+us.length<=cur.size) (hl:bC.length=cs.length) (gD:∀c∈bC,c.length=k)
 (uM:∀(i j:Nat)(c:agK J)(x:J)(u:agO),bC[i]?=some c->c[j]?=some x->(if off<=i*k+j/\i*k+j<off+us.length then us[i*k+j-off]? else cur[i*k+j]?)=some u->ax G w u x):
 ∃G',a7 G.N G w G' (w.setRow g (cur.toList.take off++us++cur.toList.drop (off+us.length)).toArray)/\G'.N=G.N/\bg G' (w.setRow g (cur.toList.take off++us++cur.toList.drop (off+us.length)).toArray) (h.set n (.vec e k bC))/\(∀m,G'.sg m=G.sg m)/\(∀m,G'.fl m=G.fl m):=by
 obtain⟨w',dq⟩:∃w',w'=w.setRow g (cur.toList.take off++us++cur.toList.drop (off+us.length)).toArray:=⟨_,rfl⟩;rw[<-dq];have ga:∀b,b≠g->w'.heap[b]?=w.heap[b]?:=λb hb=>by rw[dq];exact setRow_other w g b _ hb
 have lM:w'.heap[g]?=some (.cells (cur.toList.take off++us++cur.toList.drop (off+us.length)).toArray e (0,0)):=by rw[dq];exact setRow_heap w g cur _ e _ r4
 have eQ:w'.heap.size=w.heap.size:=by rw[dq];exact Gq w g _
 obtain⟨G',eH⟩:∃G',G'=G.grow n G.S (G.sg n) (G.fl n) (some g):=⟨_,rfl⟩;have Ix:∀m,G'.sg m=G.sg m:=λm=>by rw[eH];simp only[Gh.grow];split<;>simp_all
 have jY:∀m,G'.fl m=G.fl m:=λm=>by rw[eH];simp only[Gh.grow];split<;>simp_all
 have hE:a7 G.N G w G' w':=⟨by rw[eQ];exact af6 _,λb o h=>by rw[eH];exact h,λb o hs=>World.cell?_of_block (ga b (λe=>r8 o (e▸hs))),λ_ _=>by rw[eH];rfl,λm _=> .inl ⟨jY m,Ix m⟩,fi (by rw[eH];rfl) (by rw[eH];rfl),λb hb=>ga b (λe=>r3 (e▸hb)),by rw[dq];rfl,by rw[dq];rfl,by rw[dq];rfl,λb o hs=> .inl (by rw[eH]at hs;exact hs)⟩;have qy:=hi.b6 n _ hn;refine⟨G',hE,by rw[eH];rfl,?_,Ix,jY⟩;subst eH;refine Cr hi hn (λ_=>rfl) (λ_=>rfl) _ _ _ _ hE (λg' pE=> ?_) (λb o hs=> .inl hs) (λb _ dZ=>ga b (λe=>dZ (by rw[e]))) ?_
 ·cases pE;exact⟨.inr r1,by rw[eQ];exact(aga.1 r4).1⟩
 ·refine⟨by rw[jY,hl];exact qy.1,by rw[hl];exact qy.2.1,gD, .inr ⟨g,cap,_,by simp [Gh.grow],by rw[Ix,hl];exact r2,r3,lM,by rw[hl];exact r5,r6,by rw[Oz _ _ _ hb];exact r7,r8,λi j c x u hc hx hu=> ?_⟩⟩;rw[MO _ _ _ _ hb]at hu;exact(uM i j c x u hc hx hu).aG hE (af6 _)
theorem T7{t n i j L k:Nat}{e:TypeId}{cs:agK (agK J)}{c:agK J}{x:J}{v u:agO}(hi:bg G w h)(hn:h[n]?=some (.vec e k cs))(hL:cs.length=L)(hc:cs[i]?=some c)(hv:ax G w v (.cz n i j L k))(hx:ax G w u x)(Ha:x.gZ=true)(ht:eD P t=some x.cells.length)(hj:j+x.cells.length<=k)(eZ:0<k):
 ∃w' G',(Instr.storeAt t v u).run P w= .ok () w'/\a7 G.N G w G' w'/\G.N<=G'.N/\bg G' w' (h.set n (.vec e k (cs.set i (gM c j x.cells)))):=by
 have iu:i<cs.length:=(afV.1 hc).1;have gD:=AJ hi hn;have Nz:c.length=k:=gD c (af8 hc);obtain⟨g,cap,cur,r1,r2,r3,r4,r5,r6,r7,r8,r9⟩:=Al hi hn (λe=>by subst e;simp at iu);obtain⟨_,g',A6,p1,p2⟩:=hv.Pd hi hn hL;rw[r2]at p1;cases p1
 obtain⟨c1,c2⟩:=hx.cells Ha;have l8:u.cells.toList.length=x.cells.length:=by rw[agt,c1]
 have gu:∀y∈u.cells.toList,y.oneCell'=true:=λy hy=>by
  obtain⟨q,hq⟩:=List.mem_iff_getElem?.1 hy;have Jw:u.cells[q]?=some y:=by rw[<-agj];exact hq
  have hql:q<x.cells.length:=by rw[<-c1];exact(aga.1 Jw).1
  exact(c2 q y _ Jw (afZ hql)).2
 have jL:i*k+j+x.cells.length<=cur.size:=by
  have h1:(i+1)*k<=cap*k:=Nat.mul_le_mul_right k (agk iu r5);rw[Nat.add_mul]at h1;rw[r7];omega
 have cG:=Wd (P:=P) (off:=i*k+j) r4 ht c1 gu jL;obtain⟨G',e1,e2,e3,_⟩:=Ny (us:=u.cells.toList) (off:=i*k+j) (bC:=cs.set i (gM c j x.cells)) hi hn eZ r1 r2 r3 r4 r5 r6 r7 r8 (by rw[l8];exact jL) (by rw[List.length_set]) (λd hd=>by
     obtain⟨q,hq⟩:=List.mem_iff_getElem?.1 hd;by_cases e:i=q
     ·subst e;rw[agp iu]at hq;cases hq
      rw[yH _ _ _ (by omega)];exact Nz
     ·rw[agu e]at hq;exact gD d (af8 hq)) (λa b d y z hd hy hz=>by
     have gF:b<k:=by
      by_cases e:i=a
      ·subst e;rw[agp iu]at hd;cases hd
       have:=(afV.1 hy).1;rw[yH _ _ _ (by omega)]at this;omega
      ·rw[agu e]at hd;rw[<-gD d (af8 hd)];exact(afV.1 hy).1
     rw[l8]at hz;by_cases e:i=a
     ·subst e;rw[agp iu]at hd;cases hd
      rw[T9 _ _ _ _ (by omega)]at hy;by_cases hb:j<=b/\b<j+x.cells.length
      ·rw[if_pos hb]at hy;rw[if_pos (by omega),show i*k+b-(i*k+j)=b-j by omega,agj]at hz;exact(c2 _ _ _ hz hy).1
      ·rw[if_neg hb]at hy;rw[if_neg (by omega)]at hz;exact r9 i b c y z hc hy hz
     ·rw[agu e]at hd;rw[if_neg ?_]at hz
      ·exact r9 a b d y z hd hy hz
      ·intro hh;have:a*k+b=i*k+(a*k+b-i*k):=by omega
       exact e ((Zf (i:=a) (i':=i) (j:=b) (j':=a*k+b-i*k) gF (by omega) this).1.symm))
 refine⟨_,G',?_,e1,by rw[e2];exact af6 _,e3⟩;rw[p2];simp [Instr.storeAt,Instr.sureAddr,cG]
end
section
variable {P:agN} {G:Gh} {w:agP} {h:agK aj}
structure wJ(G:Gh)(w:World)(k:Nat)(ys:List (List J))(us:List Value):Prop where
 len:us.length=ys.length*k
 wid:∀c∈ys,c.length=k
 one:∀u∈us,u.oneCell'=true
 rel:∀(i j:Nat)(c:List J)(x:J)(u:Value),ys[i]?=some c->c[j]?=some x->us[i*k+j]?=some u->ax G w u x
theorem Jm{k tx e':Nat}{y:J}{v:agO}{ys:agK (agK J)}(hi:bg G w h)(hv:ax G w v y)(hs:Bi h k y ys)(eZ:0<k)(hT:P.underlying tx=some (.slice e')):
 ∃us,wJ G w k ys us/\Src P k tx v ys.length us w:=by
 rcases hs with⟨xs,h1,h2,rfl⟩|⟨n,o,len,L,e,cs,rfl,h2,h3,h4,h5⟩
 ·obtain⟨us,hr,su⟩:=(hv.list h1).src eZ h2 hT;have hl:(bW xs).length=xs.length:=by unfold bW;rw[af0]
  refine⟨us,⟨by rw[hl];exact hr.len,λc hc=> ?_,hr.one,λi j c x u hc hx hu=> ?_⟩,by rw[hl];exact su⟩
  ·unfold bW at hc;obtain⟨d,hd,rfl⟩:=List.mem_map.1 hc;rw[af0];exact h2 d hd
  ·unfold bW at hc;rw[af2]at hc;cases lE:xs[i]? with
   |none=>rw[lE]at hc;cases hc
   |some d=>
    rw[lE]at hc;cases hc
    rw[af2]at hx;cases hy:d[j]? with
    |none=>rw[hy]at hx;cases hx
    |some z=>
     rw[hy]at hx;cases hx
     obtain⟨u',a1,a2⟩:=hr.rel i j d z lE hy;rw[a1]at hu;cases hu
     exact .d a2
 ·have jy:=hv.rG hi h2 h3;obtain⟨A,c,rfl,c1,c2,c3,c4⟩:=jy.sl;have uk:ys.length=len:=by rw[h4,List.length_take,List.length_drop,h3];have:=jy.ol;omega
  by_cases h0:len=0
  ·subst h0;have:ys=[]:=List.eq_nil_of_length_eq_zero uk;subst this;refine⟨[],⟨by simp,(λ_ h=>by cases h),(λ_ h=>by cases h),λi j c x u hc=>by simp at hc⟩,?_⟩;cases A with
   |none=>exact Src.ofNil w hT c
   |some a=>exact Src.ofSlice w hT a 0 c [] (by simp) (λj u hu=>by simp at hu) (λu hu=>by cases hu)
  ·have ho:o<L:=by have:=jy.ol;omega
   obtain⟨g,cap,p1,rfl,p3⟩:=c4 ho;have bQ:cs≠ []:=λe=>by subst e;simp at h3;omega
   obtain⟨g',A6,cur,r1,r2,r3,r4,r5,r6,r7,r8,r9⟩:=Al hi h2 bQ;rw[r2]at p1;cases p1
   have gD:=AJ hi h2;have fQ:∀q,q<len*k->o*k+q<cur.size:=λq hq=>by
    have h1:(o+len)*k<=cap*k:=Nat.mul_le_mul_right k (by have:=jy.ol;omega);rw[Nat.add_mul]at h1;rw[r7];omega
   have jg:∀i,i<len->ys[i]?=cs[o+i]?:=λi cy=>by rw[h4,List.getElem?_take_of_lt cy,List.getElem?_drop]
   have gu:∀q,q<len*k->(cur.getD (o*k+q) undef).oneCell'=true:=λq hq=>by
    have GZ:q / k<len:=Nat.div_lt_of_lt_mul (by rw[Nat.mul_comm];exact hq);have XV:q%k<k:=Nat.mod_lt _ eZ;obtain⟨d,eN⟩:∃d,cs[o+q / k]?=some d:=⟨_,afZ (by have:=jy.ol;omega)⟩;have xS:=gD _ (af8 eN);obtain⟨x,hx⟩:∃x,d[q%k]?=some x:=⟨_,afZ (by rw[xS];exact XV)⟩;have e1:(o+q / k)*k+q%k=o*k+q:=by
     rw[Nat.add_mul];have:=Nat.div_add_mod q k;rw[Nat.mul_comm]at this;omega
    have hu':cur[(o+q / k)*k+q%k]?=some (cur.getD (o*k+q) undef):=by
     rw[e1];simp [Array.getD,fQ q hq]
    refine(r9 _ _ _ _ _ eN hx hu').iJ ?_;have iF:d∈ys:=af8 ((jg _ GZ).trans eN);have:=h5 _ iF;rw[agm]at this;exact this _ (af8 hx)
   refine⟨(List.range (len*k)).map λq=>cur.getD (o*k+q) undef,⟨by rw[uk];simp,λc hc=>gD c ?_,λu hu=> ?_,λi j c x u hc hx hu=> ?_⟩,?_⟩
   ·rw[h4]at hc;exact List.mem_of_mem_drop (List.mem_of_mem_take hc)
   ·obtain⟨q,hq,rfl⟩:=List.mem_map.1 hu;exact gu q (List.mem_range.1 hq)
   ·have iu:i<len:=by rw[<-uk];exact(afV.1 hc).1
    rw[jg i iu]at hc;have FZ:j<k:=by rw[<-gD c (af8 hc)];exact(afV.1 hx).1
    have az:i*k+j<len*k:=kh iu FZ;rw[af2,List.getElem?_range az]at hu;simp only[Option.map_some,Option.some.injEq]at hu;refine r9 (o+i) j c x u hc hx ?_;rw[<-hu,show(o+i)*k+j=o*k+(i*k+j) by rw[Nat.add_mul];omega];simp [Array.getD,fQ _ az]
   ·rw[uk];refine Src.ofSlice w hT _ len c _ (by simp) (λj u hu=> ?_) (λu hu=> ?_)
    ·rw[js,cell_of_row w g _ cur e (0,0) r4];rw[af2]at hu;by_cases hj:j<len*k
     ·rw[List.getElem?_range hj]at hu;simp only[Option.map_some,Option.some.injEq]at hu;rw[<-hu];simp [Array.getD,fQ _ hj]
     ·rw[ags (by simp;omega)]at hu;cases hu
    ·obtain⟨q,hq,rfl⟩:=List.mem_map.1 hu;exact gu q (List.mem_range.1 hq)
theorem wJ.aG{G':Gh}{w':agP}{k:Nat}{ys:agK (agK J)}{us:agK agO}(h:wJ G w k ys us)(hE:a7 G.N G w G' w')(hN:G.N<=G'.N):wJ G' w' k ys us:=
 ⟨h.len,h.wid,h.one,λi j c x u h1 h2 h3=>(h.rel i j c x u h1 h2 h3).aG hE hN⟩
theorem ad8{α:Type}{k:Nat}(l:agK α)(us:agK α)(m i j:Nat)(hl:l.length=m*k)(hj:j<k):(l++us)[i*k+j]?=if i<m then l[i*k+j]? else us[(i-m)*k+j]?:=by
 by_cases h:i<m
 ·rw[if_pos h,af5 (by rw[hl];exact kh h hj)]
 ·have h1:m*k<=i*k:=Nat.mul_le_mul_right k (by omega);rw[if_neg h,agb (by rw[hl];omega),hl,Nat.sub_mul,show i*k+j-m*k=i*k-m*k+j by omega]
theorem K7{e k cap:Nat}{cs:agK (agK J)}{cur:Array agO}(hi:bg G w h)(h1:cs.length<=cap)(h2:cap<=maxLen)(h3:cur.size=cap*k)(gD:∀c∈cs,c.length=k)(w0:agP)(nx:w0.heap=w.heap/\w0.os=w.os/\w0.tape=w.tape/\w0.output=w.output)
 (uM:∀(i j:Nat)(c:agK J)(x:J)(u:agO),cs[i]?=some c->c[j]?=some x->cur[i*k+j]?=some u->ax G w u x):
 ∃G',a7 G.N G w G' (w0.alloc (.cells cur e))/\G.N<=G'.N/\bg G' (w0.alloc (.cells cur e)) (h++[.vec e k cs])/\∀len,len<=cs.length->ax G' (w0.alloc (.cells cur e)) (.slice (some ⟨w.heap.size,0,none⟩) len cap) (.vec h.length 0 len cs.length k):=by
 have eQ:w0.heap.size=w.heap.size:=by rw[nx.1]
 have eo:(w0.alloc (.cells cur e)).heap[w.heap.size]?=some (.cells cur e (0,0)):=by rw[<-eQ];exact World.alloc_heap_new w0 _
 have hold:∀b,b<w.heap.size->(w0.alloc (.cells cur e)).heap[b]?=w.heap[b]?:=λb hb=>by rw[Below.heap_alloc w0 _ b (by rw[eQ];exact hb),nx.1]
 have hw:(∀b,b<w.heap.size->(w0.alloc (.cells cur e)).heap[b]?=w.heap[b]?)/\w.heap.size<=(w0.alloc (.cells cur e)).heap.size/\(w0.alloc (.cells cur e)).os=w.os/\(w0.alloc (.cells cur e)).tape=w.tape/\(w0.alloc (.cells cur e)).output=w.output:=
  ⟨hold,by simp [eQ],nx.2.1,nx.2.2.1,nx.2.2.2⟩
 obtain⟨sv,jE⟩:∃sv,sv=Value.slice (some ⟨w.heap.size,0,none⟩) cs.length cap:=⟨_,rfl⟩;obtain⟨Am,_⟩:a7 G.N G w (G.dy sv cs.length (some w.heap.size)) (w0.alloc (.cells cur e))/\True:=by
  refine⟨⟨hw.2.1,λ_ _ h=>h,λb o hs=>World.cell?_of_block (hw.1 b (hi.S b o hs)),λ_ _=>rfl,λn hn=> .inl ⟨by simp [Gh.dy,Nat.ne_of_lt hn],by simp [Gh.dy,Nat.ne_of_lt hn]⟩,fi rfl,λb hb=>hw.1 b (hi.z b hb),hw.2.2.1,hw.2.2.2.1,hw.2.2.2.2,λ_ _ h=> .inl h⟩,trivial⟩
 obtain⟨hE,hI⟩:=I3 (w':=w0.alloc (.cells cur e)) hi (.vec e k cs) (λ_ _=>rfl) sv cs.length (some w.heap.size) hw (λg hg=>by cases hg;exact af6 _) (by
  refine⟨by simp [Gh.dy],agd h1 h2,gD, .inr ⟨w.heap.size,cap,cur,by simp [Gh.dy],by simp [Gh.dy,jE],λhz=>agA _ (hi.z _ hz),eo,h1,h2,h3,λo hs=>agA _ (hi.S _ _ hs),λi j c x u hc hx hu=>(uM i j c x u hc hx hu).aG Am (Nat.le_succ _)⟩⟩)
 refine⟨_,hE,Nat.le_succ _,hI,λlen hlen=> ?_⟩;rw[hi.len];refine .vec G.N 0 len cs.length k (by simp [Gh.dy]) ⟨_,_,_,rfl⟩ (by simp [Gh.dy]) λ_=>⟨by omega,⟨_,_,rfl,agd hlen h1,h2,h1,λ_=>⟨w.heap.size,cap,by simp [Gh.dy,jE],by simp,by simp⟩⟩,λ_ e=>by subst e;simp [Gh.dy,jE]⟩
theorem UG{T e k len m cq:Nat}{i:TypeInfo}{z:agO}{kl kc:IntKind}{l c:Int}(hi:bg G w h)(hT:P.underlying T=some (.slice e))(iZ:P.info? e=some i)(hz:i.zero=some z)(lB:i.size=k)(tS:i.bytes=cq)(ik:z.cells.toList.length=k)(eZ:0<k)
 (h0:0<=l) (iW:l<=c) (hl:l.toNat=len) (hc:c.toNat=m) (hm:m<=maxLen) (hb:cq*m<=281474976710656):
 ∃u w' G',(Instr.makeSlice T (.int kl l) (.int kc c)).run P w= .ok u w'/\a7 G.N G w G' w'/\G.N<=G'.N/\bg G' w' (h++[.vec e k (List.replicate m (z.cells.toList.map λu=> .d (.v u)))])/\ax G' w' u (.vec h.length 0 len m k):=by
 subst lB;subst tS;have dZ:(i.bytes:Int)*c<=281474976710656:=by
  have:((i.bytes*m:Nat):Int)<=281474976710656:=by omega
  rw[Int.natCast_mul,<-hc,Int.toNat_of_nonneg (by omega)]at this;exact this
 have Xh:c<=9223372036854775807:=by have h:=hm;simp [maxLen]at h;omega
 have cG:=run_make (P:=P) w T e i z hT iZ hz kl kc l c h0 iW dZ Xh;rw[hl,hc]at cG;have e9:(List.replicate m (z.cells.toList.map λu=>J.d (.v u))).length=m:=agw;obtain⟨G',g1,g2,g3,g4⟩:=K7 (e:=e) (k:=i.size) (cap:=m) (cs:=List.replicate m (z.cells.toList.map λu=>J.d (.v u))) (cur:=madeCells z.cells (m*i.size)) hi (by rw[e9];exact af6 _) hm (size_madeCells _ _) (λc hc=>by
  rw[List.eq_of_mem_replicate hc,af0];exact ik) w ⟨rfl,rfl,rfl,rfl⟩ (λa b c x u hc hx hu=>by
  have:=List.eq_of_mem_replicate (af8 hc);subst this;rw[af2]at hx;cases hq:z.cells.toList[b]? with
  |none=>rw[hq]at hx;cases hx
  |some y=>
   rw[hq]at hx;cases hx
   have gF:b<i.size:=by rw[<-ik];exact(afV.1 hq).1
   have IG:a<m:=by have:=(afV.1 hc).1;rwa [e9]at this
   unfold madeCells at hu;have az:a*i.size+b<m*i.size:=kh IG gF;rw[Array.getElem?_map,Array.getElem?_range,if_pos az]at hu;simp only[Option.map_some,Option.some.injEq]at hu;have gV:z.cells.size=i.size:=by rw[<-agt];exact ik
   rw[gV,(Ca (i:=a) gF).2]at hu;have pn:z.cells[b]?=some y:=by rw[<-agj];exact hq
   rw[getElem!_pos z.cells b (by rw[gV];exact gF)]at hu;rw[agi (by rw[gV];exact gF)]at pn;cases pn
   subst hu;exact .d (.v _))
 rw[e9]at g4;refine⟨_,_,G',cG,g1,g2,g3,g4 len ?_⟩;rw[<-hl,<-hc];omega
theorem Xn{T tx ty e k cq n o len L:Nat}{i:TypeInfo}{z:agO}{u v:agO}{cs ys:agK (agK J)}{us:agK agO}(hi:bg G w h)(hT:P.underlying T=some (.slice e))(iZ:P.info? e=some i)(hz:i.zero=some z)(lB:i.size=k)(tS:i.bytes=cq)(ik:z.cells.size=k)(eZ:0<k)
 (hn:h[n]?=some (.vec e k cs)) (hL:cs.length=L) (hu:ax G w u (.vec n o len L k)) (hr:wJ G w k ys us) (hs:Src P k tx v ys.length us w)
 {L':Nat} {bC:agK (agK J)} (nw:(o+len+ys.length<=L/\L'=L/\bC=cs.take (o+len)++ys++cs.drop (o+len+ys.length))\/(o=0/\len=L/\L'=L+ys.length/\bC=cs++ys/\L'<=maxLen/\L'*cq<=140737488355328)):
 ∃r w' G',(Builtin.append_ #[T,tx] ty #[u,v]).run P w= .ok r w'/\a7 G.N G w G' w'/\G.N<=G'.N/\bg G' w' (h.set n (.vec e k bC))/\ax G' w' r (.vec n o (len+ys.length) L' k):=by
 subst lB;subst tS;have lL:=hi.lt hn;have gD:=AJ hi hn;have jy:=hu.rG hi hn hL;have qy:=hi.b6 n _ hn;have afP:=jy;obtain⟨vM,⟨A,c,rfl,c1,c2,c3,c4⟩,call⟩:=jy;by_cases hy:ys.length=0
 ·have jg:ys=[]:=List.eq_nil_of_length_eq_zero hy;subst jg;have jI:us=[]:=List.eq_nil_of_length_eq_zero (by rw[hr.len];simp);subst jI;have cG:=run_append_nothing (P:=P) w T tx ty e i hT iZ A len c c1 v hs;have e1:bC=cs:=by
   rcases nw with⟨_,_,e⟩|⟨_,_,_,e,_⟩
   ·rw[e];simp
   ·rw[e];simp
  have e2:L'=L:=by
   rcases nw with⟨_,e,_⟩|⟨_,_,e,_⟩
   ·exact e
   ·rw[e];simp
  subst e1;subst e2;refine⟨_,w,G,cG,a7.refl _ _ _,af6 _,?_,by simpa using hu⟩;have:h.set n (.vec e i.size bC)=h:=by
   refine List.ext_getElem? λm=> ?_;by_cases em:m=n
   ·subst em;rw[agp (afV.1 hn).1,hn]
   ·rw[agu (Ne.symm em)]
  rw[this];exact hi
 ·have hy0:0<ys.length:=Nat.pos_of_ne_zero hy;have room:len+ys.length<=c->∀g cap cur,G.ow n=some g->G.sg n= .slice (some ⟨g,0,none⟩) cs.length cap->¬G.Z g->w.heap[g]?=some (.cells cur e (0,0))->cs.length<=cap->cap<=maxLen->cur.size=cap*i.size->(∀o,¬G.S g o)->
      (∀(a b:Nat)(d:agK J)(x:J)(q:agO),cs[a]?=some d->d[b]?=some x->cur[a*i.size+b]?=some q->ax G w q x)->A=some ⟨g,o*i.size,none⟩->o+c=cap->
      ∃r w' G',(Builtin.append_ #[T,tx] ty #[.slice A len c,v]).run P w= .ok r w'/\a7 G.N G w G' w'/\G.N<=G'.N/\bg G' w' (h.set n (.vec e i.size bC))/\ax G' w' r (.vec n o (len+ys.length) L' i.size):=by
   intro lA g cap cur r1 r2 r3 r4 r5 r6 r7 r8 r9 rA rc;have jL:(o+len)*i.size+us.length<=cur.size:=by
    rw[hr.len,r7,<-Nat.add_mul];exact Nat.mul_le_mul_right _ (by omega)
   have wE:∀j,j<us.length->(w.cell? ⟨g,o*i.size+len*i.size+j,none⟩).isSome=true:=λj hj=>by
    rw[cell_of_row w g _ cur e (0,0) r4,agi (by rw[Nat.add_mul]at jL;omega)];rfl
   have cG:=run_append_room_src (P:=P) w T tx ty e i hT iZ g (o*i.size) len c v ys.length us hs lA wE (λj hj=>by unfold World.frozen?;rw[r4];simp);have jo:=run_storeCells_at P g (o*i.size+len*i.size) e us 0 cur w r4 (by rw[Nat.add_mul]at jL;simpa using jL) hr.one;have um:=run_storeCells_cells (P:=P) g (o*i.size+len*i.size) us 0 w (by simpa using wE) (λj hj=>by unfold World.frozen?;rw[r4];simp) hr.one;simp only[Nat.add_zero]at jo um;rw[jo]at um;injection um with _ e2;rw[<-e2,<-Nat.add_mul]at cG;rw[rA];have eo:∀(a b:Nat)(d:agK J)(x:J)(q:agO),bC[a]?=some d->d[b]?=some x->(if(o+len)*i.size<=a*i.size+b/\a*i.size+b<(o+len)*i.size+us.length then us[a*i.size+b-(o+len)*i.size]? else cur[a*i.size+b]?)=some q->ax G w q x:=by
    intro a b d x q hd hx hq;have Jr:d.length=i.size:=by
     have hm:=af8 hd;rcases nw with⟨_,_,e⟩|⟨_,_,_,e,_⟩
     ·rw[e]at hm;rcases agy.1 hm with hm|hm
      ·rcases agy.1 hm with hm|hm
       ·exact gD d (List.mem_of_mem_take hm)
       ·exact hr.wid d hm
      ·exact gD d (List.mem_of_mem_drop hm)
     ·rw[e]at hm;rcases agy.1 hm with hm|hm
      ·exact gD d hm
      ·exact hr.wid d hm
    have gF:b<i.size:=by rw[<-Jr];exact(afV.1 hx).1
    have EE:(a<o+len/\cs[a]?=some d)\/(o+len<=a/\a<o+len+ys.length/\ys[a-(o+len)]?=some d)\/(o+len+ys.length<=a/\cs[a]?=some d):=by
     rcases nw with⟨hf,_,e⟩|⟨e0,e1,_,e,_⟩
     ·rw[e]at hd;have Gw:(cs.take (o+len)).length=o+len:=by rw[List.length_take];omega
      by_cases h1:a<o+len
      ·rw[agc,af5 (by rw[Gw];exact h1),List.getElem?_take_of_lt h1]at hd;exact .inl ⟨h1,hd⟩
      ·rw[agc,agb (by rw[Gw];omega),Gw]at hd;by_cases h2:a-(o+len)<ys.length
       ·rw[af5 h2]at hd;exact .inr (.inl ⟨by omega,by omega,hd⟩)
       ·rw[agb (by omega),List.getElem?_drop,show o+len+ys.length+(a-(o+len)-ys.length)=a by omega]at hd;exact .inr (.inr ⟨by omega,hd⟩)
     ·rw[e]at hd;by_cases h1:a<cs.length
      ·rw[af5 h1]at hd;exact .inl ⟨by omega,hd⟩
      ·rw[agb (by omega)]at hd;have:=(afV.1 hd).1;exact .inr (.inl ⟨by omega,by omega,by rw[show a-(o+len)=a-cs.length by omega];exact hd⟩)
    rcases EE with⟨h1,h2⟩|⟨h1,h2,h3⟩|⟨h1,h2⟩
    ·rw[if_neg (by have:=kh h1 gF;omega)]at hq;exact r9 a b d x q h2 hx hq
    ·have hle:(o+len)*i.size<=a*i.size:=Nat.mul_le_mul_right _ h1;have az:a*i.size+b<(o+len+ys.length)*i.size:=kh h2 gF;rw[Nat.add_mul (o+len)]at az;rw[if_pos ⟨by omega,by rw[hr.len];exact az⟩]at hq;refine hr.rel (a-(o+len)) b d x q h3 hx ?_;rw[Nat.sub_mul,show a*i.size-(o+len)*i.size+b=a*i.size+b-(o+len)*i.size by omega];exact hq
    ·have hle:(o+len+ys.length)*i.size<=a*i.size:=Nat.mul_le_mul_right _ h1;rw[Nat.add_mul (o+len)]at hle;rw[if_neg (by rw[hr.len];omega)]at hq;exact r9 a b d x q h2 hx hq
   have PA:∀d∈bC,d.length=i.size:=λd hm=>by
    rcases nw with⟨_,_,e⟩|⟨_,_,_,e,_⟩
    ·rw[e]at hm;rcases agy.1 hm with hm|hm
     ·rcases agy.1 hm with hm|hm
      ·exact gD d (List.mem_of_mem_take hm)
      ·exact hr.wid d hm
     ·exact gD d (List.mem_of_mem_drop hm)
    ·rw[e]at hm;rcases agy.1 hm with hm|hm
     ·exact gD d hm
     ·exact hr.wid d hm
   rcases nw with⟨hf,eL,ec⟩|⟨e0,e1,eL,ec,iL,mc⟩
   ·have e9:bC.length=cs.length:=by rw[ec];simp;omega
    obtain⟨G',k1,k2,k3,k4,k5⟩:=Ny (us:=us) (off:=(o+len)*i.size) (bC:=bC) hi hn eZ r1 r2 r3 r4 r5 r6 r7 r8 jL e9 PA eo;refine⟨_,_,G',cG,k1,by rw[k2];exact af6 _,k3,?_⟩;refine .vec n o (len+ys.length) L' i.size (by rw[k2];exact lL) ⟨_,_,_,rfl⟩ (by rw[k5,eL,qy.1,hL];exact af6 _) λ_=> ?_;rw[k4];refine⟨by omega,⟨_,_,rfl,lA,c2,by omega,λho=> ?_⟩,λho hl=> ?_⟩
    ·rw[eL]at ho ⊢;obtain⟨g2,Nh,q1,q2,q3⟩:=c4 ho;exact⟨g2,Nh,q1,by rw[<-q2,rA],q3⟩
    ·subst ho;rw[r2,hL,<-eL,<-hl];simp at rc;subst rc;simp
   ·subst e0;subst e1;simp only[agf,Nat.zero_mul]at*;subst rc;obtain⟨w',dq⟩:∃w',w'=w.setRow g (cur.toList.take (len*i.size)++us++cur.toList.drop (len*i.size+us.length)).toArray:=⟨_,rfl⟩;rw[<-dq]at cG;have ga:∀b,b≠g->w'.heap[b]?=w.heap[b]?:=λb hb=>by rw[dq];exact setRow_other w g b _ hb
    have lM:w'.heap[g]?=some (.cells (cur.toList.take (len*i.size)++us++cur.toList.drop (len*i.size+us.length)).toArray e (0,0)):=by rw[dq];exact setRow_heap w g cur _ e _ r4
    have eQ:w'.heap.size=w.heap.size:=by rw[dq];exact Gq w g _
    obtain⟨sv,jE⟩:∃sv,sv=Value.slice (some ⟨g,0,none⟩) L' c:=⟨_,rfl⟩;have e9:bC.length=L':=by rw[ec,afW,hL,eL]
    have jY:G.fl n=len:=by rw[qy.1,hL]
    have hE:a7 G.N G w (G.grow n G.S sv L' (some g)) w':=⟨by rw[eQ];exact af6 _,λ_ _ h=>h,λb q hs=>World.cell?_of_block (ga b (λe=>r8 q (e▸hs))),λ_ _=>rfl,λm _=>by
        by_cases em:m=n
        ·right;subst em;simp only[Gh.grow,if_true,jY];omega
        ·left;exact⟨by simp [Gh.grow,em],by simp [Gh.grow,em]⟩,fi rfl,λb hb=>ga b (λe=>r3 (e▸hb)),by rw[dq];rfl,by rw[dq];rfl,by rw[dq];rfl,λb q hs=> .inl hs⟩
    refine⟨_,w',_,cG,hE,af6 _,Cr hi hn (λ_=>rfl) (λ_=>rfl) _ _ _ _ hE (λg' pE=>by cases pE;exact⟨.inr r1,by rw[eQ];exact(aga.1 r4).1⟩) (λb q hs=> .inl hs) (λb _ dZ=>ga b (λe=>dZ (by rw[e]))) ?_,?_⟩
    ·refine⟨by simp [Gh.grow,e9],by rw[e9];exact iL,PA, .inr ⟨g,c,_,by simp [Gh.grow],by simp [Gh.grow,jE,e9],r3,lM,by rw[e9];omega,r6,by rw[Oz _ _ _ jL];exact r7,r8,λa b d x q hd hx hq=> ?_⟩⟩;rw[MO _ _ _ _ jL]at hq;exact(eo a b d x q hd hx hq).aG hE (af6 _)
    ·refine .vec n 0 (len+ys.length) L' i.size lL ⟨_,_,_,rfl⟩ (by simp [Gh.grow]) λ_=>⟨by omega,⟨_,_,rfl,lA,c2,by omega,λ_=>⟨g,c,by simp [Gh.grow,jE],by simp,by simp⟩⟩,λ_ e=> ?_⟩;simp [Gh.grow,jE,eL]
  rcases qy.2.2.2 with⟨b1,b2,A',b3⟩|⟨g,cap,cur,r1,r2,r3,r4,r5,r6,r7,r8,r9⟩
  ·
   subst b2;simp at hL;subst hL;have ho:o=0:=by omega
   have D0:len=0:=by omega
   subst ho;subst D0;have:=call rfl rfl;rw[b3]at this;injection this with q1 _ q2;subst q2;rcases nw with⟨hf,_,_⟩|⟨_,_,eL,ec,iL,mc⟩
   ·omega
   ·simp only[agf,List.nil_append]at eL ec;subst ec;rw[eL]at iL mc;have Hi:bC.length<=9223372036854775807:=by simp only[maxLen]at iL;omega
    have hold:(Builtin.firstCells i.size 0 (.slice A 0 0)).run P w.drew= .ok ([]:agK agO).toArray w.drew:=by
     cases A with
     |none=>exact run_firstCells_none _ _ _ _ _
     |some a=>exact run_firstCells_some _ _ _ _ _ _ [] (by simp) (λj u hu=>by simp at hu)
    have cG:=run_append_grow_src (P:=P) w T tx ty e i z hT iZ hz A 0 0 [] hold v bC.length us hs (by omega) (by omega) (growslice_fits (by omega) (by simpa using mc));simp only[agf,List.nil_append]at cG;obtain⟨cap,iy⟩:∃cap,cap=grownCap w bC.length 0 e:=⟨_,rfl⟩;have iN:bC.length<=cap:=by rw[iy];exact grownCap_ge _ _ _ _
    have hle:cap<=maxLen:=by rw[iy];exact grownCap_le_maxLen _ _ _ _ iL
    rw[<-iy]at cG;obtain⟨cur,ir⟩:∃cur,cur=us.toArray++Builtin.zeroCells z.cells (cap-bC.length):=⟨_,rfl⟩;rw[<-ir]at cG;have eN:cur.size=cap*i.size:=by
      have:=size_zeroCells z.cells (cap-bC.length);rw[ir,Array.size_append,this,List.size_toArray,hr.len,ik,<-Nat.add_mul]
      congr 1
      omega
    have eo:(w.drew.alloc (.cells cur e)).heap[w.heap.size]?=some (.cells cur e (0,0)):=World.alloc_heap_new w.drew _;have sY:∀b,b<w.heap.size->(w.drew.alloc (.cells cur e)).heap[b]?=w.heap[b]?:=λb hb=>Below.heap_alloc w.drew _ b hb;obtain⟨sv,jE⟩:∃sv,sv=Value.slice (some ⟨w.heap.size,0,none⟩) L' cap:=⟨_,rfl⟩;have jY:G.fl n=0:=by rw[qy.1];rfl
    have hE:a7 G.N G w (G.grow n G.S sv L' (some w.heap.size)) (w.drew.alloc (.cells cur e)):=⟨by simp,λ_ _ h=>h,λb q hs=>World.cell?_of_block (sY b (hi.S b q hs)),λ_ _=>rfl,λm _=>by
        by_cases em:m=n
        ·right;subst em;simp only[Gh.grow,if_true,jY];omega
        ·left;exact⟨by simp [Gh.grow,em],by simp [Gh.grow,em]⟩,fi rfl,λb hb=>sY b (hi.z b hb),rfl,rfl,rfl,λb q hs=> .inl hs⟩
    refine⟨_,_,_,cG,hE,af6 _,Cr hi hn (λ_=>rfl) (λ_=>rfl) _ _ _ _ hE (λg' pE=>by cases pE;exact⟨.inl rfl,by simp⟩) (λb q hs=> .inl hs) (λb hb _=>sY b hb) ?_,?_⟩
    ·refine⟨by simp [Gh.grow,eL],iL,hr.wid, .inr ⟨w.heap.size,cap,cur,by simp [Gh.grow],by simp [Gh.grow,jE,eL],λhz=>agA _ (hi.z _ hz),eo,iN,hle,eN,λq hs=>agA _ (hi.S _ _ hs),λa b d x q hd hx hq=> ?_⟩⟩;have gF:b<i.size:=by rw[<-hr.wid d (af8 hd)];exact(afV.1 hx).1
     have az:a*i.size+b<us.length:=by rw[hr.len];exact kh (afV.1 hd).1 gF
     rw[ir,Array.getElem?_append_left (by simpa using az),List.getElem?_toArray]at hq;exact(hr.rel a b d x q hd hx hq).aG hE (af6 _)
    ·rw[agf];refine .vec n 0 bC.length L' i.size lL ⟨_,_,_,rfl⟩ (by simp [Gh.grow]) λ_=>⟨by omega,⟨_,_,rfl,iN,hle,by omega,λ_=>⟨w.heap.size,cap,by simp [Gh.grow,jE],by simp,by simp⟩⟩,λ_ e=> ?_⟩;simp [Gh.grow,jE,eL]
  ·
   rcases nw with⟨hf,eL,ec⟩|⟨e0,e1,eL,ec,iL,mc⟩
   ·obtain⟨g2,Nh,q1,q2,q3⟩:=c4 (by omega);rw[r2]at q1;injection q1 with q4 _ q5;cases q4
    subst q5;exact room (by omega) g cap cur r1 r2 r3 r4 r5 r6 r7 r8 r9 q2 q3
   ·have:=call e0 e1;rw[r2]at this;injection this with q2 _ q3;by_cases lA:len+ys.length<=c
    ·exact room lA g cap cur r1 r2 r3 r4 r5 r6 r7 r8 r9 (by rw[q2,e0];simp) (by omega)
    ·subst e0;subst q2;subst q3;rw[eL]at iL mc;have Hi:L+ys.length<=9223372036854775807:=by simp only[maxLen]at iL;omega
     have E4:(cur.toList.take (len*i.size)).length=len*i.size:=by
      rw[List.length_take,agt,r7];exact Nat.min_eq_left (Nat.mul_le_mul_right _ c1)
     have hold:(Builtin.firstCells i.size len (.slice (some ⟨g,0,none⟩) len c)).run P w.drew= .ok (cur.toList.take (len*i.size)).toArray w.drew:=
      run_firstCells_some _ _ _ _ _ _ _ E4 (λj q hq=>by
       rw[js,agf];show w.cell? ⟨g,j,none⟩=some q;rw[cell_of_row w g _ cur e (0,0) r4,<-agj];have vy:=(afV.1 hq).1;rw[E4]at vy;rw[List.getElem?_take_of_lt vy]at hq;exact hq)
     have cG:=run_append_grow_src (P:=P) w T tx ty e i z hT iZ hz (some ⟨g,0,none⟩) len c _ hold v ys.length us hs (by omega) (by omega) (growslice_fits (by omega) (by rw[e1];exact mc));obtain⟨cap,iy⟩:∃cap,cap=grownCap w (len+ys.length) c e:=⟨_,rfl⟩;have iN:len+ys.length<=cap:=by rw[iy];exact grownCap_ge _ _ _ _
     have hle:cap<=maxLen:=by rw[iy];exact grownCap_le_maxLen _ _ _ _ (by rw[e1];exact iL)
     rw[<-iy]at cG;obtain⟨qO,ir⟩:∃qO,qO=(cur.toList.take (len*i.size)++us).toArray++Builtin.zeroCells z.cells (cap-(len+ys.length)):=⟨_,rfl⟩;rw[<-ir]at cG;have Av:(cur.toList.take (len*i.size)++us).length=(len+ys.length)*i.size:=by rw[afW,E4,hr.len,<-Nat.add_mul]
     have eN:qO.size=cap*i.size:=by
      have:=size_zeroCells z.cells (cap-(len+ys.length));rw[ir,Array.size_append,this,List.size_toArray,Av,ik,<-Nat.add_mul]
      congr 1
      omega
     have eo:(w.drew.alloc (.cells qO e)).heap[w.heap.size]?=some (.cells qO e (0,0)):=World.alloc_heap_new w.drew _;have sY:∀b,b<w.heap.size->(w.drew.alloc (.cells qO e)).heap[b]?=w.heap[b]?:=λb hb=>Below.heap_alloc w.drew _ b hb;obtain⟨sv,jE⟩:∃sv,sv=Value.slice (some ⟨w.heap.size,0,none⟩) L' cap:=⟨_,rfl⟩;have jY:G.fl n=L:=by rw[qy.1,hL]
     have e9:bC.length=L':=by rw[ec,afW,hL,eL]
     have hE:a7 G.N G w (G.grow n G.S sv L' (some w.heap.size)) (w.drew.alloc (.cells qO e)):=⟨by simp,λ_ _ h=>h,λb q hs=>World.cell?_of_block (sY b (hi.S b q hs)),λ_ _=>rfl,λm _=>by
         by_cases em:m=n
         ·right;subst em;simp only[Gh.grow,if_true,jY];omega
         ·left;exact⟨by simp [Gh.grow,em],by simp [Gh.grow,em]⟩,fi rfl,λb hb=>sY b (hi.z b hb),rfl,rfl,rfl,λb q hs=> .inl hs⟩
     refine⟨_,_,_,cG,hE,af6 _,Cr hi hn (λ_=>rfl) (λ_=>rfl) _ _ _ _ hE (λg' pE=>by cases pE;exact⟨.inl rfl,by simp⟩) (λb q hs=> .inl hs) (λb hb _=>sY b hb) ?_,?_⟩
     ·refine⟨by simp [Gh.grow,e9],by rw[e9,eL];exact iL,λd hd=> ?_, .inr ⟨w.heap.size,cap,qO,by simp [Gh.grow],by simp [Gh.grow,jE,e9],λhz=>agA _ (hi.z _ hz),eo,by rw[e9];omega,hle,eN,λq hs=>agA _ (hi.S _ _ hs),λa b d x q hd hx hq=> ?_⟩⟩
      ·rw[ec]at hd;rcases agy.1 hd with hd|hd
       ·exact gD d hd
       ·exact hr.wid d hd
      ·refine ax.aG hE (af6 _) ?_;have Jr:d.length=i.size:=by
        have hm:=af8 hd;rw[ec]at hm;rcases agy.1 hm with hm|hm
        ·exact gD d hm
        ·exact hr.wid d hm
       have gF:b<i.size:=by rw[<-Jr];exact(afV.1 hx).1
       have Zh:a<len+ys.length:=by
        have:=(afV.1 hd).1;rw[e9,eL]at this;omega
       have az:a*i.size+b<(cur.toList.take (len*i.size)++us).length:=by rw[Av];exact kh Zh gF
       rw[ir,Array.getElem?_append_left (by simpa using az),List.getElem?_toArray,ad8 _ us len a b E4 gF]at hq;rw[ec]at hd;by_cases h1:a<len
       ·rw[if_pos h1,List.getElem?_take_of_lt (kh h1 gF),agj]at hq;rw[af5 (by omega)]at hd;exact r9 a b d x q hd hx hq
       ·rw[if_neg h1]at hq;rw[agb (by omega)]at hd;exact hr.rel (a-len) b d x q (by rw[<-hd];congr 1;omega) hx hq
     ·refine .vec n 0 (len+ys.length) L' i.size lL ⟨_,_,_,rfl⟩ (by simp [Gh.grow]) λ_=>⟨by omega,⟨_,_,rfl,iN,hle,by omega,λ_=>⟨w.heap.size,cap,by simp [Gh.grow,jE],by simp,by simp⟩⟩,λ_ e=> ?_⟩;simp [Gh.grow,jE,eL,e1]
theorem SV{T tx ty e k cq:Nat}{i:TypeInfo}{z:agO}{A:agM Addr}{v:agO}{ys:agK (agK J)}{us:agK agO}(hi:bg G w h)(hT:P.underlying T=some (.slice e))(iZ:P.info? e=some i)(hz:i.zero=some z)(lB:i.size=k)(tS:i.bytes=cq)(ik:z.cells.size=k)(eZ:0<k)
 (hr:wJ G w k ys us) (hs:Src P k tx v ys.length us w) (iL:ys.length<=maxLen) (mc:ys.length*cq<=140737488355328):
 ∃r w' G',(Builtin.append_ #[T,tx] ty #[.slice A 0 0,v]).run P w= .ok r w'/\a7 G.N G w G' w'/\G.N<=G'.N/\bg G' w' (h++[.vec e k ys])/\ax G' w' r (.vec h.length 0 ys.length ys.length k):=by
 subst lB;subst tS;by_cases hy:ys.length=0
 ·have jg:ys=[]:=List.eq_nil_of_length_eq_zero hy;subst jg;have jI:us=[]:=List.eq_nil_of_length_eq_zero (by rw[hr.len];simp);subst jI;have cG:=run_append_nothing (P:=P) w T tx ty e i hT iZ A 0 0 (af6 _) v hs;obtain⟨hE,hI⟩:=I3 (w':=w) hi (.vec e i.size []) (λ_ _=>rfl) (.slice A 0 0) 0 none ⟨λ_ _=>rfl,af6 _,rfl,rfl,rfl⟩ (λg hg=>by cases hg) ⟨by simp [Gh.dy],by simp,(λ_ h=>by cases h), .inl ⟨by simp [Gh.dy],rfl,A,by simp [Gh.dy]⟩⟩;refine⟨_,w,_,cG,hE,Nat.le_succ _,hI,?_⟩;rw[hi.len];exact .vec G.N 0 0 0 i.size (by simp [Gh.dy]) ⟨_,_,_,rfl⟩ (by simp) λ_=>⟨by omega,⟨A,0,rfl,af6 _,Nat.zero_le _,by omega,λh=>by omega⟩,λ_ _=>by simp [Gh.dy]⟩
 ·have Hi:ys.length<=9223372036854775807:=by simp only[maxLen]at iL;omega
  have hold:(Builtin.firstCells i.size 0 (.slice A 0 0)).run P w.drew= .ok ([]:agK agO).toArray w.drew:=by
   cases A with
   |none=>exact run_firstCells_none _ _ _ _ _
   |some a=>exact run_firstCells_some _ _ _ _ _ _ [] (by simp) (λj u hu=>by simp at hu)
  have cG:=run_append_grow_src (P:=P) w T tx ty e i z hT iZ hz A 0 0 [] hold v ys.length us hs (by omega) (by omega) (growslice_fits (by omega) (by simpa using mc));simp only[agf,List.nil_append]at cG;obtain⟨cap,iy⟩:∃cap,cap=grownCap w ys.length 0 e:=⟨_,rfl⟩;have iN:ys.length<=cap:=by rw[iy];exact grownCap_ge _ _ _ _
  have hle:cap<=maxLen:=by rw[iy];exact grownCap_le_maxLen _ _ _ _ iL
  rw[<-iy]at cG;obtain⟨cur,ir⟩:∃cur,cur=us.toArray++Builtin.zeroCells z.cells (cap-ys.length):=⟨_,rfl⟩;rw[<-ir]at cG;have eN:cur.size=cap*i.size:=by
    have:=size_zeroCells z.cells (cap-ys.length);rw[ir,Array.size_append,this,List.size_toArray,hr.len,ik,<-Nat.add_mul]
    congr 1
    omega
  obtain⟨G',g1,g2,g3,g4⟩:=K7 (e:=e) (k:=i.size) (cap:=cap) (cs:=ys) (cur:=cur) hi iN hle eN hr.wid w.drew ⟨rfl,rfl,rfl,rfl⟩ (λa b d x q hd hx hq=>by
   have gF:b<i.size:=by rw[<-hr.wid d (af8 hd)];exact(afV.1 hx).1
   have az:a*i.size+b<us.length:=by rw[hr.len];exact kh (afV.1 hd).1 gF
   rw[ir,Array.getElem?_append_left (by simpa using az),List.getElem?_toArray]at hq;exact hr.rel a b d x q hd hx hq)
  exact⟨_,_,G',cG,g1,g2,g3,g4 _ (af6 _)⟩
end
section
variable {P:agN} {r:agM Nat} {n N0:Nat} {G:Gh} {w:agP} {a:Act} {s:St} {o:Oper} {K:St->Prop} {Q:Exit->Act->agP->Prop}
theorem yT(hs:bU G w a s)(l:Array Operand):(l.map a.eval).size=(l.toList.map (ev s)).length/\∀(i:Nat)(u:agO)(c:J),(l.map a.eval)[i]?=some u->(l.toList.map (ev s))[i]?=some c->ax G w u c:=by
 refine⟨by simp,λi u c hu hc=> ?_⟩;rw[Array.getElem?_map]at hu;rw[af2,agj]at hc;cases hx:l[i]? with
 |none=>rw[hx]at hu;cases hu
 |some x=>rw[hx]at hu hc;cases hu;cases hc;exact hs.ev x
theorem Ss(hs:bU G w a s)(l:Array (Nat×Operand)):(l.map λ(i,x)=>(i,a.eval x)).toList.length=(l.toList.map λp=>(p.1,ev s p.2)).length/\
 ∀(i:Nat)(p:Nat×J)(q:Nat×agO),(l.toList.map λp=>(p.1,ev s p.2))[i]?=some p->(l.map λ(i,x)=>(i,a.eval x)).toList[i]?=some q->q.1=p.1/\ax G w q.2 p.2:=by
 refine⟨by simp,λi p q hp hq=> ?_⟩;rw[agj,Array.getElem?_map]at hq;rw[af2,agj]at hp;cases hx:l[i]? with
 |none=>rw[hx]at hp;cases hp
 |some x=>rw[hx]at hp hq;cases hp;cases hq;exact⟨rfl,hs.ev x.2⟩
theorem yB{x y:Operand}{T U:TypeId}(c:Call)(hc:c.callee= .builtin .append)(h1:c.args.toList=[x,y])(h2:c.argTypes.toList=[T,U])(ho:o.op= .call c):
 (execOp a.eval o).run P w=((Builtin.append_ #[T,U] o.type #[a.eval x,a.eval y]).run P w).andThen λv w'=> .ok (.value v) w':=by
 have e1:c.args= #[x,y]:=by rw[<-Array.toList_inj];exact h1
 have e2:c.argTypes= #[T,U]:=by rw[<-Array.toList_inj];exact h2
 unfold execOp;simp only[ho,resolve,hc,e1,e2,invoke,builtin,Sem.run_bind,Sem.run_pure,Result.andThen_ok,List.map_toArray,agl,List.map_nil]
theorem Oj{x:Operand}{T:TypeId}(c:Call)(hc:c.callee= .builtin .len)(h1:c.args.toList=[x])(h2:c.argTypes.toList=[T])(ho:o.op= .call c):
 (execOp a.eval o).run P w=((Builtin.len_ #[T] o.type #[a.eval x]).run P w).andThen λv w'=> .ok (.value v) w':=by
 have e1:c.args= #[x]:=by rw[<-Array.toList_inj];exact h1
 have e2:c.argTypes= #[T]:=by rw[<-Array.toList_inj];exact h2
 unfold execOp;simp only[ho,resolve,hc,e1,e2,invoke,builtin,Sem.run_bind,Sem.run_pure,Result.andThen_ok,List.map_toArray,agl,List.map_nil]
theorem aan(c:Call)(hc:c.callee= .builtin .max)(ho:o.op= .call c):
 (execOp a.eval o).run P w=((Builtin.max_ c.argTypes o.type (c.args.map a.eval)).run P w).andThen λv w'=> .ok (.value v) w':=by
 unfold execOp;simp only[ho,resolve,hc,invoke,builtin,Sem.run_bind,Sem.run_pure,Result.andThen_ok]
theorem U8(c:Call)(hc:c.callee= .builtin .min)(ho:o.op= .call c):
 (execOp a.eval o).run P w=((Builtin.min_ c.argTypes o.type (c.args.map a.eval)).run P w).andThen λv w'=> .ok (.value v) w':=by
 unfold execOp;simp only[ho,resolve,hc,invoke,builtin,Sem.run_bind,Sem.run_pure,Result.andThen_ok]
theorem Ph{mx:Bool}{k k':IntKind}{z:Int}:∀(l:agK J)(vs:agK agO)(x:Int),vs.length=l.length->(∀(i:Nat)(u:agO)(c:J),vs[i]?=some u->l[i]?=some c->ax G w u c)->FB mx k x l=some (k',z)->
 (vs.foldlM (if mx then Builtin.max2 else Builtin.min2) (.int k x)).run P w= .ok (.int k' z) w
 |[],[],x,_,_,h=>by cases h;simp
 |[],_::_,_,hl,_,_=>by simp at hl
 |_::_,[],_,hl,_,_=>by simp at hl
 |y::l,u::vs,x,hl,hr,h=>by
  unfold FB at h;split at h
  ·next e=>cases e
  ·next k2 b l' e=>
   cases e
   have e1:=(hr 0 u _ rfl rfl).val;subst e1;have ih:=Ph l vs _ (by simpa using hl) (λi u c hu hc=>hr (i+1) u c (by simpa using hu) (by simpa using hc)) h;rw[List.foldlM_cons,Sem.run_bind];cases mx with
   |true=>simp only[if_true,cond_true]at ih ⊢;simp only[Builtin.max2,Sem.run_pure,Result.andThen_ok];exact ih
   |false=>simp only[Bool.false_eq_true,if_false,cond_false]at ih ⊢;simp only[Builtin.min2,Sem.run_pure,Result.andThen_ok];exact ih
  ·cases h
theorem QW{mx:Bool}{k:IntKind}{z:Int}{l:agK J}{vs:Array agO}(hl:vs.size=l.length)(hr:∀(i:Nat)(u:agO)(c:J),vs[i]?=some u->l[i]?=some c->ax G w u c)(h:wY mx l=some (k,z)):
 ∃u us,vs.toList=u::us/\(us.foldlM (if mx then Builtin.max2 else Builtin.min2) u).run P w= .ok (.int k z) w:=by
 unfold wY at h;split at h
 ·next k2 x l'=>
  cases hv:vs.toList with
  |nil=>rw[<-agt,hv]at hl;simp at hl
  |cons u us=>
   refine⟨u,us,rfl,?_⟩;have mF:∀(i:Nat)(v:agO)(c:J),(u::us)[i]?=some v->(J.d (.v (.int k2 x))::l')[i]?=some c->ax G w v c:=λi v c h1 h2=>hr i v c (by rw[<-agj,hv];exact h1) h2;have e1:=(mF 0 u _ rfl rfl).val;subst e1;refine Ph l' us x ?_ (λi v c h1 h2=>mF (i+1) v c (by simpa using h1) (by simpa using h2)) h;rw[<-agt,hv]at hl;simpa using hl
 ·cases h
theorem SR{f:FuncId}(h:Dj P f=true)(args:Array agO)(w:agP):(callFunc f args).run P w= .ok (.enter f args) w:=by
 unfold Dj at h;cases hq:P.funcs[f]? with
 |none=>rw[hq]at h;simp at h
 |some fn=>
  rw[hq]at h;simp only[afX,Bool.not_eq_true']at h;obtain⟨h1,h2⟩:=h;have h3:fn.body≠none:=by intro e;rw[e]at h1;cases h1
  have h4:fn.name≠ "runtime.NumGoroutine" :=by simpa using h2
  simp [callFunc,hq,h4,h3]
theorem UZ(hs:bU G w a s)(bE:N0<=G.N){x:J}{h':agK aj}{p:Sd}(hx:mC P o.op (ev s) s.h=some (x,h',p))(hp:p.ok)(hK:K ((s.wh h').put o.dst x)):o.wpIn (WF r) n P a w (gw N0 G w K) Q:=by
 have cr:=hs.ev;unfold mC at hx;split at hx
 next T ho=>
  split at hx
  ·next q hT=>
   cases hx
   obtain⟨i1,i2,i3⟩:=Vm hs.inv;exact kY (by rw[ho];simp) hs bE (v:= .map (some w.heap.size)) (by unfold execOp;simp [ho,run_makeMap,Result.andThen]) i1 (Nat.le_succ _) i2 i3 hK
  ·cases hx
 next T m i ok ho=>
  split at hx
  ·next k e hT=>
   split at hx
   ·next z hz=>
    split at hx
    ·next b s' hm hi=>
     split at hx
     ·next kv hn=>
      cases hc:fu P k&&z.oneCell' with
      |false=>rw[hc]at hx;cases hx
      |true=>
       rw[hc]at hx;cases hx
       rw[afX]at hc;obtain⟨v,r1,r2⟩:=Vq (ok:=ok) (s:=s') hs.inv hT hz hc.1 hn;have e1:=cr m;rw[hm]at e1;have e2:=cr i;rw[hi]at e2;have e2:=e2.val;have LQ:a.eval m= .map (some (G.aF b)):=by
         generalize a.eval m=u at e1;cases e1 with|mp _ _=>rfl
       exact dQ (by rw[ho];simp) hs bE (by unfold execOp;simp [ho,LQ,e2,r1,Result.andThen]) r2 hK
     ·cases hx
    ·cases hx
   ·cases hx
  ·cases hx
 next T m i y ho=>
  split at hx
  ·next k e hT=>
   split at hx
   ·next b s' d hm hi hd=>
    split at hx
    ·next kv hn=>
     cases hc:fu P k with
     |false=>rw[hc]at hx;cases hx
     |true=>
      rw[hc]at hx;cases hx
      obtain⟨w',r1,r2,r3⟩:=ZP (s:=s') hs.inv hT hc hn ((cr y).GR hd) hp;have e1:=cr m;rw[hm]at e1;have e2:=cr i;rw[hi]at e2;have e2:=e2.val;have LQ:a.eval m= .map (some (G.aF b)):=by
       generalize a.eval m=u at e1;cases e1 with|mp _ _=>rfl
      exact HH (by rw[ho];simp) hs bE (by unfold execOp;simp [ho,LQ,e2,r1,Result.andThen]) r2 (af6 _) r3 hK
    ·cases hx
   ·cases hx
  ·cases hx
 next=>cases hx
theorem PV(hs:bU G w a s)(bE:N0<=G.N)(h:nC P o K s):o.wpIn (WF r) n P a w (gw N0 G w K) Q:=by
 have cr:=hs.ev;unfold nC bM at h;split at h
 next x ho=>exact dQ (by rw[ho];simp) hs bE (v:=a.eval x) (by unfold execOp;rw[ho];rfl) (cr x) h
 next x ho=>exact dQ (by rw[ho];simp) hs bE (v:=a.eval x) (by unfold execOp;rw[ho];rfl) (cr x) h
 next c x y ho=>
  split at h
  next t hc=>
   have hb:=cr c;rw[hc]at hb;have e:=hb.bool;cases t with
   |true=>exact dQ (by rw[ho];simp) hs bE (v:=a.eval x) (by unfold execOp;simp [ho,e,asBool]) (cr x) (h.1 rfl)
   |false=>exact dQ (by rw[ho];simp) hs bE (v:=a.eval y) (by unfold execOp;simp [ho,e,asBool]) (cr y) (h.2 rfl)
  next=>exact h.elim
 next e ho=>
  split at h
  next z hz=>
   obtain⟨i1,i2⟩:=Q2 hs.inv z.cells e (z.cells.toList.map λu=> .d (.v u)) (by simp) (λi u c hu hc=>by
    rw[af2,agj,hu]at hc;cases hc;exact .d (.v u))
   exact kY (by rw[ho];simp) hs bE (by unfold execOp;simp [ho,Instr.alloc,Cg hz,newVar,newRow]) (wI G w hs.inv.z hs.inv.S _) (Nat.le_succ _) i1 i2 h
  next=>exact h.elim
 next e x ho=>
  obtain⟨hb,hK⟩:=bf.1 h;have hr:=(cr x).Sn hb;obtain⟨i1,i2⟩:=Q2 hs.inv (a.eval x).cells e (ev s x).cells hr.len hr.rel;exact kY (by rw[ho];simp) hs bE (by unfold execOp;simp [ho,Instr.box,newVar,newRow]) (wI G w hs.inv.z hs.inv.S _) (Nat.le_succ _) i1 i2 hK
 next t x ho=>
  obtain⟨u,y,h1,h2,h3⟩:=No hs.inv (cr x) h;exact dQ (by rw[ho];simp) hs bE (by unfold execOp;simp [ho,h1]) h2 h3
 next t x y ho=>
  unfold ua at h;split at h
  next m off hm=>
   split at h
   next cs eN=>
    split at h
    case h_2=>exact h.elim
    rename_i k hk
    obtain⟨dw,h4⟩:=bf.1 h;simp only[afX,beq_iff_eq,cN]at dw;obtain⟨⟨rfl,h2⟩,h3⟩:=dw;have h1:=hk;have hx:=cr x;rw[hm]at hx;obtain⟨w',r1,r2,r3⟩:=adh (P:=P) hs.inv eN (cr y) h2 h1 h3;have ex:a.eval x= .pointer (some ⟨G.aF m,off,none⟩):=by
     generalize a.eval x=u at hx;cases hx with
     |ptr=>rfl
    exact HH (by rw[ho];simp) hs bE (by unfold execOp;simp [ho,Instr.storeAt,Instr.sureAddr,ex,r1]) r2 (af6 _) r3 h4
   next=>exact h.elim
  next=>exact h.elim
 next x ho=>
  have hx:=cr x;split at h
  next m off hm=>
   rw[hm]at hx;generalize ea:a.eval x=u at hx;cases hx with
   |ptr _ _ uo=>exact dQ (by rw[ho];simp) hs bE (by unfold execOp;simp [ho,ea]) (.ptr m off uo) h
  next xs i off hm=>
   rw[hm]at hx;generalize ea:a.eval x=u at hx;have qo:=hx;cases hx with
   |aY=>exact dQ (by rw[ho];simp) hs bE (by unfold execOp;simp [ho,ea]) qo h
  next f cs hm=>
   rw[hm]at hx;generalize ea:a.eval x=u at hx;have qo:=hx;cases hx with
   |fn=>exact dQ (by rw[ho];simp) hs bE (by unfold execOp;simp [ho,ea]) qo h
  next=>exact h.elim
 next T x f ho=>
  split at h
  next fo k g hT=>
   have hx:=cr x;split at h
   next m off hm=>
    rw[hm]at hx;generalize ea:a.eval x=u at hx;cases hx with
    |ptr _ _ uo=>exact dQ (by rw[ho];simp) hs bE (by unfold execOp;simp [ho,ea,Kv hT]) (.ptr m (off+fo) uo) h
   next xs i off hm=>
    rw[hm]at hx;generalize ea:a.eval x=u at hx;cases hx with
    |aY _ _ _ b oo us c hx hS hu=>exact dQ (by rw[ho];simp) hs bE (by unfold execOp;simp [ho,ea,Kv hT];rfl) (by rw[Nat.add_assoc];exact .aY xs i (off+fo) b oo us c hx hS hu) h
   next=>exact h.elim
  next=>exact h.elim
 next T x f ho=>
  obtain⟨u,y,h1,h2,h3⟩:=UT (cr x) h;exact dQ (by rw[ho];simp) hs bE (by unfold execOp;simp [ho,h1]) h2 h3
 next T x i ho=>
  obtain⟨u,y,h1,h2,h3⟩:=aay (cr x) (cr i) h;exact dQ (by rw[ho];simp) hs bE (by unfold execOp;simp [ho,h1]) h2 h3
 next T x i ho=>
  split at h
  next b z hb hz=>
   obtain⟨hT,h0,h⟩:=bf.1 h;have hT:=pe hT;have hx:=cr x;rw[hb]at hx;have ex:=hx.val;obtain⟨k,ei⟩:=(cr i).int hz;split at h
   next c hc=>
    refine dQ (by rw[ho];simp) hs bE (v:= .int .u8 c.toNat) ?_ (.d (.v _)) h;unfold execOp;simp [ho,Instr.index,ex,ei,asIntOf,run_underlying hT,h0,hc]
   next=>exact h.elim
  next=>exact h.elim
 next T ps ho=>
  obtain⟨p1,p2⟩:=Ss hs ps;obtain⟨u,y,h1,h2,h3⟩:=acT p1 p2 h;exact dQ (by rw[ho];simp) hs bE (by unfold execOp;simp only[ho,Sem.run_bind,h1];rfl) h2 h3
 next T len ps ho=>
  obtain⟨p1,p2⟩:=Ss hs ps;obtain⟨u,w',G',y,h1,h2,h3,h4,h5,h6⟩:=YP (T:=T) hs.inv p1 p2 h;exact kY (by rw[ho];simp) hs bE (by unfold execOp;simp only[ho,Sem.run_bind,h1];rfl) h2 h3 h4 h5 h6
 next T x lo hi mx ho=>
  obtain⟨u,y,h1,h2,h3⟩:=VZ hs (cr x) h;exact dQ (by rw[ho];simp) hs bE (by unfold execOp;simp [ho,h1]) h2 h3
 next x i ho=>
  have hx:=cr x;split at h
  next cs eN=>
   rw[eN]at hx;generalize ea:a.eval x=u at hx;split at h
   next c hc=>
    cases hx with
    |bp vs _ hl hr=>
     have az:i<vs.size:=by rw[hl];exact(afV.1 hc).1
     exact dQ (by rw[ho];simp) hs bE (v:=vs[i]) (by unfold execOp;simp [ho,ea,Instr.extract,az]) (hr i _ c (agi az) hc) h
   next=>exact h.elim
  next=>exact h.elim
 next f first cF ho=>
  split at h
  case h_2=>exact h.elim
  rename_i Kp
  have Kp:first= #[]:=by rw[<-Array.toList_inj];exact Kp
  subst Kp;obtain⟨p1,p2⟩:=yT hs cF;exact dQ (by rw[ho];simp) hs bE (v:= .func (.func f) #[] (cF.map a.eval)) (by unfold execOp;simp [ho,Instr.makeFunc]) (.fn f _ _ p1 p2) h
 next op T x y U ho=>
  obtain⟨u,z,h1,h2,h3⟩:=adx (X:=x) (Y:=y) (cr x) (cr y) h;refine dQ (by rw[ho];simp) hs bE ?_ h2 h3;unfold execOp;simp only[ho];rw[Sem.run_bind,h1];rfl
 next op T x ho=>
  obtain⟨u,z,h1,h2,h3⟩:=Wm (P:=P) (cr x) h;exact dQ (by rw[ho];simp) hs bE (by unfold execOp;simp [ho,h1]) h2 h3
 next t u x ho=>
  obtain⟨u,z,h1,h2,h3⟩:=Wq (cr x) h;exact dQ (by rw[ho];simp) hs bE (by unfold execOp;simp [ho,h1]) h2 h3
 next c ho=>
  have gC:∀c,o.op≠ .defer c:=by rw[ho];simp
  split at h
  next hc=>
   split at h
   next x T h1 h2=>
    obtain⟨m,r1,r2⟩:=ae7 (ty:=o.type) (cr x) h;exact dQ gC hs bE (by rw[Oj c hc h1 h2 ho,r1];rfl) (.d (.v _)) r2
   next=>exact h.elim
  next hc=>
   split at h
   next x y T U h1 h2=>
    obtain⟨hU,h⟩:=bf.1 h;obtain⟨⟨e',k'⟩,hU⟩:=Option.isSome_iff_exists.1 hU;obtain⟨p,w',G',q,h',r1,r2,r3,r4,r5,r6⟩:=TJ (ty:=o.type) hs.inv (cr x) (cr y) (elmT_spec hU).1 h;exact kY gC hs bE (by rw[yB c hc h1 h2 ho,r1];rfl) r2 r3 r4 r5 r6
   next=>exact h.elim
  next hc=>
   split at h
   next k z hf=>
    obtain⟨p1,p2⟩:=yT hs c.args;obtain⟨u,us,e1,e2⟩:=QW (P:=P) p1 p2 hf;refine dQ gC hs bE (v:= .int k z) ?_ (.d (.v _)) h;rw[aan c hc ho];unfold Builtin.max_;rw[e1];simp only[if_true]at e2;rw[e2];rfl
   next=>exact h.elim
  next hc=>
   split at h
   next k z hf=>
    obtain⟨p1,p2⟩:=yT hs c.args;obtain⟨u,us,e1,e2⟩:=QW (P:=P) p1 p2 hf;refine dQ gC hs bE (v:= .int k z) ?_ (.d (.v _)) h;rw[U8 c hc ho];unfold Builtin.min_;rw[e1];simp only[Bool.false_eq_true,if_false]at e2;rw[e2];rfl
   next=>exact h.elim
  next f hc=>
   have call:∀(g:FuncId)(cF:agK J)(vs:Array agO),a.eval f= .func (.func g) #[] vs->vs.size=cF.length->(∀(i:Nat)(u:agO)(c:J),vs[i]?=some u->cF[i]?=some c->ax G w u c)->
       b5 P g (c.args.toList.map (ev s)++cF) s.h (λr h'=>K ((s.wh h').put o.dst r))->o.wpIn (WF r) n P a w (gw N0 G w K) Q:=by
       intro g cF vs ea hl hr h;obtain⟨p1,p2⟩:=yT hs c.args;obtain⟨Kr,iq⟩:=h;have mY:=iq G w (c.args.map a.eval++vs) hs.inv (by rw[Array.size_append,afW,p1,hl]) (λi u x hu hx=>by
        by_cases hi:i<(c.args.map a.eval).size
        ·rw[Array.getElem?_append_left hi]at hu;rw[af5 (by rw[<-p1];exact hi)]at hx;exact p2 i u x hu hx
        ·rw[Array.getElem?_append_right (by omega)]at hu;rw[agb (by rw[<-p1];omega)]at hx;rw[p1]at hu;exact hr _ u x hu hx)
       refine⟨λ_ _=>trivial,?_⟩;have cG:(o.semAt (WF r).round a.eval).run P w= .ok (.enter g (c.args.map a.eval++vs)) w:=by
        rw[Oper.semAt_eq _ _ _ gC];unfold execOp;simp only[ho,resolve,hc,ea];simp [Deferred.ofValue,invoke,SR Kr]
       rw[cG];refine⟨λh=>(by simp [WF,Fence.wide]at h),?_⟩;have h2:=callsIn_wide (n:=n-1).2 mY;refine CallsIn.mono (F:=WF r) h2 ?_;rintro e w' ⟨v,G',x,h',rfl,x1,x2,x3,x4,x5⟩;exact⟨G',_,x1.less bE,agd bE x2,(hs.move x1 x2 x3).put x4 o.dst,x5⟩
   split at h
   next g cF hg=>
    have hf:=cr f;rw[hg]at hf;generalize ea:a.eval f=u at hf;cases hf with
    |fn _ vs _ hl hr=>exact call g cF vs ea hl hr h
   next q hg=>
    obtain⟨g,cs,rfl,h⟩:=h;have hf:=cr f;rw[hg]at hf;generalize ea:a.eval f=u at hf;cases hf with
    |hid hq h1=>
     cases hq with
     |fn _ vs _ hl hr=>exact call g (cs.map fD.av) vs ea (by rw[af0];exact hl) (λi u c hu hc=>by
        rw[af2]at hc;cases hx:cs[i]? with
        |none=>rw[hx]at hc;cases hc
        |some d=>rw[hx]at hc;cases hc;exact(hr i u d hu hx).av) h
   next=>exact h.elim
  next=>exact h.elim
 next op _=>
  split at h
  next x h' p hx=>exact UZ hs bE hx h.1 h.2
  next=>exact h.elim
theorem Km(hs:bU G w a s){x:agM Operand}{d:Nat}{z:Int}(h:rT (ev s) d x=some z)(h0:0<=z):wX a x d z.toNat:=by
 cases x with
 |none=>
  simp only[rT,Option.some.injEq]at h;subst h;show _=d;exact agn d
 |some y=>
  simp only[rT]at h;obtain⟨k,e⟩:=(hs.ev y).int h;exact⟨k,z,e,h0,rfl⟩
theorem jR{α:Type}{b:Bool}{x y:α}(h:(bif b then some x else none)=some y):b=true/\x=y:=by
 cases b with
 |true=>exact⟨rfl,age h⟩
 |false=>cases h
theorem abv{α:Type}{b:Bool}{x:agM α}{y:α}(h:(bif b then x else none)=some y):b=true/\x=some y:=by
 cases b with
 |true=>exact⟨rfl,h⟩
 |false=>cases h
theorem RQ(hs:bU G w a s)(bE:N0<=G.N)(h:Dt P o K s):o.wpIn (WF r) n P a w (gw N0 G w K) Q:=by
 obtain⟨va,x,h',p,hx,hp,hK⟩:=h;have cr:=hs.ev;unfold fM at hx;split at hx
 next T y i ho=>
  split at hx
  ·next n' o' len L k z e k' i' e1 e2 e3=>
   split at hx
   ·next e4 k2 cs hn=>
    obtain⟨hb,he⟩:=jR hx;cases he
    rw[afX,beq_iff_eq,beq_iff_eq]at hb;obtain⟨rfl,rfl⟩:=hb;obtain⟨hL,h0,az,rfl⟩:=hp;obtain⟨dX,eC⟩:=elmT_spec e3;obtain⟨kz,ez⟩:=(cr i).int e2;have hv:=cr y;rw[e1]at hv;have jy:=hv.rG hs.inv hn hL;obtain⟨vM,⟨A,c,q1,q2,q3,q4,q5⟩,_⟩:=jy;obtain⟨g,cap,s1,rfl,s3⟩:=q5 (by omega);have IT:z<(len:Int):=az;refine dQ (by rw[ho];simp) hs bE (v:= .pointer (some ⟨g,o'*k2+z.toNat*k2,none⟩)) ?_ (.cz n' (o'+z.toNat) 0 L k2 (hs.inv.lt hn) ⟨_,_,rfl⟩ (by rw[(hs.inv.b6 n' _ hn).1,hL];exact af6 _) λ_=>⟨by omega,g,cap,s1,?_⟩) hK
    ·unfold execOp;simp [ho,q1,ez,Instr.indexAt,asIntOf,run_underlying dX,h0,IT,jX eC,js]
    ·rw[Nat.add_mul];rfl
   ·cases hx
  ·cases hx
 next T y f ho=>
  split at hx
  ·next n' i j L k fo q g e1 hT=>
   cases hx
   have hv:=cr y;rw[e1]at hv;generalize ea:a.eval y=u at hv;cases hv with
   |cz _ _ _ _ _ lL LR hL hf=>
    obtain⟨pb,pq,rfl⟩:=LR;refine dQ (by rw[ho];simp) hs bE (v:= .pointer (some ⟨pb,pq+fo,none⟩)) (by unfold execOp;simp [ho,ea,Kv hT]) (.cz n' i (j+fo) L k lL ⟨_,_,rfl⟩ hL λe=> ?_) hK;obtain⟨a1,g2,cap,a2,a3⟩:=hf e;refine⟨a1,g2,cap,a2,?_⟩;injection a3 with a3;injection a3 with a3;injection a3 with a4 a5;subst a4;subst a5;rw[Nat.add_assoc]
  ·cases hx
 next y ho=>
  split at hx
  ·next n' i j L k e1=>
   cases hx
   have hv:=cr y;rw[e1]at hv;have QZ:=hv;generalize ea:a.eval y=u at hv QZ;cases hv with
   |cz _ _ _ _ _ lL LR hL hf=>
    obtain⟨pb,pq,rfl⟩:=LR;exact dQ (by rw[ho];simp) hs bE (by unfold execOp;simp [ho,ea]) QZ hK
  ·cases hx
 next t y ho=>
  split at hx
  ·next n' i j L k c e1=>
   split at hx
   ·next e k' cs z hn hz=>
    obtain⟨hb,he⟩:=jR hx;cases he
    rw[beq_iff_eq]at hb;subst hb;have hv:=cr y;rw[e1]at hv;obtain⟨u,r1,r2⟩:=aee hs.inv hn hp.1 hp.2 hz hv;exact dQ (by rw[ho];simp) hs bE (by unfold execOp;simp [ho,r1]) r2 hK
   ·cases hx
  ·cases hx
 next t y z ho=>
  split at hx
  ·next n' i j L k c bC e1=>
   split at hx
   ·next e k' cs q hn hq=>
    obtain⟨hb,he⟩:=jR hx;cases he
    simp only[afX,beq_iff_eq,cN]at hb;obtain⟨⟨⟨⟨rfl,rfl⟩,Ha⟩,hj⟩,eZ⟩:=hb;obtain⟨hL,hc,rfl⟩:=hp;have hv:=cr y;rw[e1]at hv;obtain⟨w',G',r1,r2,r3,r4⟩:=T7 hs.inv hn hL hc hv (cr z) Ha hq hj eZ;exact HH (by rw[ho];simp) hs bE (by unfold execOp;simp [ho,r1]) r2 r3 r4 hK
   ·cases hx
  ·cases hx
 next T y lo hi ho=>
  split at hx
  ·next n' o' len L k e k' oo ll e1 hT=>
   split at hx
   ·next l u hl hu=>
    split at hx
    ·next e4 k2 cs hn=>
     obtain⟨hb,he⟩:=jR hx;cases he
     rw[afX,beq_iff_eq,beq_iff_eq]at hb;obtain⟨rfl,rfl⟩:=hb;obtain⟨hL,h0,hlu,huL,rfl,rfl⟩:=hp;obtain⟨dX,eC⟩:=elmT_spec hT;have hv:=cr y;rw[e1]at hv;have jy:=hv.rG hs.inv hn hL;obtain⟨vM,⟨A,c,q1,q2,q3,q4,q5⟩,_⟩:=jy;have hb:=x7 (P:=P) (uH:=true) (Km hs hl h0) (Km hs hu (by omega)) (by omega) (show u.toNat<=c by omega) w;refine dQ (by rw[ho];simp) hs bE (v:= .slice (if c=l.toNat then A else A.map (·.add (l.toNat*k2))) (u.toNat-l.toNat) (c-l.toNat)) ?_ (.vec n' (o'+l.toNat) (u.toNat-l.toNat) L k2 (hs.inv.lt hn) ⟨_,_,_,rfl⟩ (by rw[(hs.inv.b6 n' _ hn).1,hL];exact af6 _) λ_=>⟨by omega,⟨_,_,rfl,by omega,by omega,by omega,λho2=> ?_⟩,λh1 h2=> ?_⟩) hK
     ·unfold execOp;simp [ho,q1,Instr.sliceAt,Instr.slice,run_underlying dX,hb,jX eC]
     ·obtain⟨g,cap,s1,rfl,s3⟩:=q5 (by omega);refine⟨g,cap,s1,?_,by omega⟩;rw[if_neg (by omega)];simp [js,Nat.add_mul]
     ·have Us:o'=0:=by omega
      have D0:l.toNat=0:=by omega
      subst Us;rw[D0];rw[D0]at h2;simp only[Nat.sub_zero]at h2 ⊢;by_cases tY:L=0
      ·subst tY;have:len=0:=by omega
       subst this
       rename_i dw
       rw[<-dw rfl rfl,q1,h2];split
       ·rfl
       ·cases A<;>simp [Addr.add]
      ·obtain⟨g,cap,s1,rfl,s3⟩:=q5 (by omega);rw[s1,h2];have:c=cap:=by omega
       subst this;split<;>simp [js]
    ·cases hx
   ·cases hx
  ·cases hx
 next T l c ho=>
  split at hx
  ·next e k z1 z2 cs len m hT e1 e2=>
   split at hx
   ·next z cq hz mi=>
    obtain⟨hb,he⟩:=jR hx;cases he
    simp only[afX,beq_iff_eq,cN]at hb;obtain⟨⟨eZ,ik⟩,_⟩:=hb;obtain⟨h0,iW,hl,hc,rfl,hm,kG⟩:=hp;obtain⟨dX,eC⟩:=elmT_spec hT;obtain⟨inf,i1,i2,i3⟩:=GC eC mi;have xd:inf.zero=some z:=by
     obtain⟨i',j1,j2⟩:=DW hz;rw[i1]at j1;cases j1;exact j2
    obtain⟨k1,ez1⟩:=(cr l).int e1;obtain⟨k2,ez2⟩:=(cr c).int e2;obtain⟨u,w',G',r1,r2,r3,r4,r5⟩:=UG (kl:=k1) (kc:=k2) hs.inv dX i1 xd i2 i3 ik eZ h0 iW hl hc hm kG;exact kY (by rw[ho];simp) hs bE (by unfold execOp;simp [ho,ez1,ez2,r1]) r2 r3 r4 r5 hK
   ·cases hx
  ·cases hx
 next c ho=>
  have gC:∀c,o.op≠ .defer c:=by rw[ho];simp
  split at hx
  next hc=>
   split at hx
   ·next y T h1 h2=>
    split at hx
    ·next n' oo len L k e1=>
     split at hx
     ·next e4 k2 cs hn=>
      obtain⟨hb,he⟩:=jR hx;cases he
      rw[afX,beq_iff_eq]at hb;obtain⟨hT,rfl⟩:=hb;obtain⟨⟨e,q⟩,hT⟩:=Option.isSome_iff_exists.1 hT;have hv:=cr y;rw[e1]at hv;have jy:=hv.rG hs.inv hn hp;obtain⟨vM,⟨A,cc,q1,q2,q3,q4,q5⟩,_⟩:=jy;exact dQ gC hs bE (v:= .int .i64 len) (by rw[Oj c hc h1 h2 ho,q1];simp [Builtin.len_,run_underlying (elmT_spec hT).1,goInt]) (.d (.v _)) hK
     ·cases hx
    ·cases hx
   ·cases hx
  next hc=>
   split at hx
   ·next y z T U h1 h2=>
    split at hx
    ·next e k pU bC ys L' fa hT hU=>
     split at hx
     ·next z0 cq hz mi=>
      obtain⟨hb,hx⟩:=abv hx;rw[afX,beq_iff_eq,cN]at hb;obtain⟨eZ,ik⟩:=hb;obtain⟨dX,eC⟩:=elmT_spec hT;obtain⟨inf,i1,i2,i3⟩:=GC eC mi;have xd:inf.zero=some z0:=by
       obtain⟨i',j1,j2⟩:=DW hz;rw[i1]at j1;cases j1;exact j2
      have gV:z0.cells.size=k:=by rw[<-agt];exact ik
      obtain⟨eU,kU⟩:=pU;split at hx
      ·next n' oo len L k1 e1=>
       split at hx
       ·next e4 k2 cs hn=>
        obtain⟨hb,he⟩:=jR hx;cases he
        simp only[afX,beq_iff_eq]at hb;obtain⟨⟨rfl,rfl⟩,rfl⟩:=hb;obtain⟨hL,su,rfl,nw⟩:=hp;obtain⟨us,hr,zG⟩:=Jm (tx:=U) hs.inv (cr z) su eZ (elmT_spec hU).1;have hv:=cr y;rw[e1]at hv;obtain⟨u,w',G',r1,r2,r3,r4,r5⟩:=Xn (ty:=o.type) hs.inv dX i1 xd i2 i3 gV eZ hn hL hv hr zG nw;exact kY gC hs bE (by rw[yB c hc h1 h2 ho,r1];rfl) r2 r3 r4 r5 hK
       ·cases hx
      ·next e1=>
       cases hx
       obtain⟨su,rfl,rfl,rfl,iL,mc⟩:=hp;obtain⟨us,hr,zG⟩:=Jm (tx:=U) hs.inv (cr z) su eZ (elmT_spec hU).1;have hv:=cr y;rw[e1]at hv;have ev:=hv.val;obtain⟨u,w',G',r1,r2,r3,r4,r5⟩:=SV (ty:=o.type) (A:=none) hs.inv dX i1 xd i2 i3 gV eZ hr zG iL mc;exact kY gC hs bE (by rw[yB c hc h1 h2 ho,ev,r1];rfl) r2 r3 r4 r5 hK
      ·next xs e1=>
       cases hx
       obtain⟨rfl,su,rfl,rfl,rfl,iL,mc⟩:=hp;obtain⟨us,hr,zG⟩:=Jm (tx:=U) hs.inv (cr z) su eZ (elmT_spec hU).1;have hv:=cr y;rw[e1]at hv;obtain⟨A,eA⟩:∃A,a.eval y= .slice A 0 0:=by
        generalize a.eval y=u at hv;cases hv with|full _ _ hf=>exact hf
       obtain⟨u,w',G',r1,r2,r3,r4,r5⟩:=SV (ty:=o.type) (A:=A) hs.inv dX i1 xd i2 i3 gV eZ hr zG iL mc;exact kY gC hs bE (by rw[yB c hc h1 h2 ho,eA,r1];rfl) r2 r3 r4 r5 hK
      ·cases hx
     ·cases hx
    ·cases hx
   ·cases hx
  next=>cases hx
 next=>cases hx
theorem Ur(hs:bU G w a s)(bE:N0<=G.N)(h:AO P o K s):o.wpIn (WF r) n P a w (gw N0 G w K) Q:=by
 have cr:=hs.ev;unfold AO at h;split at h
 ·next op T x y U ho=>
  split at h
  ·next xs pT v1 v2 hx hy hT h1 h2=>
   obtain⟨e,k⟩:=pT;have dX:=(elmT_spec hT).1;have hv:=cr y;rw[hy]at hv;have ey:=hv.val;obtain⟨A,b,oo,c,k',u,ex,hA,_,_,_,_,_⟩:=((cr x).list hx).mL;have hg:(eqGuard op T x y (a.eval x) (a.eval y)).run P w= .ok () w:=by rw[ex,ey];unfold eqGuard;cases op<;>simp
   have cG:(binOp op T (a.eval x) (a.eval y)).run P w= .ok (if A.isNone then v1 else v2) w:=by
    rw[ex,ey];have hq:=run_equal_slice_nil (P:=P) (w:=w) T e A xs.length c dX;cases op<;>simp [uw]at h1 h2<;>subst h1<;>subst h2<;>simp [binOp,hq]<;>cases A<;>rfl
   have hex:(execOp a.eval o).run P w= .ok (.value (if A.isNone then v1 else v2)) w:=by
    unfold execOp;simp only[ho];rw[Sem.run_bind,Sem.run_bind,hg];simp only[Result.andThen_ok];rw[cG];rfl
   cases A with
   |none=>
    have jn:xs=[]:=Classical.byContradiction λbQ=>by have:=hA bQ;cases this
    exact dQ (by rw[ho];simp) hs bE hex (.d (.v _)) (h.1 jn)
   |some ad=>exact dQ (by rw[ho];simp) hs bE hex (.d (.v _)) h.2
  ·exact h.elim
 ·exact h.elim
theorem Ig(hs:bU G w a s)(bE:N0<=G.N)(h:Vk P o K s):o.wpIn (WF r) n P a w (gw N0 G w K) Q:=by
 rcases h with h|h|h
 ·exact RQ hs bE h
 ·exact Ur hs bE h
 ·exact PV hs bE h
end
theorem ax.zm{G:Gh}{w:agP}{u:agO}{x:J}(Z:Nat->Prop)(M:Nat)(h:ax G w u x):ax {G with Z:=Z,M:=M} w u x:=by
 induction h with
 |agg vs cs hl _ ih=>exact .agg vs cs hl ih
 |bp vs cs hl _ ih=>exact .bp vs cs hl ih
 |fn f vs cs hl _ ih=>exact .fn f vs cs hl ih
 |own n xs h hp hle hf=>exact .own n xs h hp hle hf
 |ptr n off h=>exact .ptr (G:={G with Z:=Z,M:=M}) n off h
 |row n off len cap k h hl hm=>exact .row (G:={G with Z:=Z,M:=M}) n off len cap k h hl hm
 |mp n h=>exact .mp (G:={G with Z:=Z,M:=M}) n h
 |cm n h=>exact .cm (G:={G with Z:=Z,M:=M}) n h
 |vec n o len L k h hs hL hf=>exact .vec (G:={G with Z:=Z,M:=M}) n o len L k h hs hL hf
 |cz n i j L k h hs hL hf=>exact .cz (G:={G with Z:=Z,M:=M}) n i j L k h hs hL hf
 |hid h h1=>exact .hid h h1
 |d h=>exact .d h
 |aY xs i off b o u x hx hS hu=>exact .aY xs i off b o u x hx hS hu
 |full xs hp hf=>exact .full xs hp hf
 |dead u=>exact .dead u
theorem cX.zm{G:Gh}{w:agP}{n:Nat}{B:aj}(Z:Nat->Prop)(M:Nat)(hz:∀b,Z b->G.Z b)(h:cX G w n B):cX {G with Z:=Z,M:=M} w n B:=by
 cases B with
 |gone=>trivial
 |cells cs=>
  obtain⟨h1,h2,vs,T,h3,h4,h5⟩:=h;exact⟨λk=>h1 (hz _ k),h2,vs,T,h3,h4,λi u c hu hc=>(h5 i u c hu hc).zm Z M⟩
 |lp ls p as bd cs=>
  obtain⟨h1,h2,fn,vs,T,h3,h4,h5⟩:=h;exact⟨λk=>h1 (hz _ k),h2,fn,vs,T,h3,h4,λi u c hu hc=>(h5 i u c hu hc).zm Z M⟩
 |it sn cs=>
  obtain⟨h1,h2,fn,vs,T,h3,h4,h5⟩:=h;exact⟨λk=>h1 (hz _ k),h2,fn,vs,T,h3,h4,λi u c hu hc=>(h5 i u c hu hc).zm Z M⟩
 |map kv=>
  obtain⟨h1,h2,es,c,h3,h4⟩:=h;exact⟨λk=>h1 (hz _ k),h2,es,c,h3,h4⟩
 |eE kv=>
  obtain⟨h1,h2,es,c,h3,h4⟩:=h;exact⟨λk=>h1 (hz _ k),h2,es,c,h3,h4⟩
 |front e k len=>
  obtain⟨h1,hm,h2⟩:=h;refine⟨h1,hm,?_⟩;rcases h2 with h2|⟨g,cap,cur,h2,h3,h4,h5⟩
  ·exact .inl h2
  ·exact .inr ⟨g,cap,cur,h2,h3,λk=>h4 (hz _ k),h5⟩
 |vec e k cs=>
  obtain⟨h1,hm,hk,h2⟩:=h;refine⟨h1,hm,hk,?_⟩;rcases h2 with h2|⟨g,cap,cur,h2,h3,h4,h5,h6,h7,h8,h9,bn⟩
  ·exact .inl h2
  ·exact .inr ⟨g,cap,cur,h2,h3,λk=>h4 (hz _ k),h5,h6,h7,h8,h9,λi j c x u hc hx hu=>(bn i j c x u hc hx hu).zm Z M⟩
theorem Ge{h:agK aj}{G:Gh}{n:Nat}(Z:Nat->Prop)(M:Nat):bj h {G with Z:=Z,M:=M} n=bj h G n:=by
 unfold bj;cases h[n]? with
 |none=>rfl
 |some B=>cases B<;>rfl
theorem bg.zm{G:Gh}{w:agP}{h:agK aj}(hi:bg G w h)(Z:Nat->Prop)(M:Nat)(hz:∀b,Z b->G.Z b)(hM:M<=w.heap.size):bg {G with Z:=Z,M:=M} w h:=
 ⟨hi.len,λb hb=>hi.z b (hz b hb),hi.S,λn B hB=>(hi.b6 n B hB).zm Z M hz,λm n b h1 h2=>hi.inj m n b (by rw[<-Ge Z M];exact h1) (by rw[<-Ge Z M];exact h2),⟨hi.gl.1,hM⟩⟩
def nH(l:agK Nat)(w:agP):agP:=l.foldl (λw D=>w.putObj D (.deferred none)) w
theorem Tk:∀(l:agK Nat)(w:agP),(∀D∈l,w.heap[D]?=some (.deferred (some [])))->l.Nodup->
 (nH l w).heap.size=w.heap.size/\(∀b,b ∉ l->(nH l w).heap[b]?=w.heap[b]?)/\(∀b o,(nH l w).cell? ⟨b,o,none⟩=w.cell? ⟨b,o,none⟩)/\(nH l w).os=w.os/\(nH l w).tape=w.tape/\(nH l w).output=w.output
 |[],w,_,_=>⟨rfl,λ_ _=>rfl,λ_ _=>rfl,rfl,rfl,rfl⟩
 |D::l,w,hd,hn=>by
  rw[List.nodup_cons]at hn;have hD:=hd D af1;have az:=(aga.1 hD).1;obtain⟨h1,h2,h3,h4,h5,h6⟩:=Tk l (w.putObj D (.deferred none)) (λE hE=>by
    have bQ:E≠D:=λe=>hn.1 (e▸hE);rw[World.putObj_heap_other bQ];exact hd E (af4 _ hE)) hn.2
  refine⟨h1.trans (by simp),λb hb=> ?_,λb o=> ?_,h4,h5,h6⟩
  ·exact(h2 b λh=>hb (af4 _ h)).trans (World.putObj_heap_other λe=>hb (e▸af1))
  ·refine(h3 b o).trans ?_;by_cases e:b=D
   ·subst e;unfold World.cell?;simp only[World.putObj_heap_same az,hD]
   ·exact World.cell?_of_block (World.putObj_heap_other e)
theorem OA{F:Fence}{n:Nat}{P:agN}{fn:Func}{tmps:Array agO}{R:Ending->agP->Prop}:∀(l:agK Nat)(w:agP),(∀D∈l,w.heap[D]?=some (.deferred (some [])))->l.Nodup->
 LeavesIn F n P fn tmps R [] .returning (nH l w)->LeavesInM F n P fn tmps R (l.map λD=>{target:= .collected D,args:= #[]}) .returning w
 |[],w,_,_,h=>h
 |D::l,w,hd,hn,h=>by
  rw[List.nodup_cons]at hn;exact⟨by simp, .inl ⟨D,_,rfl,run_takeDeferred (hd D af1),OA l _ (λE hE=>by
    have bQ:E≠D:=λe=>hn.1 (e▸hE);rw[World.putObj_heap_other bQ];exact hd E (af4 _ hE)) hn.2 h⟩⟩
theorem adf{N0:Nat}{G G1:Gh}{w w':agP}{a':Act}{s1:St}(hE:a7 N0 {G with M:=w.heap.size} w G1 w')(hN:N0<=G1.N)(hz:∀b,G.Z b->b<w.heap.size)(Vs:G.M<=w.heap.size)(hs:bU G1 w' a' s1):
 ∃(w2:agP)(G2:Gh),(∀(F:Fence)(n:Nat)(P:agN)(fn:Func)(R:Ending->agP->Prop),(∃v,(results fn a'.tmps).run P w2= .ok v w2/\R (.returned v) w2)->LeavesInM F n P fn a'.tmps R a'.defers .returning w')/\
  a7 N0 G w G2 w2/\G2.N=G1.N/\bU G2 w2 {a' with defers:=[]} s1:=by
 obtain⟨l,l1,l2,l3⟩:=hs.df;have hd:∀D∈l,w'.heap[D]?=some (.deferred (some [])):=λD hD=>(l3 D hD).2.2;obtain⟨h1,h2,h3,h4,h5,h6⟩:=Tk l w' hd l1;have hM:G1.M=w.heap.size:=hE.Z.2;have gV:∀b,G.Z b->b ∉ l:=λb hb hl=>by
  have:=(l3 b hl).1;have:=hz b hb;omega
 obtain⟨G2,fx⟩:∃G2:Gh,G2={G1 with Z:=G.Z,M:=G.M}:=⟨_,rfl⟩;have xy:∀b,G.Z b->G1.Z b:=hE.Z.1.1;have iQ:bg G2 w' s1.h:=by rw[fx];exact hs.inv.zm _ _ xy (agd Vs hE.size)
 have gg:a7 N0 G w G2 w':=by
  rw[fx];exact⟨hE.size,hE.S,hE.cell,hE.aF,hE.fr,fi rfl,hE.old,hE.os,hE.tape,hE.output,hE.new⟩
 have gy:a7 G2.N G2 w' G2 (nH l w'):=⟨by rw[h1];exact af6 _,λ_ _ h=>h,λb o _=>h3 b o,λ_ _=>rfl,λ_ _=> .inl ⟨rfl,rfl⟩,fi rfl,λb hb=>h2 b (gV b (by rw[fx]at hb;exact hb)),h4,h5,h6,λ_ _ h=> .inl h⟩;have Dh:bg G2 (nH l w') s1.h:=⟨iQ.len,λb hb=>by rw[h1];exact iQ.z b hb,λb o hb=>by rw[h1];exact iQ.S b o hb,λn B hB=>cX.aG (iQ.lt hB) gy (af6 _) ⟨rfl,rfl,rfl⟩ (λb hb=>⟨h2 b λhl=>(hs.inv.b6 n B hB).jD (by rw[fx]at hb;cases B<;>exact hb) (l3 b hl).2.1,λ_ h=>h⟩) (iQ.b6 n B hB),iQ.inj,iQ.gl.aG gy⟩;refine⟨nH l w',G2,λF n P fn R h=> ?_,gg.trans (gy.less (by rw[fx];exact hN)),by rw[fx],⟨hs.size,λi=>ax.aG gy (af6 _) (by rw[fx];exact(hs.tmp i).zm _ _),Dh,n4.nil _ _⟩⟩;rw[l2];exact OA l w' hd l1 h
section
variable {G:Gh} {w:agP} {h:agK aj}
theorem Ul(hi:bg G w h)(fn:FuncId)(tm:Array agO)(D p:Nat)(as bd:Code)(cs:agK J)(hl:tm.size=cs.length)(hr:∀(i:Nat)(u:agO)(c:J),tm[i]?=some u->cs[i]?=some c->ax G w u c):a7 G.N G w (G.cA w.heap.size) (w.alloc (.loop {state:= .ready,pending:=none,fn:=fn,tmps:=tm,params:= #[p],assign:=as,body:=bd,defers:=D}))/\bg (G.cA w.heap.size) (w.alloc (.loop {state:= .ready,pending:=none,fn:=fn,tmps:=tm,params:= #[p],assign:=as,body:=bd,defers:=D})) (h++[.lp .ready p as bd cs])/\ax (G.cA w.heap.size) (w.alloc (.loop {state:= .ready,pending:=none,fn:=fn,tmps:=tm,params:= #[p],assign:=as,body:=bd,defers:=D})) (.func (.yield w.heap.size) #[] #[]) (.cm h.length):=by
 have hE:=wI G w hi.z hi.S (.loop {state:= .ready,pending:=none,fn:=fn,tmps:=tm,params:= #[p],assign:=as,body:=bd,defers:=D});have hN:G.N<=(G.cA w.heap.size).N:=Nat.le_succ _;have fq:(G.cA w.heap.size).aF h.length=w.heap.size:=by simp [Gh.cA,hi.len]
 have j7:∀n(B:aj),n<G.N->B.cS (G.cA w.heap.size) n=B.cS G n:=λn B hn=>by
  cases B<;>simp [aj.cS,Gh.cA,Nat.ne_of_lt hn]
 have eo:∀n,n<G.N->bj (h++[.lp .ready p as bd cs]) (G.cA w.heap.size) n=bj h G n:=λn hn=>by
  have az:n<h.length:=by rw[hi.len];exact hn
  unfold bj;rw[af5 az,afZ az];exact j7 n _ hn
 have tG:bj (h++[.lp .ready p as bd cs]) (G.cA w.heap.size) h.length=some w.heap.size:=by
  rw[cJ (B:= .lp .ready p as bd cs) (by simp)];exact congrArg some fq
 refine⟨hE,⟨by simp [Gh.cA,hi.len],λb hb=>agk (hi.z b hb) hE.size,λb o hs=>agk (hi.S b o hs) hE.size,λn B hB=> ?_,λm n b hm hn=> ?_,hi.gl.aG hE⟩,?_⟩
 ·by_cases hn:n<h.length
  ·rw[af5 hn]at hB;have dA:n<G.N:=hi.len▸hn;exact cX.aG dA hE hN ⟨rfl,rfl,rfl⟩ (λb hb=>⟨Below.heap_alloc w _ _ (hi.fR (n:=n) ((cJ hB).trans hb)),λo h=>h⟩) (hi.b6 n B hB)
  ·have jH:n=h.length:=by
    have:=(afV.1 hB).1;simp at this;omega
   subst jH;simp at hB;subst hB;exact⟨by rw[fq];exact λhz=>agA _ (hi.z _ hz),λo hs=>by rw[fq]at hs;exact agA _ (hi.S _ _ hs),fn,tm,D,by rw[fq];exact World.alloc_heap_new w _,hl,λi u c hu hc=>(hr i u c hu hc).aG hE hN⟩
 ·have key:∀n b,bj (h++[.lp .ready p as bd cs]) (G.cA w.heap.size) n=some b->(n<G.N/\bj h G n=some b)\/(n=h.length/\b=w.heap.size):=λn b hn=>by
   by_cases az:n<G.N
   ·exact .inl ⟨az,by rw[<-eo n az];exact hn⟩
   ·by_cases e:n=h.length
    ·subst e;rw[tG]at hn;cases hn;exact .inr ⟨rfl,rfl⟩
    ·rw[ss (ags (by simp;have:=hi.len;omega))]at hn;cases hn
  rcases key m b hm with⟨_,iE⟩|⟨rfl,rfl⟩<;>rcases key n _ hn with⟨_,dA⟩|⟨rfl,hb⟩
  ·exact hi.inj m n b iE dA
  ·have:=hi.fR iE;omega
  ·have:=hi.fR dA;omega
  ·rfl
 ·have:=ax.cm (G:=G.cA w.heap.size) (w:=w.alloc (.loop {state:= .ready,pending:=none,fn:=fn,tmps:=tm,params:= #[p],assign:=as,body:=bd,defers:=D})) h.length (by simp [Gh.cA,hi.len])
  rwa [fq]at this
theorem HO{k:Nat}{B B':aj}{ob uj:Obj}(hi:bg G w h)(hk:h[k]?=some B)(qH:B.cS G k=some (G.aF k))(hS:∀o,¬G.S (G.aF k) o)(kT:w.heap[G.aF k]?=some ob)(hn:B'= .gone\/B'.cS G k=some (G.aF k))
 (hB:∀w',(∀b o,G.S b o->w'.cell? ⟨b,o,none⟩=w.cell? ⟨b,o,none⟩)->w'.heap[G.aF k]?=some uj->a7 G.N G w G w'->cX G w' k B'):a7 G.N G w G (w.putObj (G.aF k) uj)/\bg G (w.putObj (G.aF k) uj) (h.set k B'):=by
 have az:=(aga.1 kT).1;have hZ:¬G.Z (G.aF k):=(hi.b6 k B hk).jD qH;have ga:∀b,b≠G.aF k->(w.putObj (G.aF k) uj).heap[b]?=w.heap[b]?:=λb hb=>World.putObj_heap_other hb;have fQ:∀b o,G.S b o->(w.putObj (G.aF k) uj).cell? ⟨b,o,none⟩=w.cell? ⟨b,o,none⟩:=λb o hs=>World.cell?_of_block (ga b (λe=>hS o (e▸hs)));have hE:a7 G.N G w G (w.putObj (G.aF k) uj):=⟨by simp,λ_ _ h=>h,fQ,λ_ _=>rfl,λ_ _=> .inl ⟨rfl,rfl⟩,fi rfl,λb hb=>ga b (λe=>hZ (e▸hb)),rfl,rfl,rfl,λ_ _ h=> .inl h⟩;refine⟨hE,?_⟩;have hkl:=(afV.1 hk).1;have jQ:(h.set k B')[k]?=some B':=by rw[agp hkl]
 have dt:∀m,m≠k->(h.set k B')[m]?=h[m]?:=λm hm=>by rw[agu (Ne.symm hm)]
 have kd:bj h G k=some (G.aF k):=(cJ hk).trans qH;have db:∀m b,bj (h.set k B') G m=some b->bj h G m=some b:=λm b hb=>by
  by_cases e:m=k
  ·subst e;rw[cJ jQ]at hb;rcases hn with rfl|hn
   ·cases hb
   ·rw[hn]at hb;cases hb;exact kd
  ·unfold bj at hb ⊢;rw[dt m e]at hb;exact hb
 refine⟨by rw[List.length_set];exact hi.len,λb hb=>agk (hi.z b hb) hE.size,λb o hs=>agk (hi.S b o hs) hE.size,λm C hC=> ?_,λm m' b h1 h2=>hi.inj m m' b (db m b h1) (db m' b h2),hi.gl.aG hE⟩;by_cases e:m=k
 ·subst e;rw[jQ]at hC;cases hC
  exact hB _ fQ (World.putObj_heap_same az) hE
 ·rw[dt m e]at hC;have bQ:∀b,bj h G m=some b->b≠G.aF k:=λb hb eb=>e (hi.inj m k b hb (by rw[eb];exact kd));exact cX.aG (hi.lt hC) hE (af6 _) ⟨rfl,rfl,rfl⟩ (λb hb=>⟨ga b (bQ _ ((cJ hC).trans hb)),λo h=>h⟩) (hi.b6 m C hC)
theorem Fk{k:Nat}{ls:LS}{p:Nat}{as bd:Code}{cs:agK J}(hi:bg G w h)(hk:h[k]?=some (.lp ls p as bd cs)):
 (∀o,¬G.S (G.aF k) o)/\∃(fn:FuncId)(tm:Array agO)(D:Nat),w.heap[G.aF k]?=some (.loop {state:=ls.st,pending:=ls.pd,fn:=fn,tmps:=tm,params:= #[p],assign:=as,body:=bd,defers:=D})/\tm.size=cs.length/\(∀(i:Nat)(u:agO)(c:J),tm[i]?=some u->cs[i]?=some c->ax G w u c)/\
   ∀(vU:LS),a7 G.N G w G (w.putObj (G.aF k) (.loop {state:=vU.st,pending:=vU.pd,fn:=fn,tmps:=tm,params:= #[p],assign:=as,body:=bd,defers:=D}))/\bg G (w.putObj (G.aF k) (.loop {state:=vU.st,pending:=vU.pd,fn:=fn,tmps:=tm,params:= #[p],assign:=as,body:=bd,defers:=D})) (h.set k (.lp vU p as bd cs)):=by
 obtain⟨h1,h2,fn,tm,D,h3,h4,h5⟩:=hi.b6 k _ hk;refine⟨h2,fn,tm,D,h3,h4,h5,λvU=>HO hi hk rfl h2 h3 (.inr rfl) λw' hc dq hE=>⟨h1,h2,fn,tm,D,dq,h4,λi u c hu fy=>(h5 i u c hu fy).aG hE (af6 _)⟩⟩
theorem adZ{k:Nat}{ls:LS}{p:Nat}{as bd:Code}{cs:agK J}(hi:bg G w h)(hk:h[k]?=some (.lp ls p as bd cs))(ob:Obj):a7 G.N G w G (w.putObj (G.aF k) ob)/\bg G (w.putObj (G.aF k) ob) (h.set k .gone):=by
 obtain⟨h1,h2,fn,tm,D,h3,h4,h5⟩:=hi.b6 k _ hk;exact HO hi hk rfl h2 h3 (.inl rfl) λ_ _ _ _=>trivial
theorem acv(hi:bg G w h):a7 G.N G w {G with Z:=λb=>G.Z b\/b=w.heap.size} (w.alloc (.deferred (some [])))/\bg {G with Z:=λb=>G.Z b\/b=w.heap.size} (w.alloc (.deferred (some []))) h:=by
 have hE:a7 G.N G w {G with Z:=λb=>G.Z b\/b=w.heap.size} (w.alloc (.deferred (some []))):=
  ⟨by simp,λ_ _ h=>h,λb _ h=>World.cell?_alloc_lt _ _ _ (hi.S _ _ h),λ_ _=>rfl,λ_ _=> .inl ⟨rfl,rfl⟩,⟨⟨λ_ h=> .inl h,λb h=>h.imp id λe=>Nat.le_of_eq e.symm⟩,rfl⟩,λb hb=>Below.heap_alloc w _ b (hi.z b hb),rfl,rfl,rfl,λ_ _ h=> .inl h⟩
 refine⟨hE,hi.len,λb hb=> ?_,λb o hs=>agk (hi.S b o hs) hE.size,λn B hB=> ?_,λm n b h1 h2=>hi.inj m n b (by rw[<-Ge (λb=>G.Z b\/b=w.heap.size) G.M];exact h1) (by rw[<-Ge (λb=>G.Z b\/b=w.heap.size) G.M];exact h2),hi.gl.aG hE⟩
 ·rcases hb with hb|rfl
  ·exact agk (hi.z b hb) hE.size
  ·simp
 ·exact cX.aG (hi.lt hB) hE (af6 _) ⟨rfl,rfl,rfl⟩ (λb hb=>⟨Below.heap_alloc w _ _ (hi.fR (n:=n) ((cJ hB).trans hb)),λo h=>h⟩) (hi.b6 n B hB)
end
end Go.Proofs.YtmkmibahjanejaaGreatDoor
