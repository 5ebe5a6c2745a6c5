/-
  Part 1 of the proof: AbsGlob, AbsCore, AbsOps, AbsHeap, AbsStore, AbsApp, AbsOp, AbsOp2, AbsOp3, AbsMap, AbsVec, AbsVec2, AbsOp4.
-/
import Derived.WalkKit
import Derived.Laws.Strings
import Derived.Lib.Hide
import Derived.OrdersIn
import Derived.RangeFuncIn
import Derived.RangeFuncCalls
import Derived.RangeFuncLeaves
import Derived.RangeFuncFrom
import Derived.Deep.MidRow
import Derived.Laws.AppendOwn
import Derived.Maps.OwnOps
import Derived.KernelRfl
import Derived.Deep.AppendSrc
import Derived.Deep.Upon
import Derived.Laws.BytesString
import Derived.Laws.StructEq
import Derived.Laws.MakeOwn
import Derived.Laws.Cover3
set_option linter.defProp false
namespace Go.Proofs.YtnnapanbbbcalaaGreatDoor
open Go.RowKit
set_option linter.defProp false
abbrev T6:=@cond_false
abbrev Tq:=@cond_true
abbrev Tv:=@beq_eq_false_iff_ne
abbrev U0:=@of_decide_eq_true
abbrev Ua:=@beq_iff_eq
abbrev Ue:=@bne_iff_ne
abbrev Uq:=@Bool.not_eq_true
abbrev UA:=@Bool.not_eq_true'
abbrev UN:=@decide_eq_false_iff_not
abbrev UR:=@decide_eq_true_eq
abbrev UU:=@List.mem_map
abbrev UW:=@Option.some.injEq
abbrev V1:=@List.eq_nil_of_length_eq_zero
abbrev W1:=@Bool.not_true
abbrev W2:=@List.nil_append
abbrev Wv:=@Nat.zero_le
abbrev WB:=@beq_false_of_ne
abbrev WX:=@Nat.ble_eq_true_of_le
abbrev XL:=@Nat.mul_le_mul_right
abbrev Yy:=@Int.mul_le_mul_of_nonneg_left
abbrev YF:=@Nat.add_mul
abbrev Zt:=@Bool.true_and
abbrev ZJ:=@List.length_set
abbrev a6:=@Option.map_some
abbrev a7:=@List.mem_of_mem_drop
abbrev a8:=@List.mem_append_right
abbrev aa:=@List.map_append
abbrev ab:=@if_pos
abbrev ae:=@if_neg
abbrev af:=@List.mem_singleton
abbrev ah:=@List.map_nil
abbrev ai:=@Int.tdiv_eq_ediv_of_nonneg
abbrev aj:=@List.mem_iff_getElem
abbrev ak:=@List.mem_append_left
abbrev an:=@Int.mul_assoc
abbrev ao:=@List.length_take
abbrev aq:=@Bool.or_eq_true
abbrev b6:=@Int.mul_le_mul
abbrev b7:=@Bool.false_or
abbrev b8:=@Option.isSome_iff_exists
abbrev b9:=@List.length_drop
abbrev ba:=@Nat.le_succ
abbrev bf:=@Int.one_mul
abbrev bh:=@IntKind.wrap_u64
abbrev br:=@IntKind.wrap_i64
abbrev re:=@Option.bind_some
abbrev Zo:=@List.getElem?_eq_some_iff
abbrev Zk:=@List.length_append
abbrev Zr:=@Bool.and_eq_true
abbrev Zl:=@List.length_cons
abbrev Ze:=@List.getElem?_eq_getElem
abbrev Zu:=@List.length_map
abbrev Zq:=@List.mem_cons_self
abbrev Zs:=@List.getElem?_map
abbrev Zi:=@Nat.le_of_ble_eq_true
abbrev Zg:=@List.mem_cons_of_mem
abbrev ZX:=@List.getElem?_append_left
abbrev Zv:=@Nat.le_refl
abbrev Zf:=@List.length_nil
abbrev ZY:=@List.mem_of_getElem?
abbrev Yw:=@Nat.eq_of_beq_eq_true
abbrev ZT:=@Array.getElem?_eq_some_iff
abbrev ZI:=@List.getElem?_append_right
abbrev ZR:=@List.append_assoc
abbrev Zc:=@Nat.le_trans
abbrev Zw:=@Option.some.inj
abbrev ZQ:=@Nat.zero_add
abbrev ZV:=@List.append_nil
abbrev ZM:=@Array.getElem?_eq_getElem
abbrev ZP:=@Array.getElem?_toList
abbrev ZU:=@Nat.lt_of_lt_of_le
abbrev ZS:=@List.map_cons
abbrev Zd:=@List.all_eq_true
abbrev ZK:=@Int.toNat_natCast
abbrev ZG:=@Nat.not_lt_zero
abbrev ZC:=@List.getElem?_set_self
abbrev Za:=@List.mem_cons
abbrev Z8:=@List.map_congr_left
abbrev Z9:=@List.getElem?_eq_none
abbrev ZB:=@Array.length_toList
abbrev ZD:=@List.getElem?_set_ne
abbrev Yz:=@List.drop_zero
abbrev Yq:=@List.length_replicate
abbrev Z2:=@List.getElem?_cons_succ
abbrev ZN:=@List.mem_append
abbrev Yo:=@List.take_append_drop
abbrev Z4:=@Nat.lt_irrefl
abbrev Yu:=@Nat.le_add_right
abbrev Yx:=@List.not_mem_nil
abbrev dO:=@decide_eq_true
abbrev Zx:=@decide_eq_false
abbrev Z7:=@beq_self_eq_true
abbrev ZE:=@List.all_cons
abbrev Ys:=@List.any_cons
abbrev Z0:=@Nat.lt_succ_self
abbrev Yt:=@Bool.or_eq_false_iff
abbrev I:Type->Type:=List
abbrev so:=ByteArray
abbrev U:Type->Type:=Option
abbrev dg:=Program
abbrev kd:=Value
abbrev Zy:=World
def bL(a:so):I UInt8:=a.data.toList
def VZ(a:so):a.toList=bL a:=ByteArray.toList_eq a
def Yj{a b:so}(h:bL a=bL b):a=b:=by cases a;cases b;simp only[bL,Array.toList_inj]at h;rw[h]
def yW(l:I Nat):I kd:=l.map λn=>Value.int .u8 (Int.ofNat n)
def EB:I Nat:=(List.range 256).map λn=>bif (Nat.ble 9 n&&Nat.ble n 13)||n==32 then 1 else 0
def AR:I (Nat×I kd):=(0,yW EB):: []
def Dq:I (Nat×I kd)->Nat->U (I kd)
 |[],_=>none
 |(k,l)::r,g=>bif k==g then some l else Dq r g
def Yl:∀{t:I (Nat×I kd)}{g:Nat}{l:I kd},Dq t g=some l->(g,l)∈t
 |[],g,l,h=>by cases h
 |(k,b)::r,g,l,h=>by
  unfold Dq at h;cases e:k==g with
  |true=>rw[e]at h;cases h;rw[Ua]at e;subst e;simp
  |false=>rw[e]at h;exact Zg _ (Yl h)
inductive D where
 |v (u:Value)
 |sl (xs:List (List D))
 |ag (ds:List D)
inductive fY where
 |d (x:D)
 |bM (c:List D) (off:Nat)
 |fn (f:FuncId) (cs:List fY)
 |po (f:FuncId) (cs:List fY)
inductive AV where
 |d (x:D)
 |agg (cs:List AV)
 |bq (cs:List AV)
 |ptr (n off:Nat)
 |bM (xs:List (List D)) (i off:Nat)
 |own (n:Nat) (xs:List (List D))
 |full (xs:List (List D))
 |row (n off len cap k:Nat)
 |fn (f:FuncId) (dD:List AV)
 |mp (n:Nat)
 |cU (n:Nat)
 |vec (n o len L k:Nat)
 |eH (n i j L k:Nat)
 |hid (c:fY)
 |dead
abbrev A0:AV:=.ptr 0 0
abbrev Ac:AV:=.ptr 1 0
abbrev Aj:AV:=.ptr 3 0
abbrev AD:AV:=.ptr 4 0
abbrev CL:AV:=.ptr 2 0
abbrev DM:AV:=.ptr 5 0
abbrev DP:AV:=.ptr 6 0
abbrev Ef:AV:=.ptr 7 0
abbrev Ej:AV:=.ptr 8 0
abbrev EH:AV:=.ptr 9 0
abbrev ER:AV:=.ptr 10 0
abbrev F1:AV:=.ptr 11 0
abbrev F2:AV:=.ptr 12 0
abbrev Fi:AV:=.ptr 14 0
abbrev Fu:AV:=.ptr 13 0
abbrev O(x:List (List D)):AV:=.d (.sl x)
abbrev X(x:Int):AV:=.d (.v (.int .u64 x))
inductive LS where
 |ready
 |busy
 |done (c:Code)
def LS.st:LS->LoopState
 | .ready=>.ready
 | .busy=>.busy
 | .done _=>.done
def LS.pd:LS->U Code
 | .done c=>some c
 |_=>none
inductive ar where
 |cells (cs:List AV)
 |front (e:TypeId) (k len:Nat)
 |vec (e:TypeId) (k:Nat) (cs:List (List AV))
 |map (kv:List (ByteArray×D))
 |jX (kv:List (ByteArray×D))
 |lp (ls:LS) (p:Nat) (as bd:Code) (cs:List AV)
 |it (sn:Nat×List Nat) (cs:List AV)
 |fM (T:TypeId) (cs:List AV)
 |jE (e:TypeId) (b:ByteArray)
 |gone
structure Gh where
 N:Nat
 Z:Nat->Prop
 S:Nat->Nat->Prop
 bg:Nat->Nat
 sg:Nat->Value
 ow:Nat->Option Nat
 fl:Nat->Nat
 M:Nat
inductive ee(S:Nat->Nat->Prop)(w:World):Value->D->Prop
 |v (u:Value):ee S w u (.v u)
 |sl (A:Option Addr) (b o c k:Nat) (xs:List (List D)) (u:Nat->Nat->Value)
    (hA:xs≠ []->A=some ⟨b,o,none⟩) (hc:xs.length<=c) (hm:c<=maxLen)
    (hk:∀x∈xs,x.length=k)
    (hS:∀i j,i<xs.length->j<k->S b (o+i*k+j)/\w.cell? ⟨b,o+i*k+j,none⟩=some (u i j)/\(u i j).oneCell'=true)
    (hu:∀(i j:Nat)(x:List D)(d:D),xs[i]?=some x->x[j]?=some d->ee S w (u i j) d):ee S w (.slice A xs.length c) (.sl xs)
 |ag (vs:Array Value) (ds:List D) (hl:vs.size=ds.length) (h:∀(i:Nat)(u:Value)(d:D),vs[i]?=some u->ds[i]?=some d->ee S w u d):ee S w (.agg vs) (.ag ds)
inductive oV(S:Nat->Nat->Prop)(w:World):Value->fY->Prop
 |d {u:Value} {x:D} (h:ee S w u x):oV S w u (.d x)
 |bM (c:List D) (off b o:Nat) (u:Nat->Value) (hS:∀j,j<c.length->S b (o+j)/\w.cell? ⟨b,o+j,none⟩=some (u j)) (hu:∀(j:Nat)(d:D),c[j]?=some d->ee S w (u j) d):oV S w (.pointer (some ⟨b,o+off,none⟩)) (.bM c off)
 |fn (f:FuncId) (vs:Array Value) (cs:List fY) (hl:vs.size=cs.length) (h:∀(i:Nat)(u:Value)(c:fY),vs[i]?=some u->cs[i]?=some c->oV S w u c):oV S w (.func (.func f) #[] vs) (.fn f cs)
 |po (f:FuncId) (vs:Array Value) (cs:List fY) (hl:vs.size=cs.length) (h:∀(i:Nat)(u:Value)(c:fY),vs[i]?=some u->cs[i]?=some c->oV S w u c):oV S w (.func (.func f) vs #[]) (.po f cs)
structure YZ(s u:Value)(o len L k:Nat):Prop where
 ol:o+len<=L
 sl:∃A c,u= .slice A len c/\len<=c/\c<=maxLen/\L<=c+o/\(o<L->∃g cap,s= .slice (some ⟨g,0,none⟩) L cap/\A=some ⟨g,o*k,none⟩/\o+c=cap)
 all:o=0->len=L->u=s
structure Yk(s u:Value)(i j L k:Nat):Prop where
 il:i<L
 pt:∃g cap,s= .slice (some ⟨g,0,none⟩) L cap/\u= .pointer (some ⟨g,i*k+j,none⟩)
inductive aQ(G:Gh)(w:World):Value->AV->Prop
 |d {u:Value} {x:D} (h:ee G.S w u x):aQ G w u (.d x)
 |agg (vs:Array Value) (cs:List AV) (hl:vs.size=cs.length) (h:∀(i:Nat)(u:Value)(c:AV),vs[i]?=some u->cs[i]?=some c->aQ G w u c):aQ G w (.agg vs) (.agg cs)
 |bq (vs:Array Value) (cs:List AV) (hl:vs.size=cs.length) (h:∀(i:Nat)(u:Value)(c:AV),vs[i]?=some u->cs[i]?=some c->aQ G w u c):aQ G w (.tuple vs) (.bq cs)
 |ptr (n off:Nat) (h:n<G.N):aQ G w (.pointer (some ⟨G.bg n,off,none⟩)) (.ptr n off)
 |bM (xs:List (List D)) (i off b o:Nat) (u:Nat->Value) (x:List D) (hx:xs[i]?=some x)
  (hS:∀j,j<x.length->G.S b (o+j)/\w.cell? ⟨b,o+j,none⟩=some (u j)) (hu:∀(j:Nat)(d:D),x[j]?=some d->ee G.S w (u j) d):aQ G w (.pointer (some ⟨b,o+off,none⟩)) (.bM xs i off)
 |own {u:Value} (n:Nat) (xs:List (List D)) (h:n<G.N) (hp:ee G.S w u (.sl xs)) (hle:xs.length<=G.fl n) (hf:xs.length=G.fl n->u=G.sg n):aQ G w u (.own n xs)
 |full {u:Value} (xs:List (List D)) (hp:ee G.S w u (.sl xs)) (hf:∃A,u= .slice A xs.length xs.length):aQ G w u (.full xs)
 |row (n off len cap k:Nat) (h:n<G.N) (hl:len<=cap) (hm:cap<=maxLen):aQ G w (.slice (some ⟨G.bg n,off,none⟩) len cap) (.row n off len cap k)
 |fn (f:FuncId) (vs:Array Value) (cs:List AV) (hl:vs.size=cs.length) (h:∀(i:Nat)(u:Value)(c:AV),vs[i]?=some u->cs[i]?=some c->aQ G w u c):aQ G w (.func (.func f) #[] vs) (.fn f cs)
 |mp (n:Nat) (h:n<G.N):aQ G w (.map (some (G.bg n))) (.mp n)
 |cU (n:Nat) (h:n<G.N):aQ G w (.func (.yield (G.bg n)) #[] #[]) (.cU n)
 |vec {u:Value} (n o len L k:Nat) (h:n<G.N) (hs:∃A l c,u= .slice A l c) (hL:L<=G.fl n) (hf:L=G.fl n->YZ (G.sg n) u o len L k):aQ G w u (.vec n o len L k)
 |eH {u:Value} (n i j L k:Nat) (h:n<G.N) (hs:∃b q,u= .pointer (some ⟨b,q,none⟩)) (hL:L<=G.fl n) (hf:L=G.fl n->Yk (G.sg n) u i j L k):aQ G w u (.eH n i j L k)
 |hid {u:Value} {c:fY} (h:oV G.S w u c) (h1:u.oneCell'=true):aQ G w u (.hid c)
 |dead (u:Value):aQ G w u .dead
def mq:I (so×D)->so->U D
 |[],_=>none
 |(k,d)::l,s=>bif bL k==bL s then some d else mq l s
structure vU(S:Nat->Nat->Prop)(w:World)(es:Array MapEntry)(clock:Nat)(kv:List (ByteArray×D)):Prop where
 size:es.size<=maxLen
 stamped:MapKept.Stamped es clock
 Cd:∀e∈es.toList,∃s d,e.key= .string s/\mq kv s=some d/\ee S w e.val d
 all:∀s d,mq kv s=some d->∃e∈es.toList,e.key= .string s
 len:es.size<=kv.length
 born:∀(i:Nat)(e:MapEntry),es[i]?=some e->e.born=i
 IC:clock=es.size
structure AA(S:Nat->Nat->Prop)(w:World)(es:Array MapEntry)(clock:Nat)(kv:List (ByteArray×D)):Prop where
 ok:vU S w es clock kv
 ord:∀(i:Nat)(e:MapEntry),es[i]?=some e->∃p,kv[i]?=some p/\e.key= .string p.1/\ee S w e.val p.2
 all:kv.length=es.size
def ar.eZ(G:Gh)(n:Nat):ar->U Nat
 | .cells _=>some (G.bg n)
 | .front _ _ _=>G.ow n
 | .vec _ _ _=>G.ow n
 | .map _=>some (G.bg n)
 | .jX _=>some (G.bg n)
 | .lp _ _ _ _ _=>some (G.bg n)
 | .it _ _=>some (G.bg n)
 | .fM _ _=>some (G.bg n)
 | .jE _ _=>G.ow n
 | .gone=>none
def cr(h:I ar)(G:Gh)(n:Nat):U Nat:=(h[n]?).bind (ar.eZ G n)
def eG{h:I ar}{G:Gh}{n:Nat}{B:ar}(e:h[n]?=some B):cr h G n=B.eZ G n:=by unfold cr;rw[e];rfl
def wX{h:I ar}{G:Gh}{n:Nat}(e:h[n]?=none):cr h G n=none:=by unfold cr;rw[e];rfl
def n9{h:I ar}{G:Gh}{n b:Nat}(e:cr h G n=some b):∃B,h[n]?=some B/\B.eZ G n=some b:=by
 unfold cr at e;cases c:h[n]? with
 |none=>rw[c]at e;cases e
 |some B=>rw[c]at e;exact⟨B,rfl,e⟩
def arX(v:kd):Prop:=v= .slice none 0 0\/∃g n b,v= .slice (some ⟨g,0,none⟩) n b/\b≠0
def fb(G:Gh)(w:Zy)(n:Nat):ar->Prop
 | .cells l=>¬G.Z (G.bg n)/\(∀o,¬G.S (G.bg n) o)/\∃(q:Array kd)(T:TypeId),w.heap[G.bg n]?=some (.cells q T (0,0))/\q.size=l.length/\∀(i:Nat)(u:kd)(c:AV),q[i]?=some u->l[i]?=some c->aQ G w u c
 | .front e k m=>G.fl n=m/\m<=maxLen/\((G.ow n=none/\∃A,G.sg n= .slice A m m)\/ ∃(g d:Nat)(f:Array kd),G.ow n=some g/\G.sg n= .slice (some ⟨g,0,none⟩) m d/\¬G.Z g/\w.heap[g]?=some (.cells f e (0,0))/\m<=d/\d<=maxLen/\f.size=d*k/\∀o,m*k<=o->¬G.S g o)
 | .vec e k l=>G.fl n=l.length/\l.length<=maxLen/\(∀c∈l,c.length=k)/\((G.ow n=none/\l=[]/\∃A,G.sg n= .slice A 0 0)\/ ∃(g d:Nat)(f:Array kd),G.ow n=some g/\G.sg n= .slice (some ⟨g,0,none⟩) l.length d/\¬G.Z g/\w.heap[g]?=some (.cells f e (0,0))/\l.length<=d/\d<=maxLen/\f.size=d*k/\(∀o,¬G.S g o)/\ ∀(i j:Nat)(c:I AV)(x:AV)(u:kd),l[i]?=some c->c[j]?=some x->f[i*k+j]?=some u->aQ G w u x)
 | .map y=>¬G.Z (G.bg n)/\(∀o,¬G.S (G.bg n) o)/\∃(t:Array MapEntry)(clock:Nat),w.heap[G.bg n]?=some (.map t clock)/\vU G.S w t clock y
 | .jX y=>¬G.Z (G.bg n)/\(∀o,¬G.S (G.bg n) o)/\∃(t:Array MapEntry)(clock:Nat),w.heap[G.bg n]?=some (.map t clock)/\AA G.S w t clock y
 | .lp C p as E l=>¬G.Z (G.bg n)/\(∀o,¬G.S (G.bg n) o)/\∃(fn:FuncId)(z:Array kd)(D:Nat),w.heap[G.bg n]?=some (.loop {state:=C.st,pending:=C.pd,fn:=fn,tmps:=z,params:= #[p],assign:=as,body:=E,defers:=D})/\z.size=l.length/\∀(i:Nat)(u:kd)(c:AV),z[i]?=some u->l[i]?=some c->aQ G w u c
 | .it B l=>¬G.Z (G.bg n)/\(∀o,¬G.S (G.bg n) o)/\∃(fn:Nat)(q:Array kd)(_:Unit),w.heap[G.bg n]?=some (.mapIter (some fn) B.1 B.2.toArray B.1)/\(q.size=l.length/\q= #[.map (some fn)])/\∀(i:Nat)(u:kd)(c:AV),q[i]?=some u->l[i]?=some c->aQ G w u c
 | .fM T l=>¬G.Z (G.bg n)/\(∀o,¬G.S (G.bg n) o)/\∃(_:Unit)(q:Array kd)(p:kd),w.heap[G.bg n]?=some (.cells (#[p]++q) T (0,0))/\(q.size=l.length/\(p= .pointer none\/p= .pointer (some ⟨G.bg n,0,none⟩))/\∀v∈q.toList,arX v)/\∀(i:Nat)(u:kd)(c:AV),q[i]?=some u->l[i]?=some c->aQ G w u c
 | .jE e b=>G.fl n=b.size/\b.size<=maxLen/\((G.ow n=none/\b.size=0/\∃A,G.sg n= .slice A 0 0)\/ ∃(g d:Nat)(f:Array kd),G.ow n=some g/\G.sg n= .slice (some ⟨g,0,none⟩) b.size d/\¬G.Z g/\w.heap[g]?=some (.cells f e (0,0))/\b.size<=d/\d<=maxLen/\f.size=d/\(∀o,¬G.S g o)/\∀(i:Nat)(u:UInt8),(bL b)[i]?=some u->f[i]?=some (.int .u8 u.toNat))
 | .gone=>True
def Pp(G:Gh)(w:Zy):Prop:=(∀(g:Nat)(l:I kd),(g,l)∈AR->∀(j:Nat)(v:kd),l[j]?=some v->G.S g j/\w.cell? ⟨g,j,none⟩=some v)/\G.M<=w.heap.size
structure cu(G:Gh)(w:World)(h:List ar):Prop where
 len:h.length=G.N
 z:∀b,G.Z b->b<w.heap.size
 S:∀b o,G.S b o->b<w.heap.size
 dM:∀(n:Nat)(B:ar),h[n]?=some B->fb G w n B
 inj:∀(m n b:Nat),cr h G m=some b->cr h G n=some b->m=n
 gl:Pp G w
structure cq(N:Nat)(G:Gh)(w:World)(G':Gh)(w':World):Prop where
 size:w.heap.size<=w'.heap.size
 S:∀b o,G.S b o->G'.S b o
 cell:∀b o,G.S b o->w'.cell? ⟨b,o,none⟩=w.cell? ⟨b,o,none⟩
 bg:∀n,n<N->G'.bg n=G.bg n
 fr:∀n,n<N->(G'.fl n=G.fl n/\G'.sg n=G.sg n)\/G.fl n<G'.fl n
 Z:((∀b,G.Z b->G'.Z b)/\∀b,G'.Z b->G.Z b\/w.heap.size<=b)/\G'.M=G.M
 old:∀b,G.Z b->w'.heap[b]?=w.heap[b]?
 os:w'.os=w.os
 tape:w'.tape=w.tape
 output:w'.output=w.output
 new:∀b o,G'.S b o->G.S b o\/¬G.Z b
def iX{Z c:Nat->Prop}{m M d:Nat}(h:c=Z)(e:d=M:=by rfl):((∀b,Z b->c b)/\∀b,c b->Z b\/m<=b)/\d=M:=⟨⟨λ_ k=>h▸k,λ_ k=>.inl (h▸k)⟩,e⟩
def cq.refl(N:Nat)(G:Gh)(w:Zy):cq N G w G w:=
 ⟨Zv _,λ_ _ h=>h,λ_ _ _=>rfl,λ_ _=>rfl,λ_ _=>.inl ⟨rfl,rfl⟩,iX rfl,λ_ _=>rfl,rfl,rfl,rfl,λ_ _ h=>.inl h⟩
def cq.trans{N:Nat}{G G1 i:Gh}{w j w2:Zy}(h:cq N G w G1 j)(k:cq N G1 j i w2):cq N G w i w2:=
 ⟨Zc h.size k.size,λb o c=>k.S b o (h.S b o c),λb o c=>(k.cell b o (h.S b o c)).trans (h.cell b o c),λn d=>(k.bg n d).trans (h.bg n d),
  λn d=>by
   rcases h.fr n d with⟨f,l⟩|f<;>rcases k.fr n d with⟨g,m⟩|g
   ·exact .inl ⟨g.trans f,m.trans l⟩
   ·exact .inr (f▸g)
   ·exact .inr (g▸f)
   ·exact .inr (Nat.lt_trans f g),
  ⟨⟨λb e=>k.Z.1.1 b (h.Z.1.1 b e),λb e=>(k.Z.1.2 b e).elim (h.Z.1.2 b) λc=>.inr (Zc h.size c)⟩,k.Z.2.trans h.Z.2⟩,λb e=>(k.old b (h.Z.1.1 b e)).trans (h.old b e),k.os.trans h.os,k.tape.trans h.tape,k.output.trans h.output,λb o c=>(k.new b o c).elim (h.new b o) (λd=>.inr λp=>d (h.Z.1.1 b p))⟩
def cq.less{N M:Nat}{G G':Gh}{w w':Zy}(h:cq N G w G' w')(c:M<=N):cq M G w G' w':=
 ⟨h.size,h.S,h.cell,λn b=>h.bg n (ZU b c),λn b=>h.fr n (ZU b c),h.Z,h.old,h.os,h.tape,h.output,h.new⟩
def cq.mz{N:Nat}{G G':Gh}{w w':Zy}(h:cq N G w G' w'){b:Nat}(c:b<w.heap.size)(d:¬G.Z b):¬G'.Z b:=λk=>(h.Z.1.2 b k).elim d λe=>Z4 _ (ZU c e)
def tI(G:Gh)(w:Zy)(b:I Deferred):Prop:=∃l:I Nat,l.Nodup/\b=l.map (λD=>{target:= .collected D,args:= #[]})/\∀D∈l,G.M<=D/\G.Z D/\w.heap[D]?=some (.deferred (some []))
def tI.nil(G:Gh)(w:Zy):tI G w []:=⟨[],List.nodup_nil,rfl,λ_ h=>absurd h Yx⟩
def tI.keep{N:Nat}{G G':Gh}{w w':Zy}{ds:I Deferred}(h:tI G w ds)(d:cq N G w G' w'):tI G' w' ds:=
 let ⟨l,e,f,b⟩:=h
 ⟨l,e,f,λD c=>⟨d.Z.2▸(b D c).1,d.Z.1.1 D (b D c).2.1,(d.old D (b D c).2.1).trans (b D c).2.2⟩⟩
def Pp.keep{N:Nat}{G G':Gh}{w w':Zy}(h:Pp G w)(b:cq N G w G' w'):Pp G' w':=⟨λg l c j v d=>
 ⟨b.S _ _ (h.1 g l c j v d).1,(b.cell _ _ (h.1 g l c j v d).1).trans (h.1 g l c j v d).2⟩,by rw[b.Z.2];exact Zc h.2 b.size⟩
def ee.keep{S S':Nat->Nat->Prop}{w w':Zy}(l:∀b o,S b o->S' b o)(m:∀b o,S b o->w'.cell? ⟨b,o,none⟩=w.cell? ⟨b,o,none⟩){u:kd}{x:D}(h:ee S w u x):ee S' w' u x:=by
 induction h with
 |v u=>exact .v u
 |sl A b o c k p u q t y z d _ g=>
  exact .sl A b o c k p u q t y z (λi j e f=>⟨l _ _ (d i j e f).1,(m _ _ (d i j e f).1).trans (d i j e f).2.1,(d i j e f).2.2⟩) g
 |ag B C E _ g=>exact .ag B C E g
def oV.keep{S S':Nat->Nat->Prop}{w w':Zy}(e:∀b o,S b o->S' b o)(g:∀b o,S b o->w'.cell? ⟨b,o,none⟩=w.cell? ⟨b,o,none⟩){u:kd}{x:fY}(h:oV S w u x):oV S' w' u x:=by
 induction h with
 |d h=>exact .d (h.keep e g)
 |bM c i b o u k v=>exact .bM c i b o u (λj l=>⟨e _ _ (k j l).1,(g _ _ (k j l).1).trans (k j l).2⟩) (λj d y=>(v j d y).keep e g)
 |fn f m p q _ t=>exact .fn f m p q t
 |po f m p q _ t=>exact .po f m p q t
def aQ.keep{G G':Gh}{w w':Zy}(c:cq G.N G w G' w')(m:G.N<=G'.N){u:kd}{x:AV}(h:aQ G w u x):aQ G' w' u x:=by
 induction h with
 |d h=>exact .d (h.keep c.S c.cell)
 |agg t v p _ y=>exact .agg t v p y
 |bq t v p _ y=>exact .bq t v p y
 |ptr n l h=>rw[<-c.bg n h];exact .ptr n l (ZU h m)
 |bM z i l b o u x H B J=>exact .bM z i l b o u x H (λj C=>⟨c.S _ _ (B j C).1,(c.cell _ _ (B j C).1).trans (B j C).2⟩) (λj d M=>(J j d M).keep c.S c.cell)
 |own n z h E R q=>
  refine .own n z (ZU h m) (E.keep c.S c.cell) ?_ ?_
  ·rcases c.fr n h with⟨g,_⟩|g
   ·omega
   ·omega
  ·intro e;rcases c.fr n h with⟨g,A⟩|g
   ·rw[A];exact q (e.trans g)
   ·omega
 |full z E q=>exact .full z (E.keep c.S c.cell) q
 |row n l len cap k h p T=>rw[<-c.bg n h];exact .row n l len cap k (ZU h m) p T
 |fn f t v p _ y=>exact .fn f t v p y
 |mp n h=>rw[<-c.bg n h];exact .mp n (ZU h m)
 |cU n h=>rw[<-c.bg n h];exact .cU n (ZU h m)
 |vec n o len L k h F W q=>
  refine .vec n o len L k (ZU h m) F ?_ ?_;{rcases c.fr n h with⟨g,_⟩|g<;>omega}
  ·intro e;rcases c.fr n h with⟨g,A⟩|g
   ·rw[A];exact q (e.trans g)
   ·omega
 |eH n i j L k h F W q=>
  refine .eH n i j L k (ZU h m) F ?_ ?_;{rcases c.fr n h with⟨g,_⟩|g<;>omega}
  ·intro e;rcases c.fr n h with⟨g,A⟩|g
   ·rw[A];exact q (e.trans g)
   ·omega
 |hid h g=>exact .hid (h.keep c.S c.cell) g
 |dead u=>exact .dead u
structure St where
 n:Nat
 t:List (Nat×AV)
 h:List ar
def bP:I (Nat×AV)->Nat->AV
 |[],_=>.dead
 |(k,x)::l,i=>bif i==k then x else bP l i
def mE(k:Nat)(x:AV)(l:I (Nat×AV))(i:Nat):bP ((k,x)::l) i=if i=k then x else bP l i:=by
 simp only[bP,cond_eq_ite,Ua]
def gN(b:Bool)(p:Prop):Prop:=cond b p False
def cv{b:Bool}{p:Prop}:gN b p↔b=true/\p:=by cases b<;>simp [gN]
def cP(a b:Nat):Bool:=a-b==0
def dS{a b:Nat}:cP a b=true↔a<=b:=by simp [cP];omega
def Yg:IntKind->Nat
 | .i8=>0| .i16=>1| .i32=>2| .i64=>3| .u8=>4| .u16=>5| .u32=>6| .u64=>7
def zH(a b:IntKind):Bool:=Yg a==Yg b
def U1{a b:IntKind}:zH a b=true↔a=b:=by cases a<;>cases b<;>decide
def St.put(s:St)(b:U Nat)(x:AV):St:=
 match b with
 |none=>s
 |some d=>bif s.n-d==0 then s else{s with t:=(d,x)::s.t}
def sY{s:St}{d:Nat}(h:d<s.n)(x:AV):s.put (some d) x={s with t:=(d,x)::s.t}:=by
 have:(s.n-d==0)=false:=by simp;omega
 simp only[St.put,this,T6]
def JB{s:St}{d:Nat}(h:¬d<s.n)(x:AV):s.put (some d) x=s:=by
 have:(s.n-d==0)=true:=by simp;omega
 simp only[St.put,this,Tq]
def St.wh(s:St)(h:I ar):St:={s with h:=h}
def WG:kd->AV
 | .agg b=>.agg (b.toList.map λu=>.d (.v u))
 | .tuple b=>.bq (b.toList.map λu=>.d (.v u))
 |u=>.d (.v u)
def ev(s:St):Operand->AV
 | .tmp t=>bP s.t t
 | .const v=>WG v
 | .func f=>.fn f []
 | .global g=>match Dq AR g with
   |some l=>.bM [l.map .v] 0 0
   |none=>.dead
def AV.lF:AV->Bool
 | .d (.v u)=>u.oneCell'
 | .d (.sl _)| .ptr .. | .bM .. | .own .. | .full _| .row .. | .fn .. | .mp _| .cU _| .hid _| .vec .. | .eH .. =>true
 | .agg _| .bq _| .dead| .d (.ag _)=>false
def AV.cells:AV->I AV
 | .agg b=>b
 |x=>[x]
def AV.kT:AV->Bool
 | .agg b=>b.all AV.lF
 |x=>x.lF
def D.vZ:D->D
 | .v (.slice none 0 0)=>.sl []
 |x=>x
def AV.yT:AV->U D
 | .d x=>some x.vZ
 | .own _ b=>some (.sl b)
 | .full b=>some (.sl b)
 |_=>none
def AV.gX:AV->U (I (I D))
 | .d (.sl b)=>some b
 | .own _ b=>some b
 | .full b=>some b
 | .d (.v (.slice none 0 0))=>some []
 |_=>none
def AV.int?:AV->U Int
 | .d (.v (.int _ n))=>some n
 |_=>none
def fY.av:fY->AV
 | .d x=>.d x
 | .bM c b=>.bM [c] 0 b
 | .fn f e=>.hid (.fn f e)
 | .po f e=>.hid (.po f e)
def fY.app(as:I AV):fY->U (FuncId×I AV)
 | .fn g b=>some (g,as++b.map fY.av)
 | .po g b=>some (g,b.map fY.av++as)
 |_=>none
mutual
def AV.cap:AV->U fY
 | .d x=>some (.d x)
 | .own _ xs=>some (.d (.sl xs))
 | .full xs=>some (.d (.sl xs))
 | .bM xs i off=>match xs[i]? with
   |some c=>some (.bM c off)
   |none=>none
 | .fn f cs=>match AV.xX cs with
   |some l=>some (.fn f l)
   |none=>none
 | .hid c=>some c
 |_=>none
def AV.xX:I AV->U (I fY)
 |[]=>some []
 |x::l=>match x.cap,AV.xX l with
  |some c,some l=>some (c::l)
  |_,_=>none
end
def Tm(f:FuncId)(first dD:I AV):U AV:=
 match first with
 |[]=>some (.fn f dD)
 |l=>match AV.xX l,dD with
  |some b,[]=>some (.hid (.po f b))
  |_,_=>none
def ic(P:dg)(t:TypeId):U Nat:=(P.info? t).map (·.size)
def nE(P:dg)(t:TypeId):U Bool:=(P.underlying t).map fun| .struct _=>true| .array .. =>true|_=>false
def ug(P:dg)(t:TypeId)(i:Nat):U (Nat×Nat×Bool):=
 match P.underlying t with
 |some (.struct b)=>match b[i]? with
  |some f=>match ic P f.type,nE P f.type with
   |some (k+1),some g=>some (f.offset,k+1,g)
   |_,_=>none
  |none=>none
 |_=>none
def fQ(P:dg)(t:TypeId):U (TypeId×Nat):=
 match P.underlying t with
 |some (.slice e)=>(ic P e).map λk=>(e,k)
 |_=>none
def vW(P:dg)(t:TypeId):U (Nat×TypeId×Nat):=
 match P.underlying t with
 |some (.array n e)=>(ic P e).map λk=>(n,e,k)
 |_=>none
def jj(P:dg)(t:TypeId):Bool:=match P.underlying t with|some .string=>true|_=>false
def Bg(P:dg)(t:TypeId):Bool:=match P.underlying t with|some .bool=>true|_=>false
def sq(P:dg)(t:TypeId):U IntKind:=match P.underlying t with|some (.int k)=>some k|_=>none
def I9(P:dg)(t:TypeId):Bool:=match P.underlying t with|some (.int .u8)=>true|_=>false
def jB(P:dg)(t:TypeId):U kd:=(P.info? t).bind (·.zero)
def te(P:dg)(t:TypeId):U Nat:=(P.info? t).map (·.bytes)
def UB(c:BinOp)(k:IntKind)(a b:Int):U kd:=
 match c with
 | .add=>some (.int k (k.wrap (a+b)))
 | .sub=>some (.int k (k.wrap (a-b)))
 | .mul=>some (.int k (k.wrap (a*b)))
 | .eql=>some (.bool (a==b))
 | .neq=>some (.bool (a !=b))
 | .lss=>some (.bool (a<b))
 | .leq=>some (.bool (a<=b))
 | .gtr=>some (.bool (a>b))
 | .geq=>some (.bool (a>=b))
 | .and=>some (.int k (k.wrap (BitVec.ofInt k.bits a&&&BitVec.ofInt k.bits b).toNat))
 | .or=>some (.int k (k.wrap (BitVec.ofInt k.bits a|||BitVec.ofInt k.bits b).toNat))
 | .xor=>some (.int k (k.wrap (BitVec.ofInt k.bits a^^^BitVec.ofInt k.bits b).toNat))
 | .andNot=>some (.int k (k.wrap (BitVec.ofInt k.bits a&&& ~~~BitVec.ofInt k.bits b).toNat))
 |_=>none
def Wo(c:BinOp)(a b:so):U kd:=
 match c with
 | .eql=>some (.bool (bL a==bL b))
 | .neq=>some (.bool (!(bL a==bL b)))
 | .lss=>some (.bool (Op.bytesLess (bL a) (bL b)))
 | .leq=>some (.bool (Op.bytesLess (bL a) (bL b)||bL a==bL b))
 | .gtr=>some (.bool (!(Op.bytesLess (bL a) (bL b)||bL a==bL b)))
 | .geq=>some (.bool (!Op.bytesLess (bL a) (bL b)))
 |_=>none
def Sz(c:BinOp)(a b:Bool):U kd:=
 match c with
 | .eql=>some (.bool (a==b))
 | .neq=>some (.bool (!(a==b)))
 |_=>none
def Sl(c:BinOp)(k:IntKind)(a b:Int):U kd:=
 match c with
 | .quo=>some (.int k (k.wrap (a.tdiv b)))
 | .rem=>some (.int k (a.tmod b))
 |_=>none
def VH(c:BinOp)(k:IntKind)(a b:Int):U kd:=
 match c with
 | .shl=>some (.int k (k.wrap (a*2^(min b.toNat k.bits))))
 | .shr=>some (.int k (a.fdiv (2^(min b.toNat k.bits))))
 |_=>none
def O6(c:UnOp)(x:kd):U kd:=
 match c,x with
 | .not,.bool b=>some (.bool (!b))
 | .neg,.int k n=>some (.int k (k.wrap (0-n)))
 | .xor,.int k n=>some (.int k (k.wrap (BitVec.ofInt k.bits (if k.signed then-1 else k.max)^^^BitVec.ofInt k.bits n).toNat))
 |_,_=>none
def jK(cs:I AV)(off:Nat)(ys:I AV):I AV:=cs.take off++ys++cs.drop (off+ys.length)
def pK(k:Nat):Nat->I D->I (I D)
 |0,_=>[]
 |n+1,l=>l.take k::pK k n (l.drop k)
def rP(places:I (Nat×Nat)):I AV->I (Nat×AV)->U (I AV)
 |c,[]=>some c
 |c,(i,x)::r=>
  match places[i]? with
  |some (b,k)=>bif x.cells.length==k&&cP (b+k) c.length then rP places (jK c b x.cells) r else none
  |none=>none
def om:I AV->U (I D)
 |[]=>some []
 |x::r=>match x.yT,om r with
  |some d,some l=>some (d::l)
  |_,_=>none
def F3(P:dg)(b:I Field):U (I (Nat×Nat)):=b.mapM λf=>(ic P f.type).map λk=>(f.offset,k)
def O7(P:dg)(f:FuncId):Bool:=
 match P.funcs[f]? with
 |some b=>b.body.isSome&& !(b.name== "runtime.NumGoroutine")
 |none=>false
def dt(P:dg)(f:FuncId)(args:I AV)(h:I ar)(K:AV->I ar->Prop):Prop:=O7 P f=true/\∀(G:Gh)(w:Zy)(b:Array kd),cu G w h->b.size=args.length->(∀(i:Nat)(u:kd)(c:AV),b[i]?=some u->args[i]?=some c->aQ G w u c)-> Calls P f b w λe d=>∃v G' r g,e= .returned v/\cq G.N G w G' d/\G.N<=G'.N/\cu G' d g/\aQ G' d v r/\K r g
def dt.mono{P:dg}{f:FuncId}{args:I AV}{h:I ar}{K K':AV->I ar->Prop}(b:dt P f args h K)(c:∀r h',K r h'->K' r h'):dt P f args h K':=
 ⟨b.1,λG w d g i j=>(b.2 G w d g i j).mono λ_ _ ⟨v,k,r,h',e,l,m,p,q,t⟩=>⟨v,k,r,h',e,l,m,p,q,c _ _ t⟩⟩
def ur(h:I ar)(p:AV)(K:I AV->Nat->Prop):Prop:=
 match p with
 | .ptr n b=>match h[n]? with
   |some (.cells c)=>K c b
   |_=>False
 | .bM e i b=>match e[i]? with
   |some c=>K (c.map .d) b
   |none=>False
 |_=>False
def ql(P:dg)(t:TypeId)(h:I ar)(p:AV)(K:AV->Prop):Prop:=
 ur h p λd b=>match nE P t,ic P t with
  |some true,some k=>gN (cP (b+k) d.length) (K (.agg ((d.drop b).take k)))
  |some false,some _=>match d[b]? with
   |some c=>K c
   |none=>False
  |_,_=>False
def zg(P:dg)(t:TypeId)(h:I ar)(p x:AV)(K:I ar->Prop):Prop:=
 match p with
 | .ptr n b=>match h[n]? with
   |some (.cells c)=>match ic P t with
    |some k=>gN (k==x.cells.length&&x.kT&&cP (b+x.cells.length) c.length) (K (h.set n (.cells (jK c b x.cells))))
    |none=>False
   |_=>False
 |_=>False
def vt(P:dg)(T:TypeId)(x i:AV)(K:AV->Prop):Prop:=
 match fQ P T with
 |some (_,k)=>
  match x with
  | .row n e f _ j=>match i.int? with
    |some z=>gN (j==k) (0<=z/\z<f/\K (.ptr n (e+z.toNat*k)))
    |none=>False
  |_=>match x.gX,i.int? with
   |some g,some z=>0<=z/\(match g[z.toNat]? with|some c=>c.length=k/\K (.bM [c] 0 0)|none=>False)
   |_,_=>False
 |none=>match vW P T,x,i.int? with
  |some (n,_,k),.ptr b e,some z=>0<=z/\z<n/\K (.ptr b (e+z.toNat*k))
  |some (n,_,k),.bM g i e,some z=>gN (k==1) (0<=z/\z<n/\(match g[i]? with|some c=>(match c[e+z.toNat]? with|some d=>K (.bM [[d]] 0 0)|none=>False)|none=>False))
  |_,_,_=>False
def um(P:dg)(T:TypeId)(x:AV)(K:Nat->Prop):Prop:=
 match x with
 | .d (.v (.string s))=>gN (jj P T) (K s.size)
 | .row _ _ b _ _=>gN (fQ P T).isSome (K b)
 |x=>match x.gX with
  |some c=>gN (fQ P T).isSome (K c.length)
  |none=>False
def ly(ρ:Operand->AV)(x:U Operand)(b:Nat)(K:Nat->Prop):Prop:=
 match x with
 |none=>K b
 |some y=>match (ρ y).int? with
  |some z=>0<=z/\K z.toNat
  |none=>False
def w5(P:dg)(T:TypeId)(ρ:Operand->AV)(x:AV)(lo hi g:U Operand)(K:AV->Prop):Prop:=
 match g with
 |none=>
  match x with
  | .d (.v (.string b))=>gN (jj P T) (ly ρ hi b.size λh=>h<=b.size/\ly ρ lo 0 λl=>l<=h/\K (.d (.v (.string (b.extract l h)))))
  | .ptr n f=>match vW P T with
    |some (m,_,k)=>gN (cP m 4096) (ly ρ hi m λh=>gN (cP h m) (ly ρ lo 0 λl=>gN (cP l h&& !cP m l) (K (.row n (f+l*k) (h-l) (m-l) k))))
    |none=>False
  |x=>match x.gX,fQ P T with
   |some e,some (_,k)=>(∀c∈e,c.length=k)/\ly ρ hi e.length λh=>h<=e.length/\ly ρ lo 0 λl=>l<=h/\K (.d (.sl ((e.take h).drop l)))
   |_,_=>False
 |some m=>match lo,hi with
  |none,some y=>match x.gX,fQ P T with
   |some e,some (_,k)=>(∀c∈e,c.length=k)/\ly ρ (some m) 0 λc=>c<=e.length/\ly ρ (some y) 0 λh=>h=c/\K (.full (e.take h))
   |_,_=>False
  |_,_=>False
def wG(h:I ar)(k:Nat)(x:AV)(K:I (I D)->Prop):Prop:=
 match x with
 | .row n d b _ g=>match h[n]? with
   |some (.cells e)=>match om ((e.drop d).take (b*k))with
    |some i=>gN (g==k&&cP (d+b*k) e.length&&((e.drop d).take (b*k)).all AV.lF) (K (pK k b i))
    |none=>False
   |_=>False
 |x=>match x.gX with
  |some f=>(∀c∈f,c.length=k)/\K f
  |none=>False
def xt(P:dg)(T:TypeId)(h:I ar)(x y:AV)(K:AV->I ar->Prop):Prop:=
 match fQ P T with
 |some (e,k)=>match jB P e,te P e with
  |some z,some g=>gN (cP 1 k&&z.cells.toList.length==k)<|wG h k y λb=>
   match x with
   | .own n f=>match h[n]? with
     |some (.front i j len)=>gN (i==e&&j==k)<|len=f.length/\(∀c∈f,c.length=k)/\f.length+b.length<=maxLen/\(f.length+b.length)*g<=140737488355328/\K (.own n (f++b)) (h.set n (.front e k (f.length+b.length)))
     |_=>False
   | .d (.v (.slice none 0 0))=>b.length<=maxLen/\b.length*g<=140737488355328/\K (.own h.length b) (h++[.front e k b.length])
   | .full f=>(∀c∈f,c.length=k)/\f.length+b.length<=maxLen/\(f.length+b.length)*g<=140737488355328/\K (.own h.length (f++b)) (h++[.front e k (f.length+b.length)])
   |_=>False
  |_,_=>False
 |none=>False
def Tr(P:dg)(T:TypeId):U (I (Nat×Nat)):=
 match P.underlying T with
 |some (.struct b)=>F3 P b.toList
 |_=>none
def yU(P:dg)(T:TypeId)(b:I (Nat×AV))(K:AV->Prop):Prop:=
 match Tr P T,jB P T with
 |some places,some z=>match rP places (z.cells.toList.map λu=>.d (.v u)) b with
  |some c=>gN ((b.all λp=>p.2.kT)&&z.cells.toList.all Value.oneCell') (K (.agg c))
  |none=>False
 |_,_=>False
def xr(k:Nat):Nat->Nat->I (Nat×Nat)
 |_,0=>[]
 |o,n+1=>(o,k)::xr k (o+k) n
def tZ:Nat->I AV->I AV
 |0,_=>[]
 |n+1,l=>l++tZ n l
def yf(P:dg)(T:TypeId)(len:Nat)(b:I (Nat×AV))(K:AV->Prop):Prop:=
 match fQ P T with
 |some (e,k)=>match jB P e with
  |some z=>match rP (xr k 0 len) (tZ len (z.cells.toList.map λu=>.d (.v u))) b with
   |some c=>match om c with
    |some f=>gN (cP 1 k&&cP (len*k) 16777216&&z.cells.toList.length==k&&z.cells.toList.all Value.oneCell'&&(b.all λp=>p.2.kT)) (K (.full (pK k len f)))
    |none=>False
   |none=>False
  |none=>False
 |none=>False
def Jh(P:dg)(t:TypeId)(x y:AV):U Bool:=
 match x,y with
 | .d (.v (.int k a)),.d (.v (.int c b))=>bif zH k c&&(sq P t).isSome then some (a==b)else none
 | .d (.v (.string a)),.d (.v (.string b))=>bif jj P t then some (bL a==bL b)else none
 | .d (.v (.bool a)),.d (.v (.bool b))=>bif Bg P t then some (a==b)else none
 |_,_=>none
def Bi(P:dg)(c:TypeId->I AV->I AV->U Bool):I Field->I AV->I AV->U Bool
 |[],_,_=>some true
 |f::g,d,e=>bif f.name== "_" then none else
  match nE P f.type with
  |some false=>match d[f.offset]?,e[f.offset]? with
   |some x,some y=>match Jh P f.type x y,Bi P c g d e with
    |some a,some b=>some (a&&b)
    |_,_=>none
   |_,_=>none
  |some true=>match ic P f.type with
   |some k=>bif cP (f.offset+k) d.length&&cP (f.offset+k) e.length then match c f.type ((d.drop f.offset).take k) ((e.drop f.offset).take k),Bi P c g d e with
    |some a,some b=>some (a&&b)
    |_,_=>none
    else none
   |none=>none
  |none=>none
def NS(P:dg):Nat->TypeId->I AV->I AV->U Bool
 |0=>λ_ _ _=>none
 |d+1=>λT b c=>match P.underlying T with
  |some (.struct e)=>bif P.stoodInHeld T then none else Bi P (NS P d) e.toList b c
  |_=>none
def OV(P:dg)(T:TypeId)(xs ys:I AV):U Bool:=
 match P.underlying T with
 |some (.struct b)=>bif P.stoodInHeld T||P.eqGuardType P.depth T then none else Bi P (NS P 4) b.toList xs ys
 |_=>none
def Az(c:BinOp)(b:Bool):U kd:=
 match c with
 | .eql=>some (.bool b)
 | .neq=>some (.bool (!b))
 |_=>none
def yx(P:dg)(T:TypeId)(c:BinOp)(x y:AV)(K:AV->Prop):Prop:=
 match x,y with
 | .d (.v (.int k a)),.d (.v (.int e b))=>
   match Sl c k a b with
   |some v=>gN (zH k e) (b≠0/\K (.d (.v v)))
   |none=>match VH c k a b with
    |some v=>0<=b/\K (.d (.v v))
    |none=>match UB c k a b with
     |some v=>gN (zH k e) (K (.d (.v v)))
     |none=>False
 | .d (.v (.string a)),.d (.v (.string b))=>match Wo c a b with
   |some v=>K (.d (.v v))
   |none=>match c with
    | .add=>a.size+b.size<=maxLen/\K (.d (.v (.string (a++b))))
    |_=>False
 | .d (.v (.bool a)),.d (.v (.bool b))=>match Sz c a b with
   |some v=>gN (Bg P T) (K (.d (.v v)))
   |none=>False
 | .agg f,.agg g=>match OV P T f g with
   |some b=>match Az c b with
    |some v=>K (.d (.v v))
    |none=>False
   |none=>False
 |_,_=>False
def yo(b:UnOp)(x:AV)(K:AV->Prop):Prop:=
 match x with
 | .d (.v u)=>match O6 b u with
   |some v=>K (.d (.v v))
   |none=>False
 |_=>False
def xZ(P:dg)(c f:TypeId)(x:AV)(K:AV->Prop):Prop:=
 match x with
 | .d (.v (.int _ n))=>match sq P c,sq P f with
   |some _,some k=>K (.d (.v (.int k (k.wrap n))))
   |_,_=>False
 | .d (.v (.string b))=>gN (jj P c&&jj P f) (K (.d (.v (.string b))))
 |x=>match x.gX,fQ P c with
  |some i,some (e,_)=>gN (I9 P e&&jj P f) (∃g:I Int,i=g.map (λn=>[.v (.int .u8 n)])/\K (.d (.v (.string ⟨(g.map λn=>UInt8.ofNat n.toNat).toArray⟩))))
  |_,_=>False
def zq(P:dg)(T:TypeId)(x:AV)(f:Nat)(K:AV->Prop):Prop:=
 match ug P T f,x with
 |some (b,k,true),.agg d=>gN (cP (b+k) d.length) (K (.agg ((d.drop b).take k)))
 |some (b,_,false),.agg d=>match d[b]? with
  |some c=>K c
  |none=>False
 |_,_=>False
def vD(P:dg)(T:TypeId):U (TypeId×TypeId):=
 match P.underlying T with
 |some (.map k e)=>some (k,e)
 |_=>none
inductive Sd
 |no
 |lt (n:Nat)
def Sd.ok:Sd->Prop
 | .no=>True
 | .lt n=>n<maxLen
def Kk:D->AV
 | .ag b=>.agg (b.map .d)
 |d=>.d d
def Bb:kd->AV
 | .agg b=>.agg (b.toList.map λv=>.d (D.vZ (.v v)))
 |v=>.d (.v v)
def sf(b:Bool)(z:kd):U D->AV
 |some d=>bif b then .bq [Kk d,.d (.v (.bool true))]else Kk d
 |none=>bif b then .bq [Bb z,.d (.v (.bool false))]else Bb z
def AV.UJ:AV->U D
 | .agg b=>(om b).map .ag
 |x=>x.yT
def rh(P:dg)(c:Op)(ρ:Operand->AV)(h:I ar):U (AV×I ar×Sd):=
 match c with
 | .makeMap T none=>match vD P T with
   |some _=>some (.mp h.length,h++[.map []],.no)
   |none=>none
 | .lookup T m i f=>match vD P T with
   |some (k,e)=>match jB P e with
    |some z=>match ρ m,ρ i with
     | .mp n,.d (.v (.string s))=>match h[n]? with
       |some (.map b)=>bif jj P k then some (sf f z (mq b s),h,.no)else none
       |_=>none
     |_,_=>none
    |none=>none
   |none=>none
 | .mapUpdate T m i x=>match vD P T with
   |some (k,_)=>match ρ m,ρ i,(ρ x).UJ with
    | .mp n,.d (.v (.string s)),some d=>match h[n]? with
      |some (.map b)=>bif jj P k then some (.d (.v undef),h.set n (.map ((s,d)::b)),.lt b.length)else none
      |_=>none
    |_,_,_=>none
   |none=>none
 |_=>none
inductive VA
 |no
 |el (c:List AV)
 |st (c:List AV) (cs:List (List AV))
 |mk (cs:List (List AV)) (len m:Nat)
 |ap (cs ys:List (List AV)) (L len:Nat)
 |ix (i:Nat)
 |ol (o len:Nat)
def RI(P:dg)(t:TypeId)(c:I AV)(j:Nat):U AV:=
 match nE P t,ic P t with
 |some true,some k=>bif cP (j+k) c.length then some (.agg ((c.drop j).take k))else none
 |some false,some _=>c[j]?
 |_,_=>none
def cg(xs:I (I D)):I (I AV):=xs.map λc=>c.map AV.d
def BY(h:I ar)(k:Nat)(y:AV)(ys:I (I AV)):Prop:=(∃d,y.gX=some d/\(∀c∈d,c.length=k)/\ys=cg d)\/(∃n o b L e f,y= .vec n o b L k/\h[n]?=some (.vec e k f)/\f.length=L/\ys=(f.drop o).take b/\∀c∈ys,c.all AV.lF=true)
def xy(ρ:Operand->AV)(d:Int):U Operand->U Int
 |none=>some d
 |some y=>(ρ y).int?
def jr(P:dg)(W:Op)(ρ:Operand->AV)(h:I ar)(a:VA):U (AV×I ar×Prop):=
 match W with
 | .indexAddr T x i=>match ρ x,(ρ i).int?,fQ P T,a with
   | .vec n o g L k,some z,some (_,H),.ix N=>match h[n]? with
     |some (.vec _ J A)=>bif H==k&&J==k then some (.eH n N 0 L k,h,A.length=L/\0<=z/\z<g/\N=o+z.toNat)else none
     |_=>none
   |_,_,_,_=>none
 | .fieldAddr S x f=>match ρ x,ug P S f with
   | .eH n i j L k,some (fo,_,_)=>some (.eH n i (j+fo) L k,h,True)
   |_,_=>none
 | .nilCheck x=>match ρ x with
   | .eH n i j L k=>some (.eH n i j L k,h,True)
   |_=>none
 | .load t p=>match ρ p,a with
   | .eH n i j L k,.el c=>match h[n]?,RI P t c j with
     |some (.vec _ H A),some x=>bif H==k then some (x,h,A.length=L/\A[i]?=some c)else none
     |_,_=>none
   |_,_=>none
 | .store t p x=>match ρ p,a with
   | .eH n i j L k,.st c E=>match h[n]?,ic P t with
     |some (.vec e H A),some q=>bif H==k&&q==(ρ x).cells.length&&(ρ x).kT&&cP (j+(ρ x).cells.length) k&&cP 1 k then some (.d (.v undef),h.set n (.vec e k E),A.length=L/\A[i]?=some c/\E=A.set i (jK c j (ρ x).cells))else none
     |_,_=>none
   |_,_=>none
 | .slice T x lo hi none=>match ρ x,fQ P T,a with
   | .vec n o g L k,some (_,H),.ol R F=>match xy ρ 0 lo,xy ρ g hi with
     |some l,some u=>match h[n]? with
      |some (.vec _ J A)=>bif H==k&&J==k then some (.vec n R F L k,h,A.length=L/\0<=l/\l<=u/\u<=(L:Int)-o/\R=o+l.toNat/\F=u.toNat-l.toNat)else none
      |_=>none
     |_,_=>none
   |_,_,_=>none
 | .makeSlice T l c=>match fQ P T,(ρ l).int?,(ρ c).int?,a with
   |some (e,k),some l,some c,.mk A g m=>match jB P e,te P e with
    |some z,some M=>bif cP 1 k&&z.cells.toList.length==k&&z.cells.toList.all Value.oneCell' then some (.vec h.length 0 g m k,h++[.vec e k A],0<=l/\l<=c/\l.toNat=g/\c.toNat=m/\A=List.replicate m (z.cells.toList.map λu=>.d (.v u))/\m<=maxLen/\M*m<=281474976710656)else none
    |_,_=>none
   |_,_,_,_=>none
 | .call c=>match c.callee with
   | .builtin .len=>match c.args.toList,c.argTypes.toList with
     |[x],[T]=>match ρ x with
      | .vec n _ g L k=>match h[n]? with
        |some (.vec _ J A)=>bif (fQ P T).isSome&&J==k then some (.d (.v (.int .i64 g)),h,A.length=L)else none
        |_=>none
      |_=>none
     |_,_=>none
   | .builtin .append=>match c.args.toList,c.argTypes.toList with
     |[x,y],[T,b]=>match fQ P T,fQ P b,a with
      |some (e,k),some _,.ap E B C F=>match jB P e,te P e with
       |some z,some M=>bif cP 1 k&&z.cells.toList.length==k then
        match ρ x with
        | .vec n o g L k1=>match h[n]? with
          |some (.vec e1 J A)=>bif k1==k&&J==k&&e1==e then some (.vec n o F C k,h.set n (.vec e k E),A.length=L/\BY h k (ρ y) B/\F=g+B.length/\
           ((o+g+B.length<=L/\C=L/\E=A.take (o+g)++B++A.drop (o+g+B.length))\/(o=0/\g=L/\C=L+B.length/\E=A++B/\C<=maxLen/\C*M<=140737488355328)))else none
          |_=>none
        | .d (.v (.slice none 0 0))=>some (.vec h.length 0 F C k,h++[.vec e k E],BY h k (ρ y) B/\E=B/\F=B.length/\C=B.length/\C<=maxLen/\C*M<=140737488355328)
        | .full xs=>some (.vec h.length 0 F C k,h++[.vec e k E],xs=[]/\BY h k (ρ y) B/\E=B/\F=B.length/\C=B.length/\C<=maxLen/\C*M<=140737488355328)
        |_=>none
       else none
       |_,_=>none
      |_,_,_=>none
     |_,_=>none
   |_=>none
 |_=>none
def Oz(c:Bool)(k:IntKind):Int->I AV->U (IntKind×Int)
 |a,[]=>some (k,a)
 |a,.d (.v (.int _ b))::l=>Oz c k (bif c then(if b>a then b else a)else(if b<a then b else a)) l
 |_,_=>none
def D9(b:Bool):I AV->U (IntKind×Int)
 | .d (.v (.int k a))::l=>Oz b k a l
 |_=>none
def dj(P:dg)(o:Oper)(ρ:Operand->AV)(h:I ar)(C:AV->I ar->Prop):Prop:=
 match o.op with
 | .move x| .assign x=>C (ρ x) h
 | .pick c a b=>match ρ c with
   | .d (.v (.bool t))=>(t=true->C (ρ a) h)/\(t=false->C (ρ b) h)
   |_=>False
 | .alloc e=>match jB P e with
   |some z=>C (.ptr h.length 0) (h++[ar.cells (z.cells.toList.map λu=>.d (.v u))])
   |none=>False
 | .box _ x=>gN (ρ x).kT<|C (.ptr h.length 0) (h++[ar.cells (ρ x).cells])
 | .load t a=>ql P t h (ρ a) λx=>C x h
 | .store t a x=>zg P t h (ρ a) (ρ x) λm=>C (.d (.v undef)) m
 | .nilCheck x=>match ρ x with
   | .ptr n l=>C (.ptr n l) h
   | .bM A i l=>C (.bM A i l) h
   | .fn f B=>C (.fn f B) h
   |_=>False
 | .fieldAddr S x f=>match ug P S f with
   |some (J,_,_)=>match ρ x with
    | .ptr n l=>C (.ptr n (l+J)) h
    | .bM A i l=>C (.bM A i (l+J)) h
    |_=>False
   |none=>False
 | .field T x f=>zq P T (ρ x) f λy=>C y h
 | .indexAddr T x i=>vt P T (ρ x) (ρ i) λy=>C y h
 | .index T x i=>match ρ x,(ρ i).int? with
   | .d (.v (.string b)),some z=>gN (jj P T) (0<=z/\(match b[z.toNat]? with|some c=>C (.d (.v (.int .u8 c.toNat))) h|none=>False))
   |_,_=>False
 | .build T E=>yU P T (E.toList.map λp=>(p.1,ρ p.2)) λy=>C y h
 | .buildSlice T F E=>yf P T F (E.toList.map λp=>(p.1,ρ p.2)) λy=>C y h
 | .slice T x L M N=>w5 P T ρ (ρ x) L M N λy=>C y h
 | .extract x i=>match ρ x with
   | .bq B=>match B[i]? with
     |some c=>C c h
     |none=>False
   |_=>False
 | .makeFunc (.func f) first H=>match Tm f (first.toList.map ρ) (H.toList.map ρ)with
   |some x=>C x h
   |none=>False
 | .binOp op T x y _=>yx P T op (ρ x) (ρ y) λv=>C v h
 | .unOp op _ x=>yo op (ρ x) λv=>C v h
 | .convert a b x=>xZ P a b (ρ x) λv=>C v h
 | .call c=>match c.callee with
   | .builtin .len=>match c.args.toList,c.argTypes.toList with
     |[x],[T]=>um P T (ρ x) λn=>C (.d (.v (.int .i64 n))) h
     |_,_=>False
   | .builtin .append=>match c.args.toList,c.argTypes.toList with
     |[x,y],[T,j]=>gN (fQ P j).isSome<|xt P T h (ρ x) (ρ y) λv m=>C v m
     |_,_=>False
   | .builtin .max=>match D9 true (c.args.toList.map ρ)with
     |some (k,a)=>C (.d (.v (.int k a))) h
     |none=>False
   | .builtin .min=>match D9 false (c.args.toList.map ρ)with
     |some (k,a)=>C (.d (.v (.int k a))) h
     |none=>False
   | .value f=>match ρ f with
     | .fn g H=>dt P g (c.args.toList.map ρ++H) h λr m=>C r m
     | .hid q=>∃g as,q.app (c.args.toList.map ρ)=some (g,as)/\dt P g as h λr m=>C r m
     |_=>False
   |_=>False
 |op=>match rh P op ρ h with
  |some (x,m,p)=>p.ok/\C x m
  |none=>False
def IM(P:dg)(o:Oper)(K:St->Prop)(s:St):Prop:=
 match o.op with
 | .binOp b T x y _=>match (ev s x).gX,ev s y,fQ P T,Az b true,Az b false with
   |some c,.d (.v (.slice none 0 0)),some _,some e,some f=>(c=[]->K (s.put o.dst (.d (.v e))))/\K (s.put o.dst (.d (.v f)))
   |_,_,_,_,_=>False
 |_=>False
def Lp(P:dg)(o:Oper)(K:St->Prop)(s:St):Prop:=∃a x b p,jr P o.op (ev s) s.h a=some (x,b,p)/\p/\K ((s.wh b).put o.dst x)
def tC(P:dg)(o:Oper)(K:St->Prop)(s:St):Prop:=dj P o (ev s) s.h λx h=>K ((s.wh h).put o.dst x)
def akD(P:dg)(o:Oper)(K:St->Prop)(s:St):Prop:=Lp P o K s\/IM P o K s\/tC P o K s
def mS(b o n:Nat):(⟨b,o,none⟩:Addr).add n=⟨b,o+n,none⟩:=by unfold Addr.add;split<;>simp_all
structure dx(G:Gh)(w:World)(a:Act)(s:St):Prop where
 size:a.tmps.size=s.n
 tmp:∀i,aQ G w (a.tmps.getD i undef) (bP s.t i)
 inv:cu G w s.h
 df:tI G w a.defers
def oV.av{G:Gh}{w:Zy}{u:kd}{c:fY}(h:oV G.S w u c):aQ G w u c.av:=by
 cases h with
 |d h=>exact .d h
 |bM c e b o u k l=>exact .bM [c] 0 e b o u c rfl k l
 |fn f g i j h=>exact .hid (.fn f g i j h) rfl
 |po f g i j h=>exact .hid (.po f g i j h) rfl
def aQ.lF{G:Gh}{w:Zy}{u:kd}{x:AV}(h:aQ G w u x)(e:x.lF=true):u.oneCell'=true:=by
 cases h with
 |d f=>cases f with
  |v u=>exact e
  |sl=>rfl
  |ag=>simp [AV.lF]at e
 |agg=>simp [AV.lF]at e
 |bq=>simp [AV.lF]at e
 |own n m _ f=>cases f;rfl
 |vec n o len L k _ g=>obtain⟨A,l,c,rfl⟩:=g;rfl
 |eH n i j L k _ g=>obtain⟨b,q,rfl⟩:=g;rfl
 |full m f=>cases f;rfl
 |hid h p=>exact p
 |dead=>simp [AV.lF]at e
 |_=>rfl
def aQ.cells{G:Gh}{w:Zy}{u:kd}{x:AV}(h:aQ G w u x)(d:x.kT=true):
 u.cells.size=x.cells.length/\∀(i:Nat)(v:kd)(c:AV),u.cells[i]?=some v->x.cells[i]?=some c->aQ G w v c/\v.oneCell'=true:=by
 have one:x.lF=true->x.cells=[x]->u.cells.size=x.cells.length/\∀(i:Nat)(v:kd)(c:AV),u.cells[i]?=some v->x.cells[i]?=some c->aQ G w v c/\v.oneCell'=true:=by
  intro j k;have l:=h.lF j;have m:u.cells= #[u]:=by cases u<;>simp_all [Value.cells,Value.oneCell']
  rw[m,k];refine⟨rfl,λi v c e b=> ?_⟩
  match i with
  |0=>simp at e b;subst e;subst b;exact⟨h,l⟩
  |i+1=>simp at b
 cases x with
 |agg f=>
  cases h with
  |agg t f p q=>
   refine⟨p,λi v c e b=> ?_⟩;have g:=q i v c e b;refine⟨g,g.lF ?_⟩;simp only[AV.kT,Zd]at d;exact d c (ZY b)
 |bq f=>simp [AV.kT,AV.lF]at d
 |dead=>simp [AV.kT,AV.lF]at d
 |_=>exact one d rfl
def cu.lt{G:Gh}{w:Zy}{h:I ar}(hi:cu G w h){n:Nat}{B:ar}(b:h[n]?=some B):n<G.N:=by
 rw[<-hi.len];exact(Zo.1 b).1
def cu.iO{G:Gh}{w:Zy}{h:I ar}(hi:cu G w h){n b:Nat}(d:cr h G n=some b):b<w.heap.size:=by
 obtain⟨B,u,d⟩:=n9 d;have j:=hi.dM n B u;cases B with
 |gone=>cases d
 |cells m=>
  obtain⟨_,_,q,T,f,_⟩:=j;cases d
  exact(ZT.1 f).1
 |lp y p as bd m=>
  obtain⟨_,_,t,q,T,f,_⟩:=j;cases d
  exact(ZT.1 f).1
 |it z m=>
  obtain⟨_,_,t,q,T,f,_⟩:=j;cases d
  exact(ZT.1 f).1
 |fM A m=>
  obtain⟨_,_,t,q,T,f,_⟩:=j;cases d
  exact(ZT.1 f).1
 |map v=>
  obtain⟨_,_,x,c,f,_⟩:=j;cases d
  exact(ZT.1 f).1
 |jX v=>
  obtain⟨_,_,x,c,f,_⟩:=j;cases d
  exact(ZT.1 f).1
 |front e k len=>
  have d:G.ow n=some b:=d;obtain⟨_,_,i|⟨g,cap,l,i,_,_,f,_⟩⟩:=j;{rw[i.1]at d;cases d};{rw[i]at d;cases d;exact(ZT.1 f).1}
 |jE e C=>
  have d:G.ow n=some b:=d;obtain⟨_,_,i|⟨g,cap,l,i,_,_,f,_⟩⟩:=j;{rw[i.1]at d;cases d};{rw[i]at d;cases d;exact(ZT.1 f).1}
 |vec e k m=>
  have d:G.ow n=some b:=d;obtain⟨_,_,_,i|⟨g,cap,l,i,_,_,f,_⟩⟩:=j;{rw[i.1]at d;cases d};{rw[i]at d;cases d;exact(ZT.1 f).1}
def fb.mz{G:Gh}{w:Zy}{n b:Nat}{B:ar}(f:fb G w n B)(c:B.eZ G n=some b):¬G.Z b:=by
 cases B with
 |gone=>cases c
 |cells l=>cases c;exact f.1
 |lp q p as bd l=>cases c;exact f.1
 |it t l=>cases c;exact f.1
 |fM u l=>cases c;exact f.1
 |map m=>cases c;exact f.1
 |jX m=>cases c;exact f.1
 |front e k len=>
  have c:G.ow n=some b:=c;obtain⟨_,_,d|⟨g,cap,i,d,_,j,_⟩⟩:=f;{rw[d.1]at c;cases c};{rw[d]at c;cases c;exact j}
 |jE e v=>
  have c:G.ow n=some b:=c;obtain⟨_,_,d|⟨g,cap,i,d,_,j,_⟩⟩:=f;{rw[d.1]at c;cases c};{rw[d]at c;cases c;exact j}
 |vec e k l=>
  have c:G.ow n=some b:=c;obtain⟨_,_,_,d|⟨g,cap,i,d,_,j,_⟩⟩:=f;{rw[d.1]at c;cases c};{rw[d]at c;cases c;exact j}
def vU.keep{S S':Nat->Nat->Prop}{w w':Zy}{f:Array MapEntry}{c:Nat}{kv:I (so×D)}(h:vU S w f c kv)(g:∀b o,S b o->S' b o)(i:∀b o,S b o->w'.cell? ⟨b,o,none⟩=w.cell? ⟨b,o,none⟩):vU S' w' f c kv:=
 ⟨h.size,h.stamped,λe j=>let ⟨s,d,k,l,m⟩:=h.Cd e j;⟨s,d,k,l,m.keep g i⟩,h.all,h.len,h.born,h.IC⟩
def AA.keep{S S':Nat->Nat->Prop}{w w':Zy}{d:Array MapEntry}{c:Nat}{kv:I (so×D)}(h:AA S w d c kv)(f:∀b o,S b o->S' b o)(g:∀b o,S b o->w'.cell? ⟨b,o,none⟩=w.cell? ⟨b,o,none⟩):AA S' w' d c kv:=
 ⟨h.ok.keep f g,λi e j=>let ⟨p,k,l,m⟩:=h.ord i e j;⟨p,k,l,m.keep f g⟩,h.all⟩
def fb.keep{G G':Gh}{w w':Zy}{n:Nat}(m:n<G.N)(d:cq G.N G w G' w')(R:G.N<=G'.N){B:ar}
 (hg:G'.fl n=G.fl n/\G'.sg n=G.sg n/\G'.ow n=G.ow n)
 (y:∀b,B.eZ G n=some b->w'.heap[b]?=w.heap[b]?/\∀o,¬G.S b o->¬G'.S b o)
 (h:fb G w n B):fb G' w' n B:=by
 obtain⟨f1,L,M⟩:=hg;cases B with
 |gone=>trivial
 |cells cs=>
  obtain⟨q,f,J,T,l,t,v⟩:=h;obtain⟨z,C⟩:=y _ rfl;refine⟨by rw[d.bg n m];exact d.mz (ZT.1 l).1 q,by rw[d.bg n m];exact λo=>C o (f o),J,T,by rw[d.bg n m,z];exact l,t,λi u c F H=>(v i u c F H).keep d R⟩
 |lp ls p as bd cs=>
  obtain⟨q,f,W,J,T,l,t,v⟩:=h;obtain⟨z,C⟩:=y _ rfl;refine⟨by rw[d.bg n m];exact d.mz (ZT.1 l).1 q,by rw[d.bg n m];exact λo=>C o (f o),W,J,T,by rw[d.bg n m,z];exact l,t,λi u c F H=>(v i u c F H).keep d R⟩
 |it sn cs=>
  obtain⟨q,f,W,J,T,l,t,v⟩:=h;obtain⟨z,C⟩:=y _ rfl;refine⟨by rw[d.bg n m];exact d.mz (ZT.1 l).1 q,by rw[d.bg n m];exact λo=>C o (f o),W,J,T,by rw[d.bg n m,z];exact l,t,λi u c F H=>(v i u c F H).keep d R⟩
 |fM T0 cs=>
  obtain⟨q,f,W,J,T,l,t,v⟩:=h;obtain⟨z,C⟩:=y _ rfl;refine⟨by rw[d.bg n m];exact d.mz (ZT.1 l).1 q,by rw[d.bg n m];exact λo=>C o (f o),W,J,T,by rw[d.bg n m,z];exact l,by rw[d.bg n m];exact t,λi u c F H=>(v i u c F H).keep d R⟩
 |map kv=>
  obtain⟨q,f,es,c,l,t⟩:=h;obtain⟨z,C⟩:=y _ rfl;exact⟨by rw[d.bg n m];exact d.mz (ZT.1 l).1 q,by rw[d.bg n m];exact λo=>C o (f o),es,c,by rw[d.bg n m,z];exact l,t.keep d.S d.cell⟩
 |jX kv=>
  obtain⟨q,f,es,c,l,t⟩:=h;obtain⟨z,C⟩:=y _ rfl;exact⟨by rw[d.bg n m];exact d.mz (ZT.1 l).1 q,by rw[d.bg n m];exact λo=>C o (f o),es,c,by rw[d.bg n m,z];exact l,t.keep d.S d.cell⟩
 |jE e b=>
  obtain⟨q,hm,f⟩:=h;refine⟨f1.trans q,hm,?_⟩;rcases f with⟨f,h0,A,l⟩|⟨g,cap,E,f,l,t,v,h6,h7,h8,h9,aU⟩
  ·exact .inl ⟨M.trans f,h0,A,L.trans l⟩
  ·obtain⟨f5,f6⟩:=y g f;exact .inr ⟨g,cap,E,M.trans f,L.trans l,d.mz (ZT.1 v).1 t,f5.trans v,h6,h7,h8,λo=>f6 o (h9 o),aU⟩
 |front e k len=>
  obtain⟨q,hm,f⟩:=h;refine⟨f1.trans q,hm,?_⟩;rcases f with⟨f,A,l⟩|⟨g,cap,E,f,l,t,v,h6,h7,h8,h9⟩
  ·exact .inl ⟨M.trans f,A,L.trans l⟩
  ·obtain⟨f5,f6⟩:=y g f;exact .inr ⟨g,cap,E,M.trans f,L.trans l,d.mz (ZT.1 v).1 t,f5.trans v,h6,h7,h8,λo y=>f6 o (h9 o y)⟩
 |vec e k cs=>
  obtain⟨q,hm,hk,f⟩:=h;refine⟨f1.trans q,hm,hk,?_⟩;rcases f with⟨f,e2,A,l⟩|⟨g,cap,E,f,l,t,v,h6,h7,h8,h9,aU⟩
  ·exact .inl ⟨M.trans f,e2,A,L.trans l⟩
  ·obtain⟨f5,f6⟩:=y g f;exact .inr ⟨g,cap,E,M.trans f,L.trans l,d.mz (ZT.1 v).1 t,f5.trans v,h6,h7,h8,λo=>f6 o (h9 o),λi j c x u H hx F=>(aU i j c x u H hx F).keep d R⟩
def dx.put{G:Gh}{w:Zy}{a:Act}{s:St}(h:dx G w a s){v:kd}{x:AV}(g:aQ G w v x)(b:U Nat):dx G w (a.put b v) (s.put b x):=by
 cases b with
 |none=>exact h
 |some d=>
  by_cases c:d<s.n
  ·have e:s.put (some d) x={s with t:=(d,x)::s.t}:=sY c x;rw[e];refine⟨by simp [Act.put,h.size],λi=> ?_,h.inv,h.df⟩;by_cases f:i=d
   ·subst f;have:(a.tmps.setIfInBounds i v).getD i undef=v:=by simp [Array.getD,h.size,c]
    simp only[Act.put,this,mE,if_true];exact g
   ·have:(a.tmps.setIfInBounds d v).getD i undef=a.tmps.getD i undef:=by simp [Array.getElem?_setIfInBounds_ne (Ne.symm f)]
    simp only[Act.put,this,mE,ae f];exact h.tmp i
  ·have e:s.put (some d) x=s:=JB c x;have j:a.put (some d) v=a:=by
    have:a.tmps.setIfInBounds d v=a.tmps:=Array.setIfInBounds_eq_of_size_le (by rw[h.size];omega);simp [Act.put,this]
   rw[e,j];exact h
def dx.move{G G':Gh}{w w':Zy}{a:Act}{s:St}(h:dx G w a s)(b:cq G.N G w G' w')(c:G.N<=G'.N){h':I ar}(hi:cu G' w' h'):dx G' w' a {s with h:=h'}:=
 ⟨h.size,λi=>(h.tmp i).keep b c,hi,h.df.keep b⟩
def dx.ev{G:Gh}{w:Zy}{a:Act}{s:St}(h:dx G w a s)(x:Operand):aQ G w (a.eval x) (ev s x):=by
 cases x with
 |tmp t=>exact h.tmp t
 |const v=>
  show aQ G w v (WG v);unfold WG;split
  ·rename_i p
   exact .agg p _ (by simp) λi u c b k=>by
    simp only[Zs,ZP,b,a6,UW]at k;subst k;exact .d (.v u)
  ·rename_i p
   exact .bq p _ (by simp) λi u c b k=>by
    simp only[Zs,ZP,b,a6,UW]at k;subst k;exact .d (.v u)
  ·exact .d (.v v)
 |global g=>
  show aQ G w (.pointer (some ⟨g,0,none⟩)) (match Dq AR g with|some l=>.bM [l.map .v] 0 0|none=>.dead);split
  ·next l z=>
   have y:=h.inv.gl.1 g l (Yl z);have:=aQ.bM (G:=G) (w:=w) [l.map .v] 0 0 g 0 (λj=>l.getD j undef) (l.map .v) rfl (λj q=> ?_) (λj d m=> ?_);{exact this};{rw[Zu]at q;have e:l[j]?=some l[j]:=Ze q;rw[ZQ];refine⟨(y j _ e).1,?_⟩;rw[(y j _ e).2];simp [q]}
   ·rw[Zs]at m;cases e:l[j]? with
    |none=>rw[e]at m;cases m
    |some v=>
     rw[e]at m;cases m
     have:l.getD j undef=v:=by simp [List.getD,e]
     rw[this];exact .v v
  ·exact .dead _
 |func f=>exact .fn f #[] [] rfl λi u c b=>by simp at b
def Gh.dA(G:Gh)(b:Nat):Gh:={G with N:=G.N+1,bg:=λn=>if n=G.N then b else G.bg n}
def vn(G:Gh)(w:Zy)(c:∀b,G.Z b->b<w.heap.size)(d:∀b o,G.S b o->b<w.heap.size)(o:Obj):cq G.N G w (G.dA w.heap.size) (w.alloc o):=
 ⟨by simp,λ_ _ h=>h,λb _ h=>World.cell?_alloc_lt _ _ _ (d _ _ h),λn e=>by simp [Gh.dA,Nat.ne_of_lt e],λ_ _=>.inl ⟨rfl,rfl⟩,iX rfl,
  λb f=>Below.heap_alloc w o b (c b f),rfl,rfl,rfl,λ_ _ h=>.inl h⟩
def Ye{G:Gh}{w:Zy}{h:I ar}(hi:cu G w h)(f:Array kd)(T:TypeId)(cs:I AV)(A:f.size=cs.length)
 (C:∀(i:Nat)(u:kd)(c:AV),f[i]?=some u->cs[i]?=some c->aQ G w u c):
 cu (G.dA w.heap.size) (w.alloc (.cells f T)) (h++[.cells cs])/\aQ (G.dA w.heap.size) (w.alloc (.cells f T)) (.pointer (some ⟨w.heap.size,0,none⟩)) (.ptr h.length 0):=by
 have j:=vn G w hi.z hi.S (.cells f T);have x:G.N<=(G.dA w.heap.size).N:=ba _;have k:(G.dA w.heap.size).bg h.length=w.heap.size:=by simp [Gh.dA,hi.len]
 have E:∀n(B:ar),n<G.N->B.eZ (G.dA w.heap.size) n=B.eZ G n:=λn B d=>by
  cases B<;>simp [ar.eZ,Gh.dA,Nat.ne_of_lt d]
 have F:∀n,n<G.N->cr (h++[.cells cs]) (G.dA w.heap.size) n=cr h G n:=λn d=>by
  have l:n<h.length:=by rw[hi.len];exact d
  unfold cr;rw[ZX l,Ze l];exact E n _ d
 have H:cr (h++[.cells cs]) (G.dA w.heap.size) h.length=some w.heap.size:=by
  rw[eG (B:= .cells cs) (by simp)];exact congrArg some k
 refine⟨⟨by simp [Gh.dA,hi.len],λb q=>ZU (hi.z b q) j.size,λb o t=>ZU (hi.S b o t) j.size,λn B g=> ?_,λm n b J d=> ?_,hi.gl.keep j⟩,?_⟩
 ·by_cases d:n<h.length
  ·rw[ZX d]at g;have v:n<G.N:=hi.len▸d;exact fb.keep v j x ⟨rfl,rfl,rfl⟩ (λb q=>⟨Below.heap_alloc w _ _ (hi.iO (n:=n) ((eG g).trans q)),λo h=>h⟩) (hi.dM n B g)
  ·have L:n=h.length:=by
    have:=(Zo.1 g).1;simp at this;omega
   subst L;simp at g;subst g;exact⟨by rw[k];exact λM=>Z4 _ (hi.z _ M),λo t=>by rw[k]at t;exact Z4 _ (hi.S _ _ t),f,T,by rw[k];exact World.alloc_heap_new w _,A,λi u c R W=>(C i u c R W).keep j x⟩
 ·have p:∀n b,cr (h++[.cells cs]) (G.dA w.heap.size) n=some b->(n<G.N/\cr h G n=some b)\/(n=h.length/\b=w.heap.size):=λn b d=>by
   by_cases l:n<G.N;{exact .inl ⟨l,by rw[<-F n l];exact d⟩}
   ·by_cases e:n=h.length
    ·subst e;rw[H]at d;cases d;exact .inr ⟨rfl,rfl⟩
    ·rw[wX (Z9 (by simp;have:=hi.len;omega))]at d;cases d
  rcases p m b J with⟨_,y⟩|⟨rfl,rfl⟩<;>rcases p n _ d with⟨_,v⟩|⟨rfl,q⟩
  ·exact hi.inj m n b y v
  ·have:=hi.iO y;omega
  ·have:=hi.iO v;omega
  ·rfl
 ·have:=aQ.ptr (G:=G.dA w.heap.size) (w:=w.alloc (.cells f T)) h.length 0 (by simp [Gh.dA,hi.len])
  rwa [k]at this
def Qf(w:Zy)(g:Nat)(cs:Array kd):(w.setRow g cs).heap.size=w.heap.size:=by simp [World.setRow]
def aki(w:Zy)(g:Nat)(cs:Array kd)(b o:Nat)(h:b≠g):(w.setRow g cs).cell? ⟨b,o,none⟩=w.cell? ⟨b,o,none⟩:=World.cell?_of_block (setRow_other w g b cs h)
def aoJ{G:Gh}{w:Zy}{g:Nat}(cs:Array kd)(c:¬G.Z g)(d:∀b o,G.S b o->(w.setRow g cs).cell? ⟨b,o,none⟩=w.cell? ⟨b,o,none⟩):cq G.N G w G (w.setRow g cs):=
 ⟨by rw[Qf];exact Zv _,λ_ _ h=>h,d,λ_ _=>rfl,λ_ _=>.inl ⟨rfl,rfl⟩,iX rfl,λb f=>setRow_other w g b cs (λe=>c (e▸f)),rfl,rfl,rfl,λ_ _ h=>.inl h⟩
def Hw(cs ys:I AV)(off:Nat)(h:off+ys.length<=cs.length):(jK cs off ys).length=cs.length:=by
 simp [jK];omega
def anr{R:kd->AV->Prop}(e us:Array kd)(cs ys:I AV)(off:Nat)(k:e.size=cs.length)(l:us.size=ys.length)(q:off+ys.length<=cs.length)
 (g:∀(i:Nat)(u:kd)(c:AV),e[i]?=some u->cs[i]?=some c->R u c) (m:∀(i:Nat)(u:kd)(c:AV),us[i]?=some u->ys[i]?=some c->R u c):
 ∀(i:Nat)(u:kd)(c:AV),(e.toList.take off++us.toList++e.toList.drop (off+us.toList.length)).toArray[i]?=some u->(jK cs off ys)[i]?=some c->R u c:=by
 intro i u c b d;have f:us.toList.length=ys.length:=by rw[ZB,l]
 rw[f,List.getElem?_toArray]at b;unfold jK at d;simp only[ZR]at b d;have p:e.toList.length=cs.length:=by rw[ZB,k]
 by_cases h:i<off;{rw[ZX (by simp;omega),List.getElem?_take_of_lt h]at b;rw[ZX (by simp;omega),List.getElem?_take_of_lt h]at d;exact g i u c (by rw[<-ZP];exact b) d}
 ·rw[ZI (by simp;omega)]at b d;simp only[ao,p]at b d;rw[Nat.min_eq_left (by omega)]at b d;by_cases j:i-off<ys.length
  ·rw[ZX (by rw[f];exact j)]at b;rw[ZX j]at d;exact m (i-off) u c (by rw[<-ZP];exact b) d
  ·rw[ZI (by rw[f];omega),List.getElem?_drop]at b;rw[ZI (by omega),List.getElem?_drop]at d;rw[f]at b;rw[show off+ys.length+(i-off-ys.length)=i by omega]at b d;exact g i u c (by rw[<-ZP];exact b) d
def anc{P:dg}{G:Gh}{w:Zy}{h:I ar}(hi:cu G w h){n off:Nat}{cs:I AV}(q:h[n]?=some (.cells cs)){t:TypeId}{v:kd}{x:AV}
 (hv:aQ G w v x) (d:x.kT=true) (l:ic P t=some x.cells.length) (A:off+x.cells.length<=cs.length):
 ∃w',(storeVar t ⟨G.bg n,off,none⟩ v).run P w= .ok () w'/\cq G.N G w G w'/\cu G w' (h.set n (.cells (jK cs off x.cells))):=by
 obtain⟨M,W,p,T,hh,C,hr⟩:=hi.dM n _ q;obtain⟨f,Kv⟩:=hv.cells d;obtain⟨i,lv,l4⟩:∃i,P.info? t=some i/\i.size=x.cells.length:=by
  unfold ic at l;cases hq:P.info? t with
  |none=>rw[hq]at l;cases l
  |some i=>rw[hq]at l;exact⟨i,rfl,by simpa using l⟩
 have E:=run_storeCells_at P (G.bg n) off T v.cells.toList 0 p w hh (by rw[ZB,f,C];simpa using A) (λu F=>by
  obtain⟨j,hj⟩:=List.mem_iff_getElem?.1 F;have iB:v.cells[j]?=some u:=by rw[<-ZP];exact hj
  have B3:j<x.cells.length:=by rw[<-f];exact(ZT.1 iB).1
  exact(Kv j u _ iB (Ze B3)).2)
 simp only[Nat.add_zero]at E;obtain⟨w',y⟩:∃w',w'=w.setRow (G.bg n) (p.toList.take off++v.cells.toList++p.toList.drop (off+v.cells.toList.length)).toArray:=⟨_,rfl⟩;rw[<-y]at E;have g:cq G.N G w G w':=by
  rw[y];exact aoJ _ M λb o H=>aki w _ _ b o (λe=>W o (e▸H))
 have fy:∀m,m≠n->(h.set n (.cells (jK cs off x.cells)))[m]?=h[m]?:=λm hm=>by rw[ZD (Ne.symm hm)]
 have nC:(h.set n (.cells (jK cs off x.cells)))[n]?=some (.cells (jK cs off x.cells)):=by
  rw[ZC (Zo.1 q).1]
 have fu:∀m,cr (h.set n (.cells (jK cs off x.cells))) G m=cr h G m:=λm=>by
  by_cases e:m=n;{subst e;rw[eG nC,eG q];rfl};{unfold cr;rw[fy m e]}
 have mK:cr h G n=some (G.bg n):=eG q;refine⟨w',?_,g,⟨by rw[ZJ];exact hi.len,λb d=>ZU (hi.z b d) g.size,λb o H=>ZU (hi.S b o H) g.size,λm B k=> ?_,λm m' b J L=>hi.inj m m' b (by rw[<-fu];exact J) (by rw[<-fu];exact L),hi.gl.keep g⟩⟩;{unfold storeVar;simp only[sizeOf,typeInfo,Sem.run_bind,f];simp [lv,l4,E]}
 ·by_cases e:m=n
  ·subst e;rw[nC]at k;cases k
   refine⟨M,W,_,T,by rw[y];exact setRow_heap w _ p _ T _ hh,?_,λi u c F hc=> ?_⟩
   ·rw[Hw _ _ _ A];have:v.cells.toList.length=x.cells.length:=by rw[ZB];exact f
    simp only[List.size_toArray,Zk,ao,b9,ZB,C,f];omega
   ·exact(anr (R:=aQ G w) p v.cells cs x.cells off C f A hr (λi u c J L=>(Kv i u c J L).1) i u c F hc).keep g (Zv _)
  ·rw[fy m e]at k;have cX:∀b,cr h G m=some b->b≠G.bg n:=λb d eb=>e (hi.inj m n b d (by rw[eb];exact mK));refine fb.keep (hi.lt k) g (Zv _) ⟨rfl,rfl,rfl⟩ (λb d=>⟨?_,λo h=>h⟩) (hi.dM m B k);rw[y];exact setRow_other w _ _ _ (cX _ ((eG k).trans d))
def ee.sM{S:Nat->Nat->Prop}{w:Zy}{v:kd}{xs:I (I D)}(h:ee S w v (.sl xs)):
 ∃(A:U Addr)(b o c k:Nat)(u:Nat->Nat->kd),v= .slice A xs.length c/\(xs≠ []->A=some ⟨b,o,none⟩)/\xs.length<=c/\c<=maxLen/\(∀x∈xs,x.length=k)/\
  (∀i j,i<xs.length->j<k->S b (o+i*k+j)/\w.cell? ⟨b,o+i*k+j,none⟩=some (u i j)/\(u i j).oneCell'=true)/\
  (∀(i j:Nat)(x:I D)(d:D),xs[i]?=some x->x[j]?=some d->ee S w (u i j) d):=by
 cases h with
 |sl A b o c k xs u e f g l m p=>exact⟨A,b,o,c,k,u,rfl,e,f,g,l,m,p⟩
structure Rd(S:Nat->Nat->Prop)(w:World)(k:Nat)(xs:List (List D))(us:List Value):Prop where
 len:us.length=xs.length*k
 wid:∀x∈xs,x.length=k
 one:∀u∈us,u.oneCell'=true
 rel:∀(i j:Nat)(x:List D)(d:D),xs[i]?=some x->x[j]?=some d->∃u,us[i*k+j]?=some u/\ee S w u d
def Rd.keep{S S':Nat->Nat->Prop}{w w':Zy}{k:Nat}{xs:I (I D)}{us:I kd}(h:Rd S w k xs us)(c:∀b o,S b o->S' b o)(e:∀b o,S b o->w'.cell? ⟨b,o,none⟩=w.cell? ⟨b,o,none⟩):Rd S' w' k xs us:=
 ⟨h.len,h.wid,h.one,λi j x d f g=>let ⟨u,l,m⟩:=h.rel i j x d f g;⟨u,l,m.keep c e⟩⟩
def Rd.append{S:Nat->Nat->Prop}{w:Zy}{k:Nat}{xs ys:I (I D)}{us l:I kd}(h:Rd S w k xs us)(h':Rd S w k ys l):Rd S w k (xs++ys) (us++l):=by
 refine⟨by rw[Zk,Zk,h.len,h'.len,YF],λx b=> ?_,λu c=> ?_,λi j x d b m=> ?_⟩
 ·rcases ZN.1 b with b|b
  ·exact h.wid x b
  ·exact h'.wid x b
 ·rcases ZN.1 c with c|c
  ·exact h.one u c
  ·exact h'.one u c
 ·by_cases p:i<xs.length
  ·rw[ZX p]at b;obtain⟨u,f,g⟩:=h.rel i j x d b m;exact⟨u,by rw[ZX (Zo.1 f).1];exact f,g⟩
  ·rw[ZI (by omega)]at b;obtain⟨u,f,g⟩:=h'.rel (i-xs.length) j x d b m;refine⟨u,?_,g⟩;have e:i*k+j=xs.length*k+((i-xs.length)*k+j):=by rw[Nat.sub_mul];have:=XL k (Nat.le_of_not_lt p);omega
   rw[e,ZI (by rw[h.len];omega),h.len,Nat.add_sub_cancel_left];exact f
def Rd.FH{S:Nat->Nat->Prop}{w:Zy}{k:Nat}{xs:I (I D)}{us:I kd}(h:Rd S w k xs us)(b c:Nat)(g:xs.length<=c)(l:c<=maxLen)
 (m:∀o,o<xs.length*k->S b o) (p:∀(o:Nat)(u:kd),us[o]?=some u->w.cell? ⟨b,o,none⟩=some u):ee S w (.slice (some ⟨b,0,none⟩) xs.length c) (.sl xs):=by
 refine .sl _ b 0 c k xs (λi j=>us.getD (i*k+j) undef) (λ_=>rfl) g l h.wid (λi j q A=> ?_) (λi j x d t v=> ?_)
 ·have e:i*k+j<xs.length*k:=by
   have:(i+1)*k<=xs.length*k:=XL k q;rw[YF]at this;omega
  have f:us[i*k+j]?=some (us[i*k+j]'(by rw[h.len];exact e)):=Ze (by rw[h.len];exact e);rw[ZQ];refine⟨m _ e,?_,?_⟩;{rw[p _ _ f];simp [f]};{simp only[List.getD_eq_getElem?_getD,f,Option.getD_some];exact h.one _ (List.getElem_mem _)}
 ·obtain⟨u,y,z⟩:=h.rel i j x d t v;simp only[List.getD_eq_getElem?_getD,y,Option.getD_some];exact z
def ee.rd{S:Nat->Nat->Prop}{w:Zy}{v:kd}{xs:I (I D)}{k:Nat}(h:ee S w v (.sl xs))(m:0<k)(p:∀x∈xs,x.length=k):
 ∃us,Rd S w k xs us/\∃A c,v= .slice A xs.length c/\xs.length<=c/\c<=maxLen/\(xs≠ []->∃b o,A=some ⟨b,o,none⟩/\∀(j:Nat)(u:kd),us[j]?=some u->S b (o+j)/\w.cell? ⟨b,o+j,none⟩=some u):=by
 obtain⟨A,b,o,c,k',u,rfl,E,q,y,F,z,H⟩:=h.sM;by_cases f:xs=[];{subst f;exact⟨[],⟨by simp,(λ_ h=>by cases h),(λ_ h=>by cases h),λi j x d f=>by simp at f⟩,A,c,rfl,q,y,λh=>absurd rfl h⟩}
 ·have J:k'=k:=by
   obtain⟨x,B⟩:=List.exists_mem_of_ne_nil xs f;rw[<-F x B,p x B]
  subst J;refine⟨(List.range (xs.length*k')).map λt=>u (t / k') (t%k'),⟨by simp,p,λv g=> ?_,λi j x d f C=> ?_⟩,A,c,rfl,q,y,λL=>⟨b,o,E L,λj v g=> ?_⟩⟩;{obtain⟨t,M,rfl⟩:=UU.1 g;have N:=List.mem_range.1 M;exact(z (t / k') (t%k') (Nat.div_lt_of_lt_mul (by rw[Nat.mul_comm];exact N)) (Nat.mod_lt _ m)).2.2}
  ·have l:j<k':=by rw[<-p x (ZY f)];exact(Zo.1 C).1
   have R:i<xs.length:=(Zo.1 f).1;refine⟨u i j,?_,H i j x d f C⟩;have T:i*k'+j<xs.length*k':=by
    have:(i+1)*k'<=xs.length*k':=XL k' R;rw[YF]at this;omega
   rw[Zs,List.getElem?_range T];simp only[a6,UW];rw[show(i*k'+j)/ k'=i by rw[Nat.add_comm,Nat.add_mul_div_right _ _ m,Nat.div_eq_of_lt l,ZQ],show(i*k'+j)%k'=j by rw[Nat.add_comm,Nat.add_mul_mod_self_right,Nat.mod_eq_of_lt l]]
  ·rw[Zs]at g;by_cases l:j<xs.length*k'
   ·rw[List.getElem?_range l]at g;simp only[a6,UW]at g;subst g;have:=z (j / k') (j%k') (Nat.div_lt_of_lt_mul (by rw[Nat.mul_comm];exact l)) (Nat.mod_lt _ m);have e:o+j / k'*k'+j%k'=o+j:=by have:=Nat.div_add_mod j k';rw[Nat.mul_comm]at this;omega
    rw[e]at this;exact⟨this.1,this.2.1⟩
   ·rw[Z9 (by simp;omega)]at g;cases g
def ee.src{P:dg}{S:Nat->Nat->Prop}{w:Zy}{v:kd}{xs:I (I D)}{k:Nat}(h:ee S w v (.sl xs))(i:0<k)(l:∀x∈xs,x.length=k){tx e':TypeId}(f:P.underlying tx=some (.slice e')):
 ∃us,Rd S w k xs us/\Src P k tx v xs.length us w:=by
 obtain⟨us,e,A,c,rfl,_,_,m⟩:=h.rd i l;refine⟨us,e,?_⟩;by_cases g:xs=[]
 ·subst g;have p:us=[]:=V1 (by rw[e.len];simp);subst p;cases A with
  |none=>exact Src.ofNil w f c
  |some a=>exact Src.ofSlice w f a 0 c [] (by simp) (λj u d=>by simp at d) (λu d=>by cases d)
 ·obtain⟨b,o,rfl,q⟩:=m g;exact Src.ofSlice w f _ _ c us e.len (λj u d=>by rw[mS];exact(q j u d).2) e.one
def Gh.jl(G:Gh)(v:kd)(len:Nat):Gh:={G with N:=G.N+1,sg:=λn=>if n=G.N then v else G.sg n,fl:=λn=>if n=G.N then len else G.fl n,ow:=λn=>if n=G.N then none else G.ow n}
def Tw{G:Gh}{w:Zy}{h:I ar}(hi:cu G w h){v:kd}{xs:I (I D)}(t:ee G.S w v (.sl xs))(y:∃A,v= .slice A xs.length xs.length)(e:TypeId)(k:Nat):
 cq G.N G w (G.jl v xs.length) w/\G.N<=(G.jl v xs.length).N/\cu (G.jl v xs.length) w (h++[.front e k xs.length])/\aQ (G.jl v xs.length) w v (.own h.length xs):=by
 have i:∀n,n<G.N->n≠G.N:=λn d=>Nat.ne_of_lt d;have p:cq G.N G w (G.jl v xs.length) w:=⟨Zv _,λ_ _ h=>h,λ_ _ _=>rfl,λ_ _=>rfl,λn d=>.inl ⟨by simp [Gh.jl,i n d],by simp [Gh.jl,i n d]⟩,iX rfl,λ_ _=>rfl,rfl,rfl,rfl,λ_ _ h=>.inl h⟩;have x:G.N<=(G.jl v xs.length).N:=ba _;have q:xs.length<=maxLen:=by
  obtain⟨A,b,o,c,R,u,_,_,C,E,_⟩:=t.sM;exact Zc C E
 have F:∀n(B:ar),n<G.N->B.eZ (G.jl v xs.length) n=B.eZ G n:=λn B d=>by
  cases B<;>simp [ar.eZ,Gh.jl,Nat.ne_of_lt d]
 have f:∀n b,cr (h++[.front e k xs.length]) (G.jl v xs.length) n=some b->cr h G n=some b:=λn b g=>by
  by_cases d:n<h.length;{unfold cr at g ⊢;rw[ZX d,Ze d]at g;rw[Ze d,<-g];exact(F n _ (hi.len▸d)).symm}
  ·by_cases H:n=h.length
   ·subst H;rw[eG (B:= .front e k xs.length) (by simp)]at g;simp [ar.eZ,Gh.jl,hi.len]at g
   ·rw[wX (Z9 (by simp;omega))]at g;cases g
 refine⟨p,x,⟨by simp [Gh.jl,hi.len],hi.z,hi.S,λn B j=> ?_,λm n b J d=>hi.inj m n b (f m b J) (f n b d),hi.gl.keep p⟩,?_⟩
 ·by_cases d:n<h.length
  ·rw[ZX d]at j;have l:n<G.N:=hi.len▸d;exact fb.keep l p x ⟨by simp [Gh.jl,i n l],by simp [Gh.jl,i n l],by simp [Gh.jl,i n l]⟩ (λb g=>⟨rfl,λo h=>h⟩) (hi.dM n B j)
  ·have L:n=h.length:=by
    have:=(Zo.1 j).1;simp at this;omega
   subst L;simp at j;subst j;obtain⟨A,M⟩:=y;exact⟨by simp [Gh.jl,hi.len],q,.inl ⟨by simp [Gh.jl,hi.len],A,by simp [Gh.jl,hi.len,M]⟩⟩
 ·exact .own h.length xs (by simp [Gh.jl,hi.len]) t (by simp [Gh.jl,hi.len]) (λ_=>by simp [Gh.jl,hi.len])
def Uy{P:dg}{e k b:Nat}(c:ic P e=some k)(d:te P e=some b):∃i,P.info? e=some i/\i.size=k/\i.bytes=b:=by
 unfold ic at c;unfold te at d;cases f:P.info? e with
 |none=>rw[f]at c;cases c
 |some i=>rw[f]at c d;exact⟨i,rfl,by simpa using c,by simpa using d⟩
def Gh.grow(G:Gh)(n:Nat)(S:Nat->Nat->Prop)(v:kd)(len:Nat)(ow:U Nat):Gh:={G with S:=S,sg:=λm=>if m=n then v else G.sg m,fl:=λm=>if m=n then len else G.fl m,ow:=λm=>if m=n then ow else G.ow m}
def XU{G:Gh}{w w':Zy}{h:I ar}(hi:cu G w h){n e k len c:Nat}(H:h[n]?=some (.front e k len))(S:Nat->Nat->Prop)(v:kd)(g:Nat)
 (x:cq G.N G w (G.grow n S v c (some g)) w') (y:g=w.heap.size\/G.ow n=some g) (C:g<w'.heap.size)
 (J:∀b o,S b o->G.S b o\/b=g) (T:∀b,b<w.heap.size->b≠g->w'.heap[b]?=w.heap[b]?)
 (W:fb (G.grow n S v c (some g)) w' n (.front e k c)):cu (G.grow n S v c (some g)) w' (h.set n (.front e k c)):=by
 have L:∀m,m≠n->(h.set n (.front e k c))[m]?=h[m]?:=λm d=>by rw[ZD (Ne.symm d)]
 have E:(h.set n (.front e k c))[n]?=some (.front e k c):=by rw[ZC (Zo.1 H).1]
 have mv:∀m(B:ar),m≠n->B.eZ (G.grow n S v c (some g)) m=B.eZ G m:=λm B d=>by
  cases B<;>simp [ar.eZ,Gh.grow,d]
 have A:∀m,m≠n->cr (h.set n (.front e k c)) (G.grow n S v c (some g)) m=cr h G m:=λm d=>by
  unfold cr;rw[L m d];cases h[m]? with
  |none=>rfl
  |some B=>exact mv m B d
 have F:∀m,m≠n->cr h G m≠some g:=λm d j=>by
  rcases y with y|y
  ·have:=hi.iO j;omega
  ·exact d (hi.inj m n g j ((eG H).trans y))
 refine⟨by rw[ZJ];exact hi.len,λb j=>ZU (hi.z b j) x.size,λb o f=> ?_,λm B d=> ?_,λm i b l p=> ?_,hi.gl.keep x⟩
 ·rcases J b o f with f|f
  ·exact ZU (hi.S b o f) x.size
  ·rw[f];exact C
 ·by_cases q:m=n
  ·subst q;rw[E]at d;cases d;exact W
  ·rw[L m q]at d;refine fb.keep (hi.lt d) x (Zv _) ⟨by simp [Gh.grow,q],by simp [Gh.grow,q],by simp [Gh.grow,q]⟩ (λb j=> ?_) (hi.dM m B d);have M:cr h G m=some b:=(eG d).trans j;have R:b≠g:=λe'=>F m q (by rw[M,e']);refine⟨T _ (hi.iO M) R,λo kE f=> ?_⟩;rcases J _ o f with f|f
   ·exact kE f
   ·exact R f
 ·by_cases t:m=n<;>by_cases u:i=n
  ·rw[t,u]
  ·subst t;rw[A i u]at p;have:cr (h.set m (.front e k c)) (G.grow m S v c (some g)) m=some g:=by rw[eG E];simp [ar.eZ,Gh.grow]
   rw[this]at l;cases l;exact absurd p (F i u)
  ·subst u;rw[A m t]at l;have:cr (h.set i (.front e k c)) (G.grow i S v c (some g)) i=some g:=by rw[eG E];simp [ar.eZ,Gh.grow]
   rw[this]at p;cases p;exact absurd l (F m t)
  ·rw[A m t]at l;rw[A i u]at p;exact hi.inj m i b l p
set_option maxHeartbeats 1000000 in
def Xo{P:dg}{G:Gh}{w:Zy}{h:I ar}(hi:cu G w h){T tx ty e k dy:Nat}{i:TypeInfo}{z:kd}(hT:P.underlying T=some (.slice e))(mr:P.info? e=some i)(hz:i.zero=some z)(oP:i.size=k)(yD:i.bytes=dy)(lP:z.cells.size=k)
 (gD:0<k) {n:Nat} {xs ys:I (I D)} (M:h[n]?=some (.front e k xs.length)) {u v:kd} (R:aQ G w u (.own n xs)) (pv:∀x∈xs,x.length=k)
 {us:I kd} (hr:Rd G.S w k ys us) (d:Src P k tx v ys.length us w) (yR:xs.length+ys.length<=maxLen) (rm:(xs.length+ys.length)*dy<=140737488355328):
 ∃r w' G',(Builtin.append_ #[T,tx] ty #[u,v]).run P w= .ok r w'/\cq G.N G w G' w'/\G.N<=G'.N/\cu G' w' (h.set n (.front e k (xs.length+ys.length)))/\aQ G' w' r (.own n (xs++ys)):=by
 subst oP;subst yD;have pN:=hi.lt M;obtain⟨nw,hml,hbr⟩:=hi.dM n _ M;obtain⟨hp,huf⟩:ee G.S w u (.sl xs)/\u=G.sg n:=by
  cases R with
  |own _ _ _ hp t hf=>exact⟨hp,hf nw.symm⟩
 obtain⟨f,BH,A,c,W,mG,Ad,hA⟩:=hp.rd gD pv;have Rl:h.set n (.front e i.size (xs.length+0))=h:=by
  rw[Nat.add_zero];refine List.ext_getElem? λm=> ?_;by_cases C:m=n
  ·subst C;rw[ZC (Zo.1 M).1,M]
  ·rw[ZD (Ne.symm C)]
 by_cases hy:ys.length=0;{have kX:ys=[]:=V1 hy;subst kX;have nI:us=[]:=V1 (by rw[hr.len];simp);subst nI;have:=run_append_nothing (P:=P) w T tx ty e i hT mr A xs.length c mG v d;refine⟨u,w,G,by rw[W];exact this,cq.refl _ _ _,Zv _,?_,by rw[ZV];exact R⟩;simp only[Zf];rw[Rl];exact hi}
 ·have hy0:0<ys.length:=Nat.pos_of_ne_zero hy;have VC:xs.length+ys.length<=9223372036854775807:=by simp only[maxLen]at yR;omega
  have TF:Rd G.S w i.size (xs++ys) (f++us):=BH.append hr;have F:c<xs.length+ys.length->∃r w' G',(Builtin.append_ #[T,tx] ty #[u,v]).run P w= .ok r w'/\cq G.N G w G' w'/\G.N<=G'.N/\cu G' w' (h.set n (.front e i.size (xs.length+ys.length)))/\aQ G' w' r (.own n (xs++ys)):=by
   intro hg;have hold:(Builtin.firstCells i.size xs.length (.slice A xs.length c)).run P w.drew= .ok f.toArray w.drew:=by
    by_cases hx:xs=[]
    ·subst hx;have:f=[]:=V1 (by rw[BH.len];simp);subst this;cases A with
     |none=>exact run_firstCells_none _ _ _ _ _
     |some a=>exact run_firstCells_some _ _ _ _ _ _ [] (by simp) (λj u R=>by simp at R)
    ·obtain⟨b,o,rfl,hc⟩:=hA hx;exact run_firstCells_some _ _ _ _ _ _ f BH.len (λj u R=>by rw[mS];exact(hc j u R).2)
   have H:=run_append_grow_src (P:=P) w T tx ty e i z hT mr hz A xs.length c f hold v ys.length us d hg (by omega) (growslice_fits hg rm);obtain⟨cap,lh⟩:∃cap,cap=grownCap w (xs.length+ys.length) c e:=⟨_,rfl⟩;have lq:xs.length+ys.length<=cap:=by rw[lh];exact grownCap_ge _ _ _ _
   have t:cap<=maxLen:=by rw[lh];exact grownCap_le_maxLen _ _ _ _ yR
   rw[<-lh]at H;obtain⟨cur,lC⟩:∃cur,cur=(f++us).toArray++Builtin.zeroCells z.cells (cap-(xs.length+ys.length)):=⟨_,rfl⟩;rw[<-lC]at H;obtain⟨w',E⟩:∃w',w'=w.drew.alloc (.cells cur e):=⟨_,rfl⟩;rw[<-E]at H;have iH:cur.size=cap*i.size:=by
     have:=size_zeroCells z.cells (cap-(xs.length+ys.length));rw[lC,Array.size_append,this,List.size_toArray,TF.len,lP,Zk,<-YF]
     congr 1
     omega
   have gd:w'.heap[w.heap.size]?=some (.cells cur e (0,0)):=by rw[E];exact World.alloc_heap_new w.drew _
   have QY:∀b,b<w.heap.size->w'.heap[b]?=w.heap[b]?:=λb y=>by rw[E];exact Below.heap_alloc w.drew _ b y
   have iV:w'.heap.size=w.heap.size+1:=by rw[E];simp
   obtain⟨S,q⟩:∃S:Nat->Nat->Prop,S=λb o=>G.S b o\/(b=w.heap.size/\o<(xs.length+ys.length)*i.size):=⟨_,rfl⟩;have jc:∀b o,G.S b o->w'.cell? ⟨b,o,none⟩=w.cell? ⟨b,o,none⟩:=λb o d=>World.cell?_of_block (QY b (hi.S b o d));have hE:cq G.N G w (G.grow n S (.slice (some ⟨w.heap.size,0,none⟩) (xs.length+ys.length) cap) (xs.length+ys.length) (some w.heap.size)) w':=
    ⟨by rw[iV];exact ba _,λb o h=>by show S b o;rw[q];exact .inl h,jc,λ_ _=>rfl,
     λm _=>by
      by_cases C:m=n;{right;subst C;simp only[Gh.grow,if_true,nw];omega}
      ·left;exact⟨by simp [Gh.grow,C],by simp [Gh.grow,C]⟩,
     iX rfl,λb y=>QY b (hi.z b y),by rw[E];rfl,by rw[E];rfl,by rw[E];rfl,λb o d=>by
      have p:S b o:=d;rw[q]at p;rcases p with h|⟨rfl,_⟩
      ·exact .inl h
      ·exact .inr λhz=>Z4 _ (hi.z _ hz)⟩
   have hP:ee S w' (.slice (some ⟨w.heap.size,0,none⟩) (xs++ys).length cap) (.sl (xs++ys)):=by
    refine(TF.keep (S':=S) (w':=w') (λb o h=>by rw[q];exact .inl h) jc).FH w.heap.size cap (by rw[Zk];exact lq) t (λo l=>by rw[q];exact .inr ⟨rfl,by rw[Zk]at l;exact l⟩) (λo x l=> ?_);rw[cell_of_row w' w.heap.size o cur e (0,0) gd,lC,Array.getElem?_append_left (by simp only[List.size_toArray];exact(Zo.1 l).1),List.getElem?_toArray];exact l
   rw[Zk]at hP;refine⟨_,w',_,by rw[W];exact H,hE,Zv _,XU hi M S _ w.heap.size hE (.inl rfl) (by rw[iV];exact Z0 _) (λb o d=> ?_) (λb y _=>QY b y) ?_,?_⟩;{rw[q]at d;exact d.imp id And.left}
   ·refine⟨by simp [Gh.grow],yR,.inr ⟨w.heap.size,cap,cur,by simp [Gh.grow],by simp [Gh.grow],λhz=>Z4 _ (hi.z _ hz),gd,lq,t,iH,λo l d=> ?_⟩⟩;have p:S w.heap.size o:=d;rw[q]at p;rcases p with p|⟨_,p⟩
    ·have:=hi.S _ _ p;omega
    ·omega
   ·exact .own n (xs++ys) pN hP (by simp [Gh.grow]) (λ_=>by simp [Gh.grow])
  rcases hbr with⟨iU,A',lu⟩|⟨g,cap,cur,iU,lu,O5,tE,Rz,VV,hb7,ZW⟩
  ·refine F ?_;rw[huf,lu]at W;cases W
   omega
  ·have aaK:=W;rw[huf,lu]at aaK;injection aaK with eA0 _ e1;have e2:=e1.symm;subst e2;subst eA0;by_cases tu:xs.length+ys.length<=c
   ·
    have nX:xs.length*i.size+us.length<=cur.size:=by rw[hr.len,hb7,<-YF];exact XL _ tu
    have HW:∀o,w.cell? ⟨g,o,none⟩=cur[o]?:=λo=>cell_of_row w g o cur e (0,0) tE;have hsome:∀j,j<us.length->(w.cell? ⟨g,0+xs.length*i.size+j,none⟩).isSome=true:=λj hj=>by
     rw[HW,ZQ,ZM (by omega)];rfl
    have H:=run_append_room_src (P:=P) w T tx ty e i hT mr g 0 xs.length c v ys.length us d tu hsome
     (λj hj=>by unfold World.frozen?;rw[tE];simp)
    rw[ZQ]at H hsome;obtain⟨w',E⟩:∃w',w'=w.setCells g (xs.length*i.size) us:=⟨_,rfl⟩;rw[<-E]at H;have akZ:g<w.heap.size:=(ZT.1 tE).1;have nj:=run_storeCells_at P g (xs.length*i.size) e us 0 cur w tE (by simpa using nX) d.one;have AG:=run_storeCells_cells (P:=P) g (xs.length*i.size) us 0 w (by simpa using hsome) (λj hj=>by unfold World.frozen?;rw[tE];simp) d.one;simp only[Nat.add_zero]at nj AG;rw[nj]at AG;have J:w'=w.setRow g (cur.toList.take (xs.length*i.size)++us++cur.toList.drop (xs.length*i.size+us.length)).toArray:=by
      rw[E];injection AG with _ e2;exact e2.symm
    obtain⟨B,Tz⟩:∃B:Array kd,B=(cur.toList.take (xs.length*i.size)++us++cur.toList.drop (xs.length*i.size+us.length)).toArray:=⟨_,rfl⟩;rw[<-Tz]at J;have pY:w'.heap[g]?=some (.cells B e (0,0)):=by rw[J];exact setRow_heap w g cur B e _ tE
    have jV:∀b,b≠g->w'.heap[b]?=w.heap[b]?:=λb y=>by rw[J];exact setRow_other w g b B y
    have iV:w'.heap.size=w.heap.size:=by rw[J];exact Qf w g B
    have gV:∀o,B[o]?=if o<xs.length*i.size then cur[o]? else if o<xs.length*i.size+us.length then us[o-xs.length*i.size]? else cur[o]?:=λo=>by
     rw[Tz,List.getElem?_toArray,ZR];have hl:cur.toList.length=cur.size:=ZB;by_cases L:o<xs.length*i.size;{rw[ab L,ZX (by simp;omega),List.getElem?_take_of_lt L,ZP]}
     ·rw[ae L,ZI (by simp;omega)];simp only[ao,hl];rw[Nat.min_eq_left (by omega)];by_cases h2:o<xs.length*i.size+us.length
      ·rw[ab h2,ZX (by omega)]
      ·rw[ae h2,ZI (by omega),List.getElem?_drop,show xs.length*i.size+us.length+(o-xs.length*i.size-us.length)=o by omega,ZP]
    have aoH:B.size=cur.size:=by
     rw[Tz];simp only[List.size_toArray,Zk,ao,b9,ZB];omega
    have jc:∀b o,G.S b o->w'.cell? ⟨b,o,none⟩=w.cell? ⟨b,o,none⟩:=λb o d=>by
     by_cases eb:b=g;{subst eb;have l:o<xs.length*i.size:=Nat.lt_of_not_le λt=>ZW o t d;rw[HW,cell_of_row w' b o B e (0,0) pY,gV,ab l]};{exact World.cell?_of_block (jV b eb)}
    obtain⟨S,q⟩:∃S:Nat->Nat->Prop,S=λb o=>G.S b o\/(b=g/\o<(xs.length+ys.length)*i.size):=⟨_,rfl⟩;have hE:cq G.N G w (G.grow n S (.slice (some ⟨g,0,none⟩) (xs.length+ys.length) c) (xs.length+ys.length) (some g)) w':=
     ⟨by rw[iV];exact Zv _,λb o h=>by show S b o;rw[q];exact .inl h,jc,λ_ _=>rfl,
      λm _=>by
       by_cases C:m=n;{right;subst C;simp only[Gh.grow,if_true,nw];omega}
       ·left;exact⟨by simp [Gh.grow,C],by simp [Gh.grow,C]⟩,
      iX rfl,λb y=>jV b (λe=>O5 (e▸y)),by rw[J];rfl,by rw[J];rfl,by rw[J];rfl,λb o d=>by
       have p:S b o:=d;rw[q]at p;rcases p with h|⟨rfl,_⟩
       ·exact .inl h
       ·exact .inr O5⟩
    have hP:ee S w' (.slice (some ⟨g,0,none⟩) (xs++ys).length c) (.sl (xs++ys)):=by
     refine(TF.keep (S':=S) (w':=w') (λb o h=>by rw[q];exact .inl h) jc).FH g c (by rw[Zk];exact tu) VV (λo l=>by rw[q];exact .inr ⟨rfl,by rw[Zk]at l;exact l⟩) (λo x l=> ?_);rw[cell_of_row w' g o B e (0,0) pY,gV];have lD:f.length=xs.length*i.size:=BH.len;by_cases L:o<xs.length*i.size
     ·rw[ab L];rw[ZX (by omega)]at l;have hx:xs≠ []:=λe=>by subst e;simp at L
      obtain⟨b,o',eA,hc⟩:=hA hx;cases eA
      have:=(hc o x l).2;rw[ZQ,HW]at this;exact this
     ·rw[ae L];rw[ZI (by omega),lD]at l;have:=(Zo.1 l).1;rw[ab (by omega)];exact l
    rw[Zk]at hP;refine⟨_,w',_,by rw[W];exact H,hE,Zv _,XU hi M S _ g hE (.inr iU) (by rw[iV];exact akZ) (λb o d=> ?_) (λb _ y=>jV b y) ?_,?_⟩;{rw[q]at d;exact d.imp id And.left}
    ·refine⟨by simp [Gh.grow],yR,.inr ⟨g,c,B,by simp [Gh.grow],by simp [Gh.grow],O5,pY,tu,VV,by rw[aoH,hb7],λo l d=> ?_⟩⟩;have p:S g o:=d;rw[q]at p;rcases p with p|⟨_,p⟩
     ·exact ZW o (Zc (XL _ (Yu _ _)) l) p
     ·omega
    ·exact .own n (xs++ys) pN hP (by simp [Gh.grow]) (λ_=>by simp [Gh.grow])
   ·exact F (by omega)
def WF(r:U Nat):Fence:={Fence.wide with round:=r}
def jw(N0:Nat)(G:Gh)(w:Zy)(K:St->Prop)(a':Act)(w':Zy):Prop:=∃G' b,cq N0 G w G' w'/\N0<=G'.N/\dx G' w' a' b/\K b
section
variable {P:dg} {r:U Nat} {n N0:Nat} {G:Gh} {w:Zy} {a:Act} {s:St} {o:Oper} {K:St->Prop} {Q:Exit->Act->Zy->Prop}
def nr(f:∀c,o.op≠ .defer c)(g:dx G w a s)(b:N0<=G.N){v:kd}{x:AV}{w':Zy}{G':Gh}{h':I ar}(i:(execOp a.eval o).run P w= .ok (.value v) w')
 (d:cq G.N G w G' w') (e:G.N<=G'.N) (hi:cu G' w' h') (j:aQ G' w' v x) (k:K ((s.wh h').put o.dst x)):o.wpIn (WF r) n P a w (jw N0 G w K) Q:=by
 refine⟨λ_ _=>trivial,?_⟩;rw[Oper.semAt_eq _ _ _ f,i];exact⟨G',_,d.less b,Zc b e,(g.move d e hi).put j o.dst,k⟩
def gx(d:∀c,o.op≠ .defer c)(b:dx G w a s)(e:N0<=G.N){v:kd}{x:AV}(f:(execOp a.eval o).run P w= .ok (.value v) w)(g:aQ G w v x)(i:K (s.put o.dst x)):
 o.wpIn (WF r) n P a w (jw N0 G w K) Q:=
 nr d b e f (cq.refl _ _ _) (Zv _) b.inv g i
def TP(g:∀c,o.op≠ .defer c)(i:dx G w a s)(b:N0<=G.N){w':Zy}{G':Gh}{h':I ar}(j:(execOp a.eval o).run P w= .ok .skip w')
 (e:cq G.N G w G' w') (f:G.N<=G'.N) (hi:cu G' w' h') (k:K ((s.wh h').put o.dst (.d (.v undef)))):o.wpIn (WF r) n P a w (jw N0 G w K) Q:=by
 refine⟨λ_ _=>trivial,?_⟩;rw[Oper.semAt_eq _ _ _ g,j];exact⟨G',_,e.less b,Zc b f,(i.move e f hi).put (.d (.v undef)) o.dst,k⟩
def Yc{t k:Nat}(h:ic P t=some k):∃i,P.info? t=some i/\i.size=k:=by
 unfold ic at h;cases b:P.info? t with
 |none=>rw[b]at h;cases h
 |some i=>rw[b]at h;exact⟨i,rfl,by simpa using h⟩
def Mp{t:Nat}{z:kd}(h:jB P t=some z):∃i,P.info? t=some i/\i.zero=some z:=by
 unfold jB at h;cases b:P.info? t with
 |none=>rw[b]at h;cases h
 |some i=>rw[b]at h;exact⟨i,rfl,by simpa using h⟩
def Ew{t:Nat}{z:kd}(h:jB P t=some z)(w:Zy):(zeroValue t).run P w= .ok z w:=by
 obtain⟨i,b,c⟩:=Mp h;simp [zeroValue,typeInfo,b,c]
def nQ{t k:Nat}(h:ic P t=some k)(w:Zy):(sizeOf t).run P w= .ok k w:=by
 obtain⟨i,b,c⟩:=Yc h;simp [sizeOf,typeInfo,b,c]
def Hd{t:Nat}{g:Bool}(h:nE P t=some g)(w:Zy):(isAgg t).run P w= .ok g w:=by
 unfold nE at h;cases b:P.underlying t with
 |none=>rw[b]at h;cases h
 |some d=>
  rw[b]at h;unfold isAgg;rw[Sem.run_bind,run_underlying b w];simp only[a6,UW]at h;subst h;cases d<;>rfl
def asP{t:Nat}(h:nE P t=some true):∃d,P.underlying t=some d/\d.isRow=true:=by
 unfold nE at h;cases b:P.underlying t with
 |none=>rw[b]at h;cases h
 |some d=>rw[b]at h;refine⟨d,rfl,?_⟩;cases d<;>simp_all [TypeDesc.isRow]
def XD{t:Nat}{C:AV->Prop}:∀(b o:Nat)(cs:I AV)(off:Nat)(us:Nat->kd),(∀j,j<cs.length->w.cell? ⟨b,o+j,none⟩=some (us j))->(∀(j:Nat)(c:AV),cs[j]?=some c->aQ G w (us j) c)->
 (match nE P t,ic P t with
  |some true,some k=>gN (cP (off+k) cs.length) (C (.agg ((cs.drop off).take k)))
  |some false,some _=>match cs[off]? with
   |some c=>C c
   |none=>False
  |_,_=>False)->∃u x,(loadVar t ⟨b,o+off,none⟩).run P w= .ok u w/\aQ G w u x/\C x:=by
 intro b o cs off us p q g;split at g
 ·rename_i k m v
  obtain⟨l,y⟩:=cv.1 g;rw[dS]at l;obtain⟨d,z,A⟩:=asP m;have B:((List.range k).map λj=>us (off+j)).length=k:=by simp
  have E:=run_loadVar_mid (P:=P) w b (o+off) t ((List.range k).map λj=>us (off+j)) d (λj u e=>by
   rw[Zs]at e;by_cases F:j<k
   ·rw[List.getElem?_range F]at e;simp only[a6,UW]at e;subst e;have:=p (off+j) (by omega)
    rwa [<-Nat.add_assoc]at this
   ·rw[Z9 (by simp;omega)]at e;cases e) z A (by rw[B];exact v)
  refine⟨_,_,E,.agg _ _ (by simp;omega) λi u c e f=> ?_,y⟩;rw[List.getElem?_toArray,Zs]at e;rw[List.getElem?_take]at f;split at f
  ·rename_i H
   rw[List.getElem?_range H]at e;simp only[a6,UW]at e;subst e;rw[List.getElem?_drop]at f;exact q (off+i) c f
  ·cases f
 ·rename_i k m v
  split at g
  ·rename_i c f
   refine⟨us off,c,?_,q off c f,g⟩;unfold loadVar;rw[Sem.run_bind,Hd m w];simp only[Result.andThen_ok,Bool.false_eq_true,if_false];unfold load;simp only[Sem.run,p off (Zo.1 f).1]
  ·exact g.elim
 ·exact g.elim
def Ya{t:Nat}{p:AV}{v:kd}{C:AV->Prop}(hi:cu G w s.h)(F:aQ G w v p)(h:ql P t s.h p C):∃u x,(Instr.loadAt t v).run P w= .ok u w/\aQ G w u x/\C x:=by
 have g:=XD (P:=P) (G:=G) (w:=w) (t:=t) (C:=C);unfold ql ur at h;cases p with
 |ptr m f=>
  simp only at h;split at h
  ·rename_i k L
   obtain⟨_,_,vs,T,M,H,N⟩:=hi.dM m _ L;cases F with
   |ptr _ _ AH=>
    obtain⟨u,x,l,q,z⟩:=g (G.bg m) 0 k f (λj=>vs.getD j undef) (λj A=>by
     have B:j<vs.size:=by rw[H];exact A
     rw[ZQ,cell_of_row w (G.bg m) j vs T (0,0) M];simp [Array.getD,B]) (λj c e=>by
     have B:j<vs.size:=by rw[H];exact(Zo.1 e).1
     exact N j _ c (by simp [Array.getD,B]) e) h
    rw[ZQ]at l;exact⟨u,x,by simp [Instr.loadAt,Instr.sureAddr,l],q,z⟩
  ·exact h.elim
 |bM xs i f=>
  simp only at h;split at h
  ·rename_i k J
   cases F with
   |bM _ _ _ b o R x S W hu=>
    rw[S]at J;cases J
    obtain⟨u,y,l,q,z⟩:=g b o (k.map .d) f R (λj A=>(W j (by simpa using A)).2) (λj c e=>by
     rw[Zs]at e;cases E:k[j]? with
     |none=>rw[E]at e;cases e
     |some d=>rw[E]at e;cases e;exact .d (hu j d E)) h
    exact⟨u,y,by simp [Instr.loadAt,Instr.sureAddr,l],q,z⟩
  ·exact h.elim
 |_=>exact h.elim
def aQ.list{u:kd}{x:AV}{xs:I (I D)}(h:aQ G w u x)(b:x.gX=some xs):ee G.S w u (.sl xs):=by
 unfold AV.gX at b;split at b;{cases b;cases h with|d h=>exact h};{cases b;cases h with|own _ _ _ h=>exact h};{cases b;cases h with|full _ h=>exact h}
 ·cases b
  cases h with
  |d h=>
   cases h with
   |v=>exact .sl none 0 0 0 0 [] (λ_ _=>undef) (λh=>absurd rfl h) (Zv _) (by simp) (λ_ h=>by cases h) (λi j c=>by simp at c) (λi j x d b=>by simp at b)
 ·cases b
def aQ.int{u:kd}{x:AV}{z:Int}(h:aQ G w u x)(b:x.int?=some z):∃k,u= .int k z:=by
 unfold AV.int? at b;split at b
 ·rename_i k m
  cases b
  cases h with
  |d h=>cases h with|v=>exact⟨k,rfl⟩
 ·cases b
def aQ.bool{u:kd}{t:Bool}(h:aQ G w u (.d (.v (.bool t)))):u= .bool t:=by
 cases h with|d h=>cases h with|v=>rfl
def aQ.val{u v:kd}(h:aQ G w u (.d (.v v))):u=v:=by
 cases h with|d h=>cases h with|v=>rfl
def ld{T e k:Nat}(h:fQ P T=some (e,k)):P.underlying T=some (.slice e)/\ic P e=some k:=by
 unfold fQ at h;split at h
 ·rename_i c d
  cases b:ic P c with
  |none=>rw[b]at h;cases h
  |some f=>rw[b]at h;simp at h;obtain⟨rfl,rfl⟩:=h;exact⟨d,b⟩
 ·cases h
def Wh{T m e k:Nat}(h:vW P T=some (m,e,k)):P.underlying T=some (.array m e)/\ic P e=some k:=by
 unfold vW at h;split at h
 ·rename_i f c d
  cases b:ic P c with
  |none=>rw[b]at h;cases h
  |some g=>rw[b]at h;simp at h;obtain⟨rfl,rfl,rfl⟩:=h;exact⟨d,b⟩
 ·cases h
def ah8{T:Nat}{x i:AV}{u v:kd}{C:AV->Prop}(M:aQ G w u x)(N:aQ G w v i)(h:vt P T x i C):∃p y,(Instr.indexAt T u v).run P w= .ok p w/\aQ G w p y/\C y:=by
 unfold vt at h;split at h
 ·rename_i e k E
  obtain⟨t,B⟩:=ld E;split at h
  ·rename_i m f len cap R
   split at h
   ·rename_i z q
    obtain⟨vO,g,l,F⟩:=cv.1 h;rw[Ua]at vO;subst vO;obtain⟨W,rfl⟩:=N.int q;cases M with
    |row _ _ _ _ _ hm hl qT=>
     have hN:(z.toNat:Int)=z:=Int.toNat_of_nonneg g;refine⟨_,_,?_,.ptr m (f+z.toNat*R) hm,F⟩;simp [Instr.indexAt,asIntOf,run_underlying t,g,l,nQ B,mS]
   ·exact h.elim
  ·split at h
   ·rename_i xs z mQ q
    obtain⟨g,h⟩:=h;obtain⟨W,rfl⟩:=N.int q;split at h
    ·rename_i c H
     obtain⟨hk,F⟩:=h;obtain⟨A,b,o,cc,R,us,rfl,hA,mG,Ad,iA,hS,nI⟩:=(M.list mQ).sM;have l:z.toNat<xs.length:=(Zo.1 H).1;have cX:xs≠ []:=λe=>by subst e;simp at l
     have ek:R=k:=by rw[<-iA c (ZY H),hk]
     subst ek;rw[hA cX];have Ub:z<(xs.length:Int):=by omega
     refine⟨_,.bM [c] 0 0,?_,.bM [c] 0 0 b (o+z.toNat*R) (us z.toNat) c rfl (λj J=> ?_) (λj d S=>nI _ _ _ _ H S),F⟩;{simp [Instr.indexAt,asIntOf,run_underlying t,g,Ub,nQ B,mS]};{have:=hS z.toNat j l (by rw[hk]at J;exact J);exact⟨this.1,this.2.1⟩}
    ·exact h.elim
   ·exact h.elim
 ·split at h
  ·rename_i m e k b f z E q
   obtain⟨g,l,F⟩:=h;obtain⟨t,B⟩:=Wh E;obtain⟨W,rfl⟩:=N.int q;cases M with
   |ptr _ _ hb=>
    refine⟨_,_,?_,.ptr b (f+z.toNat*k) hb,F⟩;simp [Instr.indexAt,Instr.sureAddr,asIntOf,run_underlying t,g,l,nQ B,mS]
  ·rename_i m e k xs i' f z E q
   obtain⟨kV,g,l,L⟩:=cv.1 h;rw[Ua]at kV;subst kV;obtain⟨t,B⟩:=Wh E;obtain⟨W,rfl⟩:=N.int q;split at L
   ·rename_i c H
    split at L
    ·rename_i d S
     cases M with
     |bM _ _ _ b o us c' gV hS nI=>
      rw[H]at gV;cases gV
      have apI:=(Zo.1 S).1;refine⟨_,.bM [[d]] 0 0,?_,.bM [[d]] 0 0 b (o+(f+z.toNat)) (λ_=>us (f+z.toNat)) [d] rfl (λj J=> ?_) (λj d' jA=> ?_),L⟩;{simp [Instr.indexAt,Instr.sureAddr,asIntOf,run_underlying t,g,l,nQ B,mS,Nat.add_assoc]};{simp at J;subst J;exact hS _ apI}
      ·match j with
       |0=>simp at jA;subst jA;exact nI _ _ S
       |j+1=>simp at jA
    ·exact L.elim
   ·exact L.elim
  ·exact h.elim
def uS{T:Nat}(h:jj P T=true):P.underlying T=some .string:=by
 unfold jj at h;split at h;{assumption};{cases h}
def alB{T:Nat}{x:AV}{u:kd}{ty:Nat}{C:Nat->Prop}(g:aQ G w u x)(h:um P T x C):∃m:Nat,(Builtin.len_ #[T] ty #[u]).run P w= .ok (.int .i64 m) w/\C m:=by
 have d:∀(A:U Addr)(l c:Nat),(fQ P T).isSome=true->(Builtin.len_ #[T] ty #[.slice A l c]).run P w= .ok (.int .i64 l) w:=by
  intro A l c f;obtain⟨⟨e,k⟩,f⟩:=b8.1 f;simp [Builtin.len_,run_underlying (ld f).1,goInt]
 unfold um at h;split at h
 ·rename_i b
  have:=g.val;subst this;obtain⟨f,i⟩:=cv.1 h;exact⟨b.size,by simp [Builtin.len_,run_underlying (uS f),goInt],i⟩
 ·cases g with
  |row=>exact⟨_,d _ _ _ (cv.1 h).1,(cv.1 h).2⟩
 ·split at h
  ·rename_i p j
   obtain⟨A,b,o,c,k,q,rfl,_⟩:=(g.list j).sM;exact⟨_,d _ _ _ (cv.1 h).1,(cv.1 h).2⟩
  ·exact h.elim
def Ea(a:Act)(x:U Operand)(d m:Nat):Prop:=match x with|none=>m=d|some y=>∃k z,a.eval y= .int k z/\0<=z/\m=z.toNat
def wB{x:U Operand}{d:Nat}{C:Nat->Prop}(b:dx G w a s)(h:ly (ev s) x d C):∃m,C m/\Ea a x d m:=by
 cases x with
 |none=>exact⟨_,h,rfl⟩
 |some y=>
  unfold ly at h;simp only at h;split at h
  ·rename_i z c
   obtain⟨k,e⟩:=(b.ev y).int c;exact⟨_,h.2,k,z,e,h.1,rfl⟩
  ·exact h.elim
def CT{k:IntKind}{z:Int}{y:Nat}{b:BoundsCode}(c:0<=z)(h:z.toNat<=y)(w:Zy):(Instr.sliceBound (.int k z) y b).run P w= .ok z.toNat w:=by
 have:z<=(y:Int):=by omega
 simp [Instr.sliceBound,asIntOf,c,this]
def JG{lo hi:U Operand}{len cap l h:Nat}{Cr:Bool}(d:Ea a lo 0 l)(b:Ea a hi len h)(g:l<=h)(i:h<=cap)(w:Zy):
 (Instr.sliceBounds Cr len cap (lo.map a.eval) (hi.map a.eval) none).run P w= .ok (l,h,cap) w:=by
 unfold Ea at d b;cases lo with
 |none=>
  subst d;cases hi with
  |none=>subst b;simp [Instr.sliceBounds]
  |some y=>
   obtain⟨k,z,e,f,rfl⟩:=b;simp [Instr.sliceBounds,e,CT f i]
 |some x=>
  obtain⟨m,p,j,c,rfl⟩:=d;cases hi with
  |none=>subst b;simp [Instr.sliceBounds,j,CT c g]
  |some y=>
   obtain⟨k,z,e,f,rfl⟩:=b;simp [Instr.sliceBounds,e,j,CT f i,CT c g]
def ee.part{S:Nat->Nat->Prop}{v:kd}{xs:I (I D)}{k:Nat}(u:ee S w v (.sl xs))(q:∀c∈xs,c.length=k){l h:Nat}(T:l<=h)(W:h<=xs.length):
 ∃A c,v= .slice A xs.length c/\xs.length<=c/\ee S w (.slice (if c=l then A else A.map (·.add (l*k))) (h-l) (c-l)) (.sl ((xs.take h).drop l)):=by
 obtain⟨A,b,o,c,p,y,rfl,z,B,Ad,C,E,F⟩:=u.sM;refine⟨A,c,rfl,B,?_⟩;have f:((xs.take h).drop l).length=h-l:=by simp;omega
 rw[<-f];by_cases g:xs=[]
 ·subst g;have e:((([]:I (I D)).take h).drop l)=[]:=by simp
  rw[e];exact .sl _ 0 0 (c-l) 0 [] (λ_ _=>undef) (λh=>absurd rfl h) (Wv _) (by omega) (λ_ h=>by cases h) (λi j m=>by simp at m) (λi j x d g=>by simp at g)
 ·have H:p=k:=by
   obtain⟨x,t⟩:=List.exists_mem_of_ne_nil xs g;rw[<-C x t,q x t]
  subst H;have J:∀i,i<h-l->((xs.take h).drop l)[i]?=xs[l+i]?:=λi m=>by
   rw[List.getElem?_drop,List.getElem?_take_of_lt (by omega)]
  refine .sl _ b (o+l*p) (c-l) p _ (λi j=>y (l+i) j) (λL=> ?_) (by rw[f];omega) (by omega) (λx g=>q x (List.mem_of_mem_take (a7 g))) (λi j m M=> ?_) (λi j x d g N=> ?_);{have R:0<((xs.take h).drop l).length:=List.length_pos_iff.2 L;rw[f]at R;rw[ae (by omega),z g];simp [mS]};{rw[f]at m;have:=E (l+i) j (by omega) M;rw[YF,<-Nat.add_assoc]at this;exact this};{have m:=(Zo.1 g).1;rw[f]at m;rw[J i m]at g;exact F _ _ _ _ g N}
def anA{T:Nat}{x:AV}{u:kd}{lo hi mx:U Operand}{C:AV->Prop}(i:dx G w a s)(H:aQ G w u x)(h:w5 P T (ev s) x lo hi mx C):
 ∃p y,(Instr.sliceAt T u (lo.map a.eval) (hi.map a.eval) (mx.map a.eval)).run P w= .ok p w/\aQ G w p y/\C y:=by
 unfold w5 at h;split at h
 ·split at h
  ·rename_i b
   obtain⟨f,h⟩:=cv.1 h;have f:=uS f;have:=H.val;subst this;obtain⟨m,h,j⟩:=wB i h;obtain⟨q,h⟩:=h;obtain⟨l,h,t⟩:=wB i h;obtain⟨g,h⟩:=h;refine⟨_,_,?_,.d (.v _),h⟩;have z:=JG (P:=P) (Cr:=false) t j g q w;simp [Instr.sliceAt,Instr.slice,run_underlying f,z]
  ·rename_i m N
   split at h
   ·rename_i c e k f
    rw[cv,dS]at h;obtain⟨Ad,h⟩:=h;have Ad:c<=maxLen:=by unfold maxLen;omega
    obtain⟨B,E⟩:=Wh f;obtain⟨hh,h,j⟩:=wB i h;obtain⟨q,h⟩:=cv.1 h;rw[dS]at q;obtain⟨l,h,t⟩:=wB i h;obtain⟨g,h⟩:=cv.1 h;simp only[Zr,dS,UA,<-Uq,Nat.not_le]at g;obtain⟨g,J⟩:=g;have z:=JG (P:=P) (Cr:=false) t j g q w;cases H with
    |ptr _ _ AH=>
     refine⟨_,_,?_,.row m (N+l*k) (hh-l) (c-l) k AH (by omega) (by omega),h⟩;simp [Instr.sliceAt,Instr.sureAddr,run_underlying B,z,nQ E,mS,Nat.ne_of_gt J]
   ·exact h.elim
  ·split at h
   ·rename_i F e k R f
    obtain⟨W,h⟩:=h;obtain⟨B,E⟩:=ld f;obtain⟨hh,h,j⟩:=wB i h;obtain⟨q,h⟩:=h;obtain⟨l,h,t⟩:=wB i h;obtain⟨g,h⟩:=h;obtain⟨A,c,rfl,J,L⟩:=(H.list R).part W g q;have z:=JG (P:=P) (Cr:=true) t j g (Zc q J) w;refine⟨_,_,?_,.d L,h⟩;simp [Instr.sliceAt,Instr.slice,run_underlying B,z,nQ E]
   ·exact h.elim
 ·rename_i y
  split at h
  case h_2=>exact h.elim
  rename_i yh
  split at h
  ·rename_i F e k R f
   obtain⟨W,h⟩:=h;obtain⟨B,E⟩:=ld f;obtain⟨c',M,hc⟩:=wB i h;obtain⟨ig,M⟩:=M;obtain⟨hh,h4,j⟩:=wB i M;obtain⟨rfl,h5⟩:=h4;clear h M;obtain⟨k1,z1,e1,p1,q1⟩:=hc;obtain⟨k2,z2,e2,p2,q2⟩:=j;obtain⟨A,c,rfl,J,L⟩:=(H.list R).part W (Wv hh) ig;have hp':ee G.S w (.slice A hh hh) (.sl (F.take hh)):=by
    have h1:(if c=0 then A else A.map (·.add (0*k)))=A:=by
     split;{rfl};{cases A<;>simp [Addr.add]}
    rw[h1,Yz]at L;obtain⟨A',b,o,c2,k',us,e,r1,r2,r3,r4,r5,r6⟩:=L.sM;have t:(F.take hh).length=hh:=by simp;omega
    injection e with eA e3 e4;subst eA;have:=ee.sl (S:=G.S) (w:=w) A b o hh k' (F.take hh) us r1 (by omega) (by omega) r4 r5 r6
    rwa [t]at this
   refine⟨.slice A hh hh,.full (F.take hh),?_,.full _ hp' ⟨A,by simp;omega⟩,h5⟩;have b1:(Instr.sliceBound (.int k1 z1) c .slice3Acap).run P w= .ok hh w:=by rw[CT p1 (by omega),q1]
   have b2:(Instr.sliceBound (.int k2 z2) hh .slice3B).run P w= .ok hh w:=by rw[CT p2 (by omega),<-q2]
   simp only[a6,Option.map_none,e1,e2];have hA:A.map (·.add 0)=A:=by cases A<;>simp [Addr.add]
   simp [Instr.sliceAt,Instr.slice,Instr.sliceBounds,run_underlying B,b1,b2,nQ E,hA]
  ·exact h.elim
def PG:∀{cs:I AV}{b:I D},om cs=some b->b.length=cs.length/\∀(i:Nat)(c:AV)(d:D),cs[i]?=some c->b[i]?=some d->c.yT=some d
 |[],b,h=>by simp [om]at h;subst h;simp
 |c::cs,b,h=>by
  unfold om at h;split at h
  ·rename_i d l g j
   cases h
   obtain⟨k,m⟩:=PG j;refine⟨by simp [k],λi p q e f=> ?_⟩
   match i with
   |0=>simp at e f;subst e;subst f;exact g
   |i+1=>exact m i p q (by simpa using e) (by simpa using f)
  ·cases h
def ee.vZ{S:Nat->Nat->Prop}{w:Zy}{u:kd}{x:D}(h:ee S w u x):ee S w u x.vZ:=by
 unfold D.vZ;split
 ·cases h with
  |v=>exact .sl none 0 0 0 0 [] (λ_ _=>undef) (λh=>absurd rfl h) (Zv _) (Wv _) (λ_ h=>absurd h Yx) (λi j b=>absurd b (ZG _)) (λi j x d c=>by simp at c)
 ·exact h
def aQ.J5{u:kd}{x:AV}{d:D}(h:aQ G w u x)(b:x.yT=some d):ee G.S w u d:=by
 unfold AV.yT at b;split at b;{cases b;cases h with|d h=>exact h.vZ};{cases b;cases h with|own _ _ _ h=>exact h};{cases b;cases h with|full _ h=>exact h};{cases b}
def uO(k:Nat):∀(m:Nat)(l:I D),(pK k m l).length=m
 |0,_=>rfl
 |m+1,l=>by simp [pK,uO k m]
def UM(k:Nat):∀(m:Nat)(l:I D)(i:Nat),i<m->(pK k m l)[i]?=some ((l.drop (i*k)).take k)
 |0,_,_,h=>by omega
 |m+1,l,0,_=>by simp [pK]
 |m+1,l,i+1,h=>by
  have:=UM k m (l.drop k) i (by omega);rw[pK,Z2,this,List.drop_drop,YF,Nat.one_mul,Nat.add_comm k]
def YW{k m:Nat}{us:I kd}{c:I D}(v:c.length=m*k)(p:us.length=m*k)(h1:∀u∈us,u.oneCell'=true)
 (q:∀(i:Nat)(u:kd)(d:D),us[i]?=some u->c[i]?=some d->ee G.S w u d):Rd G.S w k (pK k m c) us:=by
 have t:∀i,i<m->(i+1)*k<=m*k:=λi e=>XL k e;refine⟨by rw[uO,p],λx f=> ?_,h1,λi j x d f b=> ?_⟩
 ·obtain⟨i,e⟩:=List.mem_iff_getElem?.1 f;have g:i<m:=by have:=(Zo.1 e).1;rwa [uO]at this
  rw[UM k m c i g]at e;cases e
  have:=t i g;rw[YF]at this;simp;omega
 ·have g:i<m:=by have:=(Zo.1 f).1;rwa [uO]at this
  rw[UM k m c i g]at f;cases f
  rw[List.getElem?_take]at b;split at b
  ·rw[List.getElem?_drop]at b;have:=(Zo.1 b).1;have l:i*k+j<us.length:=by omega
   exact⟨us[i*k+j],Ze l,q _ _ _ (Ze l) b⟩
  ·cases b
def ap0{k b e':Nat}{y:AV}{v:kd}{C:I (I D)->Prop}(hi:cu G w s.h)(J:aQ G w v y)(hk:0<k)(L:P.underlying b=some (.slice e'))(h:wG s.h k y C):
 ∃ys us,Rd G.S w k ys us/\Src P k b v ys.length us w/\C ys:=by
 unfold wG at h;split at h
 ·rename_i m g e B k'
  split at h
  ·rename_i t hm
   split at h
   ·rename_i ds qf
    obtain⟨M,hC⟩:=cv.1 h;simp only[Zr,Ua,dS]at M;obtain⟨⟨rfl,N⟩,jg⟩:=M;obtain⟨E,F⟩:=PG qf;obtain⟨_,_,x,T,hh,hl,hr⟩:=hi.dM m _ hm;cases J with
    |row _ _ _ _ _ AH mG qT=>
     have tg:ds.length=e*k':=by rw[E];simp;omega
     have z:((x.toList.drop g).take (e*k')).length=e*k':=by simp;omega
     have R:∀(i:Nat)(u:kd)(c:AV),((x.toList.drop g).take (e*k'))[i]?=some u->((t.drop g).take (e*k'))[i]?=some c->aQ G w u c:=λi u c f A=>by
      rw[List.getElem?_take]at f A;split at f
      ·rename_i oP
       rw[ab oP]at A;rw[List.getElem?_drop]at f A;exact hr _ u c (by rw[<-ZP];exact f) A
      ·cases f
     have W:((t.drop g).take (e*k')).length=e*k':=by simp;omega
     have p:∀u∈(x.toList.drop g).take (e*k'),u.oneCell'=true:=λu f=>by
      obtain⟨i,hi⟩:=List.mem_iff_getElem?.1 f;have H:i<e*k':=by rw[<-z];exact(Zo.1 hi).1
      have q:=Ze (l:=(t.drop g).take (e*k')) (i:=i) (by rw[W];exact H);exact(R i u _ hi q).lF (Zd.1 jg _ (ZY q))
     have Ab:=YW (G:=G) (w:=w) (k:=k') (m:=e) tg z p (λi u d f hd=>by
      have H:i<e*k':=by rw[<-z];exact(Zo.1 f).1
      have q:=Ze (l:=(t.drop g).take (e*k')) (i:=i) (by rw[W];exact H);exact(R i u _ f q).J5 (F i _ d q hd))
     refine⟨_,_,Ab,?_,hC⟩;rw[uO];refine Src.ofSlice w L _ e B _ z (λj u f=> ?_) p;rw[List.getElem?_take]at f;split at f;{rw[List.getElem?_drop,ZP]at f;rw[mS,cell_of_row w _ _ x T (0,0) hh];exact f};{cases f}
   ·exact h.elim
  ·exact h.elim
 ·split at h
  ·rename_i ys kX
   obtain⟨us,E,F⟩:=(J.list kX).src (P:=P) hk h.1 L;exact⟨ys,us,E,F,h.2⟩
  ·exact h.elim
def HA:ee G.S w (.slice none 0 0) (.sl []):=
 .sl none 0 0 0 0 [] (λ_ _=>undef) (λh=>absurd rfl h) (Zv _) (by simp) (λ_ h=>by cases h) (λi j b=>by simp at b) (λi j x d c=>by simp at c)
def ap8(h:I ar)(x y:ar):(h++[x]).set h.length y=h++[y]:=by simp
def aq7{T b ty e':Nat}{x y:AV}{u v:kd}{C:AV->I ar->Prop}(hi:cu G w s.h)(F:aQ G w u x)(hv:aQ G w v y)(hU:P.underlying b=some (.slice e'))(h:xt P T s.h x y C):
 ∃p w' G' q h',(Builtin.append_ #[T,b] ty #[u,v]).run P w= .ok p w'/\cq G.N G w G' w'/\G.N<=G'.N/\cu G' w' h'/\aQ G' w' p q/\C q h':=by
 unfold xt at h;split at h
 ·rename_i e k hT
  obtain⟨gO,hJ⟩:=ld hT;split at h
  ·rename_i z dy hz rm
   obtain⟨j,h⟩:=cv.1 h;simp only[Zr,Ua,dS,ZB]at j;obtain⟨H,lP⟩:=j;obtain⟨i,J,l4,Nw⟩:=Uy hJ rm;have l:i.zero=some z:=by
    obtain⟨i',h1,d⟩:=Mp hz;rw[J]at h1;cases h1;exact d
   obtain⟨ys,us,hr,hs,d⟩:=ap0 hi hv H hU h;clear h;have fresh:∀(xs:I (I D)),ee G.S w u (.sl xs)->(∃A,u= .slice A xs.length xs.length)->(∀c∈xs,c.length=k)->xs.length+ys.length<=maxLen->(xs.length+ys.length)*dy<=140737488355328->
    C (.own s.h.length (xs++ys)) (s.h++[.front e k (xs.length+ys.length)])->
    ∃p w' G' q h',(Builtin.append_ #[T,b] ty #[u,v]).run P w= .ok p w'/\cq G.N G w G' w'/\G.N<=G'.N/\cu G' w' h'/\aQ G' w' p q/\C q h':=by
    intro xs L M t R f g;obtain⟨W,a2,a3,a4⟩:=Tw hi L M e k;obtain⟨p,w',G',r1,r2,r3,E,r5⟩:=Xo (P:=P) (ty:=ty) a3 gO J l l4 Nw lP H (n:=s.h.length) (xs:=xs) (ys:=ys) (by simp) a4 t (hr.keep W.S W.cell) hs R f;rw[ap8]at E;exact⟨p,w',G',_,_,r1,W.trans (r2.less a2),Zc a2 r3,E,r5,g⟩
   split at d
   ·rename_i m xs
    split at d
    ·rename_i e2 k2 len R
     obtain⟨j,rfl,t,B,f,g⟩:=cv.1 d;simp only[Zr,Ua]at j;obtain⟨rfl,rfl⟩:=j;obtain⟨p,w',G',r1,r2,r3,E,r5⟩:=Xo (P:=P) (ty:=ty) hi gO J l l4 Nw lP H R F t hr hs B f;exact⟨p,w',G',_,_,r1,r2,r3,E,r5,g⟩
    ·exact d.elim
   ·have:=F.val;subst this;obtain⟨B,f,g⟩:=d;exact fresh [] HA ⟨none,rfl⟩ (λ_ h=>by cases h) (by simpa using B) (by simpa using f) (by simpa using g)
   ·rename_i xs
    obtain⟨t,B,f,g⟩:=d;cases F with
    |full _ L M=>exact fresh xs L M t B f g
   ·exact d.elim
  ·exact h.elim
 ·exact h.elim
end
def YV(off:Nat):∀(l:I kd)(k:Nat)(cs:Array kd),((l.zipIdx k).foldl (λcs(p:kd×Nat)=>cs.setIfInBounds (off+p.2) p.1) cs).size=cs.size/\
 ∀i,off+k+l.length<=cs.size->((l.zipIdx k).foldl (λcs(p:kd×Nat)=>cs.setIfInBounds (off+p.2) p.1) cs)[i]?=if off+k<=i/\i<off+k+l.length then l[i-(off+k)]? else cs[i]?
 |[],k,cs=>⟨rfl,λi _=>by
    have h:¬(off+k<=i/\i<off+k+([]:I kd).length):=by simp
    rw[ae h];rfl⟩
 |u::l,k,cs=>by
  obtain⟨d,e⟩:=YV off l (k+1) (cs.setIfInBounds (off+k) u);simp only[List.zipIdx_cons,List.foldl_cons];refine⟨by rw[d];simp,λi f=> ?_⟩;simp only[Zl]at f ⊢;rw[e i (by simp;omega)];by_cases b:off+(k+1)<=i/\i<off+(k+1)+l.length;{rw[ab b,ab ⟨by omega,by omega⟩,show i-(off+k)=i-(off+(k+1))+1 by omega,Z2]}
  ·rw[ae b];by_cases c:i=off+k
   ·subst c;rw[ab ⟨Zv _,by omega⟩,Nat.sub_self,List.getElem?_cons_zero,Array.getElem?_setIfInBounds_self_of_lt (by omega)]
   ·rw[ae (by omega),Array.getElem?_setIfInBounds_ne (Ne.symm c)]
section
variable {P:dg} {G:Gh} {w:Zy}
structure Row(G:Gh)(w:World)(vs:Array Value)(cs:List AV):Prop where
 len:vs.size=cs.length
 rel:∀(i:Nat)(u:Value)(c:AV),vs[i]?=some u->cs[i]?=some c->aQ G w u c
 one:∀(i:Nat)(u:Value),vs[i]?=some u->u.oneCell'=true
def aml{vs us:Array kd}{cs ys:I AV}(h:Row G w vs cs)(h':Row G w us ys){off:Nat}(g:off+ys.length<=cs.length):
 Row G w (us.zipIdx.foldl (λcs(p:kd×Nat)=>cs.setIfInBounds (off+p.2) p.1) vs) (jK cs off ys):=by
 have e:us.zipIdx.foldl (λcs(p:kd×Nat)=>cs.setIfInBounds (off+p.2) p.1) vs=(us.toList.zipIdx 0).foldl (λcs(p:kd×Nat)=>cs.setIfInBounds (off+p.2) p.1) vs:=by
  rw[<-Array.foldl_toList,Array.toList_zipIdx]
 obtain⟨l,j⟩:=YV off us.toList 0 vs;rw[<-e]at l j;have m:us.toList.length=ys.length:=by rw[ZB,h'.len]
 have d:off+0+us.toList.length<=vs.size:=by rw[m,h.len];omega
 have q:∀i,(jK cs off ys)[i]?=if off+0<=i/\i<off+0+us.toList.length then ys[i-off]? else cs[i]?:=λi=>by
  unfold jK;rw[ZR];by_cases t:i<off;{rw[ZX (by simp;omega),List.getElem?_take_of_lt t,ae (by omega)]}
  ·rw[ZI (by simp;omega)];simp only[ao];rw[Nat.min_eq_left (by omega)];by_cases g:i-off<ys.length
   ·rw[ZX g,ab (by omega)]
   ·rw[ZI (by omega),List.getElem?_drop,ae (by omega),show off+ys.length+(i-off-ys.length)=i by omega]
 refine⟨by rw[l,Hw _ _ _ g,h.len],λi u c b f=> ?_,λi u b=> ?_⟩
 ·rw[j i d]at b;rw[q]at f;split at b
  ·rename_i k
   rw[ab k]at f;exact h'.rel _ _ _ (by rw[<-ZP];exact b) f
  ·rename_i k
   rw[ae k]at f;exact h.rel _ _ _ b f
 ·rw[j i d]at b;split at b
  ·exact h'.one _ _ (by rw[<-ZP];exact b)
  ·exact h.one _ _ b
def aQ.Xr{u:kd}{x:AV}(h:aQ G w u x)(f:x.kT=true):Row G w u.cells x.cells:=by
 obtain⟨d,e⟩:=h.cells f;refine⟨d,λi v c b g=>(e i v c b g).1,λi v b=> ?_⟩;have j:i<x.cells.length:=by rw[<-d];exact(ZT.1 b).1
 exact(e i v _ b (Ze j)).2
def V9(place:Nat->U (Nat×Nat))(places:I (Nat×Nat))(l:∀i y,places[i]?=some y->place i=some y):∀(c:I (Nat×AV))(e:I (Nat×kd))(cs cM:I AV)(d:Array kd),Row G w d cs->
 e.length=c.length->(∀(i:Nat)(p:Nat×AV)(q:Nat×kd),c[i]?=some p->e[i]?=some q->q.1=p.1/\aQ G w q.2 p.2)->(c.all λp=>p.2.kT)=true->rP places cs c=some cM->
 ∃m,Instr.fill place d e=some m/\Row G w m cM
 |[],[],cs,cM,d,h,_,_,_,b=>by
  simp only[rP,UW]at b;subst b;exact⟨d,rfl,h⟩
 |[],_::_,_,_,_,_,f,_,_,_=>by simp at f
 |_::_,[],_,_,_,_,f,_,_,_=>by simp at f
 |(j,x)::c,(E,u)::e,cs,cM,d,h,f,z,t,b=>by
  obtain⟨A,B⟩:=z 0 (j,x) (E,u) rfl rfl;simp only at A B;subst A;simp only[ZE,Zr]at t;unfold rP at b;split at b
  ·rename_i v k F
   rw[cond_eq_ite]at b;split at b
   ·rename_i g
    simp only[Zr,Ua,dS]at g;have C:=B.Xr t.1;obtain⟨m,H,J⟩:=V9 place places l c e _ cM _ (aml h C (by rw[g.1];exact g.2)) (by simpa using f) (λi p q l L=>z (i+1) p q (by simpa using l) (by simpa using L)) t.2 b;refine⟨m,?_,J⟩;unfold Instr.fill;rw[l _ _ F];have M:¬(u.cells.size≠k||decide (v+u.cells.size>d.size))=true:=by
     rw[C.len,g.1,h.len];simp;exact g.2
    simp only[M];exact H
   ·cases b
  ·cases b
def YR{z:Array kd}(h:z.toList.all Value.oneCell'=true):z.all (·.oneCell')=true:=by
 rw[Zd]at h;exact Array.all_eq_true_iff_forall_mem.2 λu b=>h u (Array.mem_toList_iff.2 b)
def ahK(z:kd)(h:z.cells.all (·.oneCell')=true):Row G w z.cells (z.cells.toList.map λu=>.d (.v u)):=by
 refine⟨by simp,λi u c b e=> ?_,λi u b=>Array.all_eq_true_iff_forall_mem.1 h u (Array.mem_of_getElem? b)⟩;rw[Zs,ZP,b]at e;cases e
 exact .d (.v u)
def YQ:∀(b:I Field)(c:I (Nat×Nat))(w:Zy),F3 P b=some c->(b.mapM (m:=Sem) λf=>do pure (f.offset,<-sizeOf f.type)).run P w= .ok c w
 |[],c,w,h=>by simp [F3]at h;subst h;simp
 |f::b,c,w,h=>by
  unfold F3 at h;simp only[List.mapM_cons,Option.bind_eq_bind,Option.bind_eq_some_iff,Option.map_eq_some_iff,Option.pure_def,UW]at h;obtain⟨p,⟨k,d,rfl⟩,e,g,rfl⟩:=h;have i:=YQ b e w g;simp only[List.mapM_cons,Sem.run_bind,nQ d,Sem.run_pure,Result.andThen_ok,i]
def ar3{T:Nat}{c:I (Nat×AV)}{d:Array (Nat×kd)}{C:AV->Prop}(A:d.toList.length=c.length)
 (B:∀(i:Nat)(p:Nat×AV)(q:Nat×kd),c[i]?=some p->d.toList[i]?=some q->q.1=p.1/\aQ G w q.2 p.2) (h:yU P T c C):∃u y,(Instr.build T d).run P w= .ok u w/\aQ G w u y/\C y:=by
 unfold yU at h;split at h
 ·rename_i places z g E
  obtain⟨b,F,H⟩:∃b,P.underlying T=some (.struct b)/\F3 P b.toList=some places:=by
   unfold Tr at g;split at g;{exact⟨_,by assumption,g⟩};{cases g}
  ·split at h
   ·rename_i j J
    obtain⟨t,L⟩:=cv.1 h;simp only[Zr]at t;obtain⟨M,k⟩:=t;have k:=YR k;have N:(b.mapM (m:=Sem) λf=>do pure (f.offset,<-sizeOf f.type)).run P w= .ok places.toArray w:=by
     rw[Array.mapM_eq_mapM_toList];have:=YQ b.toList places w H;have e:(Functor.map List.toArray (b.toList.mapM (m:=Sem) λf=>do pure (f.offset,<-sizeOf f.type)):Sem _)=(b.toList.mapM (m:=Sem) λf=>do pure (f.offset,<-sizeOf f.type))>>=λl=>pure l.toArray:=rfl;rw[e,Sem.run_bind,this];rfl
    obtain⟨v,R,x⟩:=V9 (λi=>places.toArray[i]?) places (λi S h=>by simpa using h) c d.toList _ j z.cells (ahK (G:=G) (w:=w) z k) A B M J;refine⟨.agg v,.agg j,?_,.agg v j x.len x.rel,L⟩;unfold Instr.build;simp only[Sem.run_bind,Ew E,Result.andThen_ok,run_underlying F,N,R,Sem.run_pure]
   ·exact h.elim
 ·exact h.elim
def YO{T:Nat}(h:Bg P T=true):P.underlying T=some .bool:=by
 unfold Bg at h;split at h;{assumption};{cases h}
def Ka{T:Nat}{k:IntKind}(h:sq P T=some k):P.underlying T=some (.int k):=by
 unfold sq at h;split at h;{cases h;assumption};{cases h}
def YH{t off:Nat}{b:Array kd}{u:kd}(c:nE P t=some false)(d:b[off]?=some u):(part t b off).run P w= .ok u w:=by
 unfold part;rw[Sem.run_bind,Hd c w];simp [d]
def ahx{t:Nat}{u v:kd}{x y:AV}{b:Bool}(d:Nat)(g:aQ G w u x)(i:aQ G w v y)(h:Jh P t x y=some b):(Op.equalIn (d+1) t u v).run P w= .ok b w:=by
 unfold Jh at h;split at h
 ·have e:=g.val;have f:=i.val;subst e;subst f
  rename_i k a j l
  cases c:zH k j&&(sq P t).isSome with
  |false=>rw[c]at h;cases h
  |true=>
   rw[c]at h;cases h;rw[Zr,U1]at c;obtain⟨rfl,c⟩:=c;obtain⟨m,p⟩:=b8.1 c;exact run_equalIn_int w d t k m a l (Ka p)
 ·have e:=g.val;have f:=i.val;subst e;subst f;cases c:jj P t with
  |false=>rw[c]at h;cases h
  |true=>rw[c]at h;cases h;rw[<-VZ,<-VZ];exact run_equalIn_string w d t _ _ (uS c)
 ·have e:=g.val;have f:=i.val;subst e;subst f;cases c:Bg P t with
  |false=>rw[c]at h;cases h
  |true=>rw[c]at h;cases h;exact run_equalIn_bool w d t _ _ (YO c)
 ·cases h
def aji{t off k:Nat}{b:Array kd}(c:nE P t=some true)(d:ic P t=some k):(part t b off).run P w= .ok (.agg (b.extract off (off+k))) w:=by
 unfold part;rw[Sem.run_bind,Hd c w];simp [nQ d]
def Zn{us:Array kd}{xs:I AV}{off k:Nat}(f:us.size=xs.length)(g:off+k<=xs.length)(e:∀(i:Nat)(u:kd)(c:AV),us[i]?=some u->xs[i]?=some c->aQ G w u c):
 (us.extract off (off+k)).size=((xs.drop off).take k).length/\∀(i:Nat)(u:kd)(c:AV),(us.extract off (off+k))[i]?=some u->((xs.drop off).take k)[i]?=some c->aQ G w u c:=by
 refine⟨by simp;omega,λi u c d b=> ?_⟩;rw[List.getElem?_take]at b;split at b
 ·next j=>
  rw[List.getElem?_drop]at b;rw[Array.getElem?_extract]at d;split at d;{exact e _ _ _ d b};{cases d}
 ·cases b
def KX{e:TypeId->I AV->I AV->U Bool}(d:Nat)
 (z:∀(T:Nat)(us vs:Array kd)(xs ys:I AV)(b:Bool),us.size=xs.length->vs.size=ys.length->(∀(i:Nat)(u:kd)(c:AV),us[i]?=some u->xs[i]?=some c->aQ G w u c)->(∀(i:Nat)(u:kd)(c:AV),vs[i]?=some u->ys[i]?=some c->aQ G w u c)->e T xs ys=some b->(Op.equalIn (d+1) T (.agg us) (.agg vs)).run P w= .ok b w)
 {us vs:Array kd} {xs ys:I AV} (l:us.size=xs.length) (m:vs.size=ys.length)
 (p:∀(i:Nat)(u:kd)(c:AV),us[i]?=some u->xs[i]?=some c->aQ G w u c) (q:∀(i:Nat)(u:kd)(c:AV),vs[i]?=some u->ys[i]?=some c->aQ G w u c):
 ∀(g:I Field)(b:Bool),Bi P e g xs ys=some b->(Op.eqFields (d+1) us vs g).run P w= .ok b w
 |[],b,h=>by cases h;simp [Op.eqFields]
 |f::g,b,h=>by
  unfold Bi at h;cases A:f.name== "_" with
  |true=>rw[A]at h;cases h
  |false=>
   rw[A]at h;simp only[T6]at h;have E:f.name≠ "_" :=by simpa using A
   split at h
   ·next t=>
    split at h
    ·next x y v F=>
     split at h
     ·next a c B C=>
      cases h
      have L:f.offset<us.size:=by rw[l];exact(Zo.1 v).1
      have M:f.offset<vs.size:=by rw[m];exact(Zo.1 F).1
      have H:=ZM L;have J:=ZM M;simp only[Op.eqFields,ab E,Sem.run_bind,YH (w:=w) t H,YH (w:=w) t J,Result.andThen_ok,ahx d (p _ _ _ H v) (q _ _ _ J F) B];cases a with
      |true=>simp only[W1,Bool.false_eq_true,if_false,Zt];exact KX d z l m p q g c C
      |false=>simp
     ·cases h
    ·cases h
   ·next t=>
    split at h
    ·next k v=>
     cases j:cP (f.offset+k) xs.length&&cP (f.offset+k) ys.length with
     |false=>rw[j]at h;cases h
     |true=>
      rw[j]at h;rw[Zr,dS,dS]at j;simp only[Tq]at h;split at h
      ·next a c B C=>
       cases h
       obtain⟨N,R⟩:=Zn l j.1 p;obtain⟨q1,S⟩:=Zn m j.2 q;simp only[Op.eqFields,ab E,Sem.run_bind,aji (w:=w) t v,Result.andThen_ok,z _ _ _ _ _ a N q1 R S B];cases a with
       |true=>simp only[W1,Bool.false_eq_true,if_false,Zt];exact KX d z l m p q g c C
       |false=>simp
      ·cases h
    ·cases h
   ·cases h
def Xd:∀(n d:Nat)(T:Nat)(us e:Array kd)(xs ys:I AV)(b:Bool),us.size=xs.length->e.size=ys.length->(∀(i:Nat)(u:kd)(c:AV),us[i]?=some u->xs[i]?=some c->aQ G w u c)->(∀(i:Nat)(u:kd)(c:AV),e[i]?=some u->ys[i]?=some c->aQ G w u c)->NS P n T xs ys=some b->(Op.equalIn (d+n+1) T (.agg us) (.agg e)).run P w= .ok b w
 |0,_,_,_,_,_,_,_,_,_,_,_,h=>by cases h
 |n+1,d,T,us,e,xs,ys,b,k,l,m,p,h=>by
  unfold NS at h;split at h
  ·next fs g=>
   cases f:P.stoodInHeld T with
   |true=>rw[f]at h;cases h
   |false=>
    rw[f]at h;have j:P.fieldsOf T=fs:=by unfold Program.fieldsOf;rw[g]
    rw[show d+(n+1)+1=(d+n+1)+1 by omega,run_equalIn_struct w (d+n+1) T us e (by rw[j];exact g) f,j];exact KX (d+n) (λq t v x y z=>Xd n d q t v x y z) k l m p _ b h
  ·cases h
def am1{T:Nat}{us e:Array kd}{xs ys:I AV}{b:Bool}(j:us.size=xs.length)(k:e.size=ys.length)
 (l:∀(i:Nat)(u:kd)(c:AV),us[i]?=some u->xs[i]?=some c->aQ G w u c) (m:∀(i:Nat)(u:kd)(c:AV),e[i]?=some u->ys[i]?=some c->aQ G w u c) (h:OV P T xs ys=some b):
 P.eqGuardType P.depth T=false/\(Op.equalIn 10000 T (.agg us) (.agg e)).run P w= .ok b w:=by
 unfold OV at h;split at h
 ·next fs f=>
  cases d:P.stoodInHeld T||P.eqGuardType P.depth T with
  |true=>rw[d]at h;cases h
  |false=>
   rw[d]at h;rw[Yt]at d;refine⟨d.2,?_⟩;have g:P.fieldsOf T=fs:=by unfold Program.fieldsOf;rw[f]
   rw[run_equalIn_struct w 9999 T us e (by rw[g];exact f) d.1,g];exact KX 9998 (λp q t v x y=>Xd 4 9994 p q t v x y) j k l m _ b h
 ·cases h
def ag5{c:BinOp}{x y:AV}{u v:kd}{T:Nat}{X Y:Operand}{C:AV->Prop}(q:aQ G w u x)(t:aQ G w v y)(h:yx P T c x y C):
 ∃r z,(do eqGuard c T X Y u v;binOp c T u v:Sem kd).run P w= .ok r w/\aQ G w r z/\C z:=by
 unfold yx at h;split at h
 ·rename_i k a F b
  have i:=q.val;have j:=t.val;subst i;subst j;have g:(eqGuard c T X Y (.int k a) (.int F b)).run P w= .ok () w:=by unfold eqGuard;cases c<;>simp
  rw[Sem.run_bind,g];simp only[Result.andThen_ok];split at h
  ·rename_i z f
   obtain⟨l,H,m⟩:=cv.1 h;rw[U1]at l;subst l;refine⟨z,_,?_,.d (.v z),m⟩;cases c<;>simp [Sl]at f<;>subst f<;>simp [binOp,Op.intDiv,H]
  ·split at h
   ·rename_i z f
    refine⟨z,_,?_,.d (.v z),h.2⟩;have p:¬b<0:=by omega
    cases c<;>simp [VH]at f<;>subst f<;>simp [binOp,Op.shift,p]
   ·split at h
    ·rename_i z f
     obtain⟨l,m⟩:=cv.1 h;rw[U1]at l;subst l;refine⟨z,_,?_,.d (.v z),m⟩;cases c<;>simp [UB]at f<;>subst f<;>simp [binOp,Op.intArith,Op.intCmp,Op.intBits]
    ·exact h.elim
 ·rename_i a b
  have i:=q.val;have j:=t.val;subst i;subst j;have g:(eqGuard c T X Y (.string a) (.string b)).run P w= .ok () w:=by unfold eqGuard;cases c<;>simp
  rw[Sem.run_bind,g];simp only[Result.andThen_ok];split at h
  ·rename_i z f
   refine⟨z,_,?_,.d (.v z),h⟩;cases c<;>simp [Wo]at f<;>subst f<;>simp [binOp,Op.stringOp,VZ]
  ·split at h
   ·refine⟨_,_,?_,.d (.v _),h.2⟩;have J:¬(((a.size+b.size:Nat):Int)>IntKind.i64.max):=by
     have:=h.1;unfold maxLen at this;have e:IntKind.i64.max=9223372036854775807:=by decide
     rw[e];omega
    simp only[binOp,Op.stringOp];rw[ae J];rfl
   ·exact h.elim
 ·rename_i a b
  have i:=q.val;have j:=t.val;subst i;subst j;have g:(eqGuard c T X Y (.bool a) (.bool b)).run P w= .ok () w:=by unfold eqGuard;cases c<;>simp
  rw[Sem.run_bind,g];simp only[Result.andThen_ok];split at h
  ·rename_i z f
   obtain⟨A,m⟩:=cv.1 h;have A:=YO A;refine⟨z,_,?_,.d (.v z),m⟩;have p:=run_equalIn_bool (P:=P) w 9999 T a b A;cases c<;>simp [Sz]at f<;>subst f<;>simp [binOp,Op.equal,Op.maxDepth,p]
  ·exact h.elim
 ·rename_i xs ys
  cases q with
  |agg L _ M N=>
   cases t with
   |agg R _ S W=>
    split at h
    ·next b p=>
     obtain⟨g,B⟩:=am1 M S N W p;rw[Sem.run_bind,run_eqGuard_agg w c T X Y L R g];simp only[Result.andThen_ok];split at h
     ·next z E=>
      refine⟨z,_,?_,.d (.v z),h⟩;cases c<;>simp [Az]at E<;>subst E;{rw[run_eql_struct,B];rfl};{rw[run_neq_struct,B];rfl}
     ·exact h.elim
    ·exact h.elim
 ·exact h.elim
def ajX{c:UnOp}{x:AV}{u:kd}{C:AV->Prop}(f:aQ G w u x)(h:yo c x C):∃r z,(Op.unary c u).run P w= .ok r w/\aQ G w r z/\C z:=by
 unfold yo at h;split at h
 ·rename_i v
  have e:=f.val;subst e;split at h
  ·rename_i z b
   refine⟨z,_,?_,.d (.v z),h⟩;unfold O6 at b;split at b;{cases b;simp [Op.unary]};{cases b;simp [Op.unary,Op.intArith]};{cases b;simp [Op.unary,Op.intBits]};{cases b}
  ·exact h.elim
 ·exact h.elim
def arV{T:Nat}(h:I9 P T=true):P.underlying T=some (.int .u8):=by
 unfold I9 at h;split at h;{assumption};{cases h}
def ahO{a b:Nat}{x:AV}{u:kd}{C:AV->Prop}(E:aQ G w u x)(h:xZ P a b x C):∃r z,(convert a b u).run P w= .ok r w/\aQ G w r z/\C z:=by
 unfold xZ at h;split at h
 ·rename_i k2 m
  have e:=E.val;subst e;split at h
  ·rename_i k1 k t y
   refine⟨_,_,?_,.d (.v _),h⟩;simp [convert,run_underlying (Ka t),run_underlying (Ka y),Conv.intToInt]
  ·exact h.elim
 ·rename_i s
  have e:=E.val;subst e;obtain⟨c,F⟩:=cv.1 h;rw[Zr]at c;refine⟨_,_,?_,.d (.v _),F⟩;simp [convert,run_underlying (uS c.1),run_underlying (uS c.2)]
 ·split at h
  ·rename_i xs e k S T
   obtain⟨c,f,rfl,F⟩:=cv.1 h;rw[Zr]at c;refine⟨_,_,?_,.d (.v _),F⟩;obtain⟨A,W,o,H,k',L,rfl,M,mG,Ad,iA,N,nI⟩:=(E.list S).sM;rw[run_convert_bytes_string w a b e A _ H (ld T).1 (arV c.1) (uS c.2)];simp only[Zu]at M mG N ⊢;cases f with
   |nil=>
    cases A with
    |none=>rfl
    |some R=>
     have g:=run_loadCells_list (P:=P) w R (([]:I Int).map (Value.int .u8)) (λj v i=>by simp at i);simp only[ah,Zf]at g;have:=run_bytesToString (P:=P) w R 0 H [] (by simpa using g);exact this
   |cons p f=>
    have qy:=M (by simp);subst qy;have kV:k'=1:=(iA [.v (.int .u8 p)] (by simp)).symm;subst kV;have g:=run_loadCells_list (P:=P) w ⟨W,o,none⟩ ((p::f).map (Value.int .u8)) (λj v i=>by
     have B:=(Zo.1 i).1;rw[Zu]at B;have t:=(N j 0 B (by omega)).2.1;rw[Zs,Ze B]at i;cases i
     have y:=nI j 0 [.v (.int .u8 ((p::f)[j]))] (.v (.int .u8 ((p::f)[j]))) (by rw[Zs,Ze B];rfl) rfl;have h3:L j 0= .int .u8 ((p::f)[j]):=by
      generalize L j 0=q at y;cases y;rfl
     rw[mS];rw[h3]at t
     simpa using t)
    rw[Zu]at g;rw[run_bytesToString w _ _ H _ g];have J:∀(l:I Int)(r:so),l.foldl (λr n=>r.push (UInt8.ofNat n.toNat)) r=⟨r.data++(l.map λn=>UInt8.ofNat n.toNat).toArray⟩:=by
      intro l
      induction l with
      |nil=>intro r;simp
      |cons x l ih=>intro r;rw[List.foldl_cons,ih];simp [ByteArray.push]
    rw[J];have JE:ByteArray.empty.data= #[]:=rfl;rw[JE];simp
  ·exact h.elim
def Vr{T f off k:Nat}{g:Bool}(h:ug P T f=some (off,k,g)):∃c b,P.underlying T=some (.struct c)/\c[f]?=some b/\ic P b.type=some k/\0<k/\nE P b.type=some g/\b.offset=off:=by
 unfold ug at h;split at h
 ·rename_i c d
  split at h
  ·rename_i b e
   split at h
   ·rename_i l m i j
    cases h
    exact⟨c,b,d,e,i,Nat.succ_pos _,j,rfl⟩
   ·cases h
  ·cases h
 ·cases h
def SQ{T f off k o b:Nat}{g:Bool}(h:ug P T f=some (off,k,g)):(Instr.fieldAt T (.pointer (some ⟨b,o,none⟩)) f).run P w= .ok (.pointer (some ⟨b,o+off,none⟩)) w:=by
 obtain⟨j,l,c,d,e,i,m,rfl⟩:=Vr h;simp [Instr.fieldAt,run_underlying c,d,Instr.sureAddr,fieldPlace,nQ e,Nat.ne_of_gt i,mS]
def asU{T f:Nat}{x:AV}{u:kd}{C:AV->Prop}(e:aQ G w u x)(h:zq P T x f C):∃r z,(Instr.field T u f).run P w= .ok r w/\aQ G w r z/\C z:=by
 unfold zq at h;split at h
 ·rename_i j k A l
  obtain⟨B,E⟩:=cv.1 h;rw[dS]at B;obtain⟨F,g,m,p,v,H,q,rfl⟩:=Vr l;cases e with
  |agg vs _ b t=>
   refine⟨.agg (vs.extract g.offset (g.offset+k)),_,?_,.agg _ _ ?_ λi u c e d=> ?_,E⟩;{simp [Instr.field,run_underlying m,p,asAgg,part,Hd q,nQ v]};{simp;omega}
   ·rw[Array.getElem?_extract]at e;rw[List.getElem?_take]at d;split at d
    ·rw[List.getElem?_drop]at d;split at e
     ·exact t _ u c e d
     ·cases e
    ·cases d
 ·rename_i j k A l
  obtain⟨F,g,m,p,v,H,q,rfl⟩:=Vr l;split at h
  ·rename_i c d
   cases e with
   |agg vs _ b t=>
    have y:g.offset<vs.size:=by rw[b];exact(Zo.1 d).1
    refine⟨vs[g.offset],c,?_,t _ _ c (ZM y) d,h⟩;simp [Instr.field,run_underlying m,p,asAgg,part,Hd q,ZM y]
  ·exact h.elim
 ·exact h.elim
end
def Gh.rz(G:Gh)(b m:Nat):Gh:={G with S:=λc o=>G.S c o\/(c=b/\o<m)}
def Xs{G:Gh}{w:Zy}{h:I ar}(hi:cu G w h)(g:Obj)(m:Nat):cq G.N G w (G.rz w.heap.size m) (w.alloc g)/\cu (G.rz w.heap.size m) (w.alloc g) h:=by
 have d:cq G.N G w (G.rz w.heap.size m) (w.alloc g):=
  ⟨by simp,λ_ _ h=>.inl h,λb _ h=>World.cell?_alloc_lt _ _ _ (hi.S _ _ h),λ_ _=>rfl,λ_ _=>.inl ⟨rfl,rfl⟩,iX rfl,λb f=>Below.heap_alloc w g b (hi.z b f),rfl,rfl,rfl,λb o c=>c.imp id fun⟨e,_⟩ j=>Z4 _ (hi.z _ (e▸j))⟩
 refine⟨d,hi.len,λb f=>ZU (hi.z b f) d.size,λb o c=> ?_,λn B i=> ?_,λm n b k l=>hi.inj m n b k l,hi.gl.keep d⟩
 ·rcases c with c|⟨rfl,_⟩
  ·exact ZU (hi.S b o c) d.size
  ·simp
 ·refine fb.keep (hi.lt i) d (Zv _) ⟨rfl,rfl,rfl⟩ (λb f=> ?_) (hi.dM n B i);have p:=hi.iO (n:=n) (b:=b) ((eG i).trans f);refine⟨Below.heap_alloc w _ _ p,λo q c=> ?_⟩;rcases c with c|⟨e,_⟩
  ·exact q c
  ·omega
def Ym(k:Nat):∀(n o i:Nat)(b:Nat×Nat),(xr k o n)[i]?=some b->b=(o+i*k,k)
 |0,_,_,_,h=>by simp [xr]at h
 |n+1,o,0,b,h=>by simp [xr]at h;rw[<-h];simp
 |n+1,o,i+1,b,h=>by
  have:=Ym k n (o+k) i b (by simpa [xr]using h);rw[this,YF];simp;omega
def Yv(l:I AV):∀n,(tZ n l).length=n*l.length
 |0=>by simp [tZ]
 |n+1=>by rw[tZ,Zk,Yv l n,YF];omega
def Xh(l:I AV):∀(n i:Nat),i<n*l.length->(tZ n l)[i]?=l[i%l.length]?
 |0,i,h=>by omega
 |n+1,i,h=>by
  rw[tZ];by_cases b:i<l.length;{rw[ZX b,Nat.mod_eq_of_lt b]};{rw[ZI (by omega),Xh l n _ (by rw[YF]at h;omega),<-Nat.mod_eq_sub_mod (by omega)]}
def aoQ(z:kd){k:Nat}(b:z.cells.size=k)(n:Nat):tZ n (z.cells.toList.map λu=>.d (.v u))=(List.range (n*k)).map λi=>.d (.v (z.cells[i%z.cells.size]!)):=by
 have c:(z.cells.toList.map λu=>AV.d (.v u)).length=k:=by simp [b]
 refine List.ext_getElem? λi=> ?_;by_cases f:i<n*k
 ·rw[Xh _ _ _ (by rw[c];exact f),Zs,Zs,List.getElem?_range f,c,b,ZP];have j:0<k:=Nat.pos_of_ne_zero λe=>by subst e;simp at f
  have g:i%k<z.cells.size:=by rw[b];exact Nat.mod_lt _ j
  rw[ZM g];simp only[a6];rw[getElem!_pos z.cells (i%k) g]
 ·rw[Z9 (by rw[Yv,c];omega),Z9 (by simp;omega)]
def YN:∀{c:I (Nat×AV)}{places:I (Nat×Nat)}{cs cM:I AV},rP places cs c=some cM->cM.length=cs.length
 |[],_,_,_,h=>by simp only[rP,UW]at h;rw[h]
 |(i,x)::c,places,cs,cM,h=>by
  unfold rP at h;split at h
  ·rw[cond_eq_ite]at h;split at h
   ·rename_i b
    simp only[Zr,Ua,dS]at b;rw[YN h,Hw _ _ _ (by rw[b.1];exact b.2)]
   ·cases h
  ·cases h
section
variable {P:dg} {r:U Nat} {n N0:Nat} {G:Gh} {w:Zy} {a:Act} {s:St} {o:Oper} {K:St->Prop} {Q:Exit->Act->Zy->Prop}
def aq0{T len:Nat}{h:I ar}{A:I (Nat×AV)}{B:Array (Nat×kd)}{C:AV->Prop}(hi:cu G w h)(hl:B.toList.length=A.length)
 (hr:∀(i:Nat)(p:Nat×AV)(q:Nat×kd),A[i]?=some p->B.toList[i]?=some q->q.1=p.1/\aQ G w q.2 p.2) (f:yf P T len A C):
 ∃u w' G' y,(Instr.buildSlice T len B).run P w= .ok u w'/\cq G.N G w G' w'/\G.N<=G'.N/\cu G' w' h/\aQ G' w' u y/\C y:=by
 unfold yf at f;split at f
 ·rename_i e k hT
  obtain⟨gO,hJ⟩:=ld hT;split at f
  ·rename_i z hz
   split at f
   ·rename_i cs H
    split at f
    ·rename_i W qf
     obtain⟨gJ,f⟩:=cv.1 f;simp only[Zr,Ua,dS,ZB]at gJ;obtain⟨⟨⟨⟨hk,Xq⟩,lP⟩,J⟩,hb⟩:=gJ;have J:=YR J;rw[aoQ z lP]at H;have Jq:=Ym k;obtain⟨g,m⟩:∃g:Array kd,g=if len*k=0 then #[]else z.cells:=⟨_,rfl⟩
     obtain⟨E,t⟩:∃E:Array kd,E=(Array.range (len*k)).map (g[·%g.size]!):=⟨_,rfl⟩;have pY:Row G w E ((List.range (len*k)).map λi=>.d (.v (z.cells[i%z.cells.size]!))):=by
      have I0:∀i,i<len*k->g[i%g.size]! =z.cells[i%z.cells.size]! :=λi hi=>by rw[m,ae (by omega)]
      refine⟨by rw[t];simp,λi u c b l=> ?_,λi u b=> ?_⟩
      ·rw[t,Array.getElem?_map]at b;rw[Zs]at l;by_cases hi:i<len*k
       ·rw[List.getElem?_range hi]at l;rw[Array.getElem?_range,ab hi]at b;simp only[a6,UW]at b l;subst b;subst l;rw[I0 i hi];exact .d (.v _)
       ·rw[Z9 (by simp;omega)]at l;cases l
      ·rw[t,Array.getElem?_map]at b;by_cases hi:i<len*k
       ·rw[Array.getElem?_range,ab hi]at b;simp only[a6,UW]at b;subst b;rw[I0 i hi];have F:i%z.cells.size<z.cells.size:=Nat.mod_lt _ (by omega);rw[getElem!_pos z.cells _ F];exact Array.all_eq_true_iff_forall_mem.1 J _ (Array.getElem_mem _)
       ·rw[Array.getElem?_eq_none (by simp;omega)]at b;cases b
     obtain⟨gQ,L,M⟩:=V9 (λi=>some (i*k,k)) (xr k 0 len) (λi pl h=>by
      have:=Jq len 0 i pl h;rw[this];simp) A B.toList _ cs E pY hl hr hb H
     obtain⟨d1,d2⟩:=PG qf;have ig:cs.length=len*k:=by
      have:=YN H;rw[this];simp
     have An:gQ.size=len*k:=by rw[M.len,ig]
     obtain⟨R,i2⟩:=Xs hi (.cells gQ e) (len*k);have Ab:Rd G.S w k (pK k len W) gQ.toList:=YW (by rw[d1,ig]) (by rw[ZB,An]) (λu b=>by
      obtain⟨j,hj⟩:=List.mem_iff_getElem?.1 b;exact M.one j u (by rw[<-ZP];exact hj)) (λi u d b hd=>by
      have F:i<cs.length:=by rw[<-d1];exact(Zo.1 hd).1
      exact(M.rel i u _ (by rw[<-ZP];exact b) (Ze F)).J5 (d2 i _ d (Ze F) hd))
     have hp:ee (G.rz w.heap.size (len*k)).S (w.alloc (.cells gQ e)) (.slice (some ⟨w.heap.size,0,none⟩) len len) (.sl (pK k len W)):=by
      have:=(Ab.keep R.S R.cell).FH w.heap.size len (by rw[uO];exact Zv _) (by have:=Nat.le_mul_of_pos_right len hk;simp only[maxLen];omega) (λo ho=>.inr ⟨rfl,by rw[uO]at ho;exact ho⟩) (λo u b=>by
       rw[World.cell?_alloc_new,<-ZP];exact b)
      rwa [uO]at this
     refine⟨_,_,_,_,?_,R,Zv _,i2,.full _ hp ⟨some ⟨w.heap.size,0,none⟩,by rw[uO]⟩,f⟩;have kE:¬(len*k>2^24):=by omega
     unfold Instr.buildSlice;simp only[Sem.run_bind,run_underlying gO,Result.andThen_ok,nQ hJ,kE,if_false];by_cases x:len*k=0;{rw[ab x]at m;subst m;subst t;simp [x]at L;simp [x,L,newRow]};{rw[ae x]at m;subst m;subst t;simp [x,Ew hz,L,newRow]}
    ·exact f.elim
   ·exact f.elim
  ·exact f.elim
 ·exact f.elim
end
section
variable {P:dg} {G:Gh} {w:Zy} {h:I ar}
def BP(k s:so)(d:D)(l:I (so×D)):mq ((k,d)::l) s=if k=s then some d else mq l s:=by
 have b:mq ((k,d)::l) s=bif bL k==bL s then some d else mq l s:=rfl;rw[b];by_cases e:k=s
 ·subst e;rw[ab rfl];simp
 ·rw[ae e];have:(bL k==bL s)=false:=by rw[Tv];exact λc=>e (Yj c)
  rw[this];rfl
def EX{T k e:TypeId}(h:vD P T=some (k,e)):P.underlying T=some (.map k e):=by
 unfold vD at h;split at h;{next c d b=>cases h;exact b};{cases h}
def aog(hi:cu G w h):cq G.N G w (G.dA w.heap.size) (w.alloc (.map #[] 0))/\cu (G.dA w.heap.size) (w.alloc (.map #[] 0)) (h++[.map []])/\aQ (G.dA w.heap.size) (w.alloc (.map #[] 0)) (.map (some w.heap.size)) (.mp h.length):=by
 have j:=vn G w hi.z hi.S (.map #[] 0);have x:G.N<=(G.dA w.heap.size).N:=ba _;have k:(G.dA w.heap.size).bg h.length=w.heap.size:=by simp [Gh.dA,hi.len]
 have y:∀n(B:ar),n<G.N->B.eZ (G.dA w.heap.size) n=B.eZ G n:=λn B c=>by
  cases B<;>simp [ar.eZ,Gh.dA,Nat.ne_of_lt c]
 have A:∀n,n<G.N->cr (h++[.map []]) (G.dA w.heap.size) n=cr h G n:=λn c=>by
  have l:n<h.length:=by rw[hi.len];exact c
  unfold cr;rw[ZX l,Ze l];exact y n _ c
 have C:cr (h++[.map []]) (G.dA w.heap.size) h.length=some w.heap.size:=by
  rw[eG (B:= .map []) (by simp)];exact congrArg some k
 refine⟨j,⟨by simp [Gh.dA,hi.len],λb q=>ZU (hi.z b q) j.size,λb o f=>ZU (hi.S b o f) j.size,λn B g=> ?_,λm n b E c=> ?_,hi.gl.keep j⟩,?_⟩
 ·by_cases c:n<h.length
  ·rw[ZX c]at g;have t:n<G.N:=hi.len▸c;exact fb.keep t j x ⟨rfl,rfl,rfl⟩ (λb q=>⟨Below.heap_alloc w _ _ (hi.iO (n:=n) ((eG g).trans q)),λo h=>h⟩) (hi.dM n B g)
  ·have F:n=h.length:=by
    have:=(Zo.1 g).1;simp at this;omega
   subst F;simp at g;subst g;exact⟨by rw[k];exact λH=>Z4 _ (hi.z _ H),λo f=>by rw[k]at f;exact Z4 _ (hi.S _ _ f), #[],0,by rw[k];exact World.alloc_heap_new w _,
    ⟨by simp,MapKept.stamped_empty 0,λe u=>(by simp at u),λs d f=>(by cases f),by simp,λi e u=>(by simp at u),rfl⟩⟩
 ·have p:∀n b,cr (h++[.map []]) (G.dA w.heap.size) n=some b->(n<G.N/\cr h G n=some b)\/(n=h.length/\b=w.heap.size):=λn b c=>by
   by_cases l:n<G.N;{exact .inl ⟨l,by rw[<-A n l];exact c⟩}
   ·by_cases e:n=h.length
    ·subst e;rw[C]at c;cases c;exact .inr ⟨rfl,rfl⟩
    ·rw[wX (Z9 (by simp;have:=hi.len;omega))]at c;cases c
  rcases p m b E with⟨_,v⟩|⟨rfl,rfl⟩<;>rcases p n _ c with⟨_,t⟩|⟨rfl,q⟩
  ·exact hi.inj m n b v t
  ·have:=hi.iO v;omega
  ·have:=hi.iO t;omega
  ·rfl
 ·have:=aQ.mp (G:=G.dA w.heap.size) (w:=w.alloc (.map #[] 0)) h.length (by simp [Gh.dA,hi.len])
  rwa [k]at this
def aoq{v:kd}{d:D}(h:ee G.S w v d):aQ G w v (Kk d):=by
 cases d with
 |v x=>exact .d h
 |sl k=>exact .d h
 |ag l=>
  cases h with
  |ag e _ f h=>
   refine .agg e _ (by rw[Zu];exact f) λi u c g b=> ?_;rw[Zs]at b;obtain⟨d,j,rfl⟩:=Option.map_eq_some_iff.1 b;exact .d (h i u d g j)
def aht(z:kd):aQ G w z (Bb z):=by
 unfold Bb;split
 ·next e=>
  refine .agg e _ (by rw[Zu];exact ZB.symm) λi u c f b=> ?_;rw[Zs,ZP,f]at b;cases b
  exact .d (ee.v u).vZ
 ·exact .d (.v _)
def aQ.toM{u:kd}{x:AV}{d:D}(h:aQ G w u x)(b:x.UJ=some d):ee G.S w u d:=by
 unfold AV.UJ at b;split at b
 ·next cs=>
  obtain⟨j,k,rfl⟩:=Option.map_eq_some_iff.1 b;obtain⟨c,l⟩:=PG k;cases h with
  |agg m _ p q=>
   refine .ag m j (p.trans c.symm) λi v e t f=> ?_;have g:i<cs.length:=by rw[<-c];exact(Zo.1 f).1
   exact(q i v _ t (Ze g)).J5 (l i _ e (Ze g) f)
 ·exact h.J5 b
def vp{s:so}:MapKept.IsKey .string (.string s):=trivial
def amI{T k e:TypeId}{z:kd}{n:Nat}{p:I (so×D)}{s:so}{ok:Bool}(hi:cu G w h)(E:vD P T=some (k,e))(L:jB P e=some z)(M:jj P k=true)(N:h[n]?=some (.map p)):
 ∃v,(Instr.lookup T (.map (some (G.bg n))) (.string s) ok).run P w= .ok v w/\aQ G w v (sf ok z (mq p s)):=by
 obtain⟨_,_,es,clock,F,y⟩:=hi.dM n _ N;have R:∀x∈es.toList,MapKept.IsKey .string x.key:=λx A=>by
  obtain⟨S,d,f,_⟩:=y.Cd x A;rw[f];exact vp
 have q:=uS M;have g:∀(v:kd)(d:AV)(b:Bool),aQ G w v d->aQ G w (if ok then .tuple #[v,.bool b]else v) (bif ok then .bq [d,.d (.v (.bool b))]else d):=λv d b H=>by
  cases ok with
  |false=>exact H
  |true=>
   refine .bq #[v,.bool b] _ rfl λi u c l t=> ?_
   match i with
   |0=>simp at l t;subst l;subst t;exact H
   |1=>simp at l t;subst l;subst t;exact .d (.v _)
   |i+2=>simp at l
 rcases MapKept.findNow_spec (vp (s:=s)) es.toList 0 R with⟨f,B⟩|⟨j,m,f,B,W⟩
 ·have C:mq p s=none:=by
   cases hq:mq p s with
   |none=>rfl
   |some d=>
    obtain⟨x,A,pv⟩:=y.all s d hq;exact absurd pv (B x A)
  refine⟨if ok then .tuple #[z,.bool false]else z,?_,?_⟩;{simp [Instr.lookup,run_underlying (EX E),MapKept.run_getObj_map F,MapKept.run_checkKey q vp,MapKept.run_findKey q f,Ew L,Result.andThen]};{rw[C];have:=g z _ false (aht z);unfold sf;exact this}
 ·have kG:m∈es.toList:=ZY B;obtain⟨S,d,J,k2,k3⟩:=y.Cd m kG;rw[W]at J;cases J
  refine⟨if ok then .tuple #[m.val,.bool true]else m.val,?_,?_⟩;{simp [Instr.lookup,run_underlying (EX E),MapKept.run_getObj_map F,MapKept.run_checkKey q vp,MapKept.run_findKey q f,Result.andThen]};{rw[k2];have:=g m.val _ true (aoq k3);unfold sf;exact this}
def aj4{T k e:TypeId}{n:Nat}{g:I (so×D)}{s:so}{v:kd}{d:D}(hi:cu G w h)(hT:vD P T=some (k,e))(q:jj P k=true)(hn:h[n]?=some (.map g))(hv:ee G.S w v d)(hlen:g.length<maxLen):
 ∃w',(Instr.mapUpdate T (.map (some (G.bg n))) (.string s) v).run P w= .ok () w'/\cq G.N G w G w'/\cu G w' (h.set n (.map ((s,d)::g))):=by
 obtain⟨hZ,hS,es,clock,H,c⟩:=hi.dM n _ hn;have qb:∀x∈es.toList,MapKept.IsKey .string x.key:=λx f=>by
  obtain⟨u,d,A,_⟩:=c.Cd x f;rw[A];exact vp
 have oS:=uS q;have M:∀(C:Array MapEntry)(R:Nat)(w':Zy),w'=ChangeMaps.setBlock w (G.bg n) (.map C R)->vU G.S w C R ((s,d)::g)->cq G.N G w G w'/\cu G w' (h.set n (.map ((s,d)::g))):=by
  intro C R w' J W;have jV:∀b,b≠G.bg n->w'.heap[b]?=w.heap[b]?:=λb t=>by rw[J];exact ChangeMaps.heap_setBlock_other H _ t
  have Rl:w'.heap[G.bg n]?=some (.map C R):=by rw[J];exact ChangeMaps.heap_setBlock_same H _
  have iV:w'.heap.size=w.heap.size:=by rw[J];simp [ChangeMaps.setBlock]
  have jc:∀b o,G.S b o->w'.cell? ⟨b,o,none⟩=w.cell? ⟨b,o,none⟩:=λb o hs=>World.cell?_of_block (jV b (λe=>hS o (e▸hs)));have hE:cq G.N G w G w':=⟨by rw[iV];exact Zv _,λ_ _ h=>h,jc,λ_ _=>rfl,λ_ _=>.inl ⟨rfl,rfl⟩,iX rfl,λb t=>jV b (λe=>hZ (e▸t)),by rw[J];rfl,by rw[J];rfl,by rw[J];rfl,λ_ _ h=>.inl h⟩;refine⟨hE,?_⟩;have mK:cr h G n=some (G.bg n):=eG hn;have nC:(h.set n (.map ((s,d)::g)))[n]?=some (.map ((s,d)::g)):=by rw[ZC (Zo.1 hn).1]
  have fy:∀m,m≠n->(h.set n (.map ((s,d)::g)))[m]?=h[m]?:=λm c=>by rw[ZD (Ne.symm c)]
  have fu:∀m,cr (h.set n (.map ((s,d)::g))) G m=cr h G m:=λm=>by
   by_cases e:m=n;{subst e;rw[eG nC,eG hn];rfl};{unfold cr;rw[fy m e]}
  refine⟨by rw[ZJ];exact hi.len,λb t=>ZU (hi.z b t) hE.size,λb o hs=>ZU (hi.S b o hs) hE.size,λm B L=> ?_,λm m' b A l=>hi.inj m m' b (by rw[<-fu];exact A) (by rw[<-fu];exact l),hi.gl.keep hE⟩;by_cases e:m=n
  ·subst e;rw[nC]at L;cases L
   exact⟨hZ,hS,C,R,Rl,W.keep (λ_ _ h=>h) jc⟩
  ·rw[fy m e]at L;have cX:∀b,cr h G m=some b->b≠G.bg n:=λb t eb=>e (hi.inj m n b t (by rw[eb];exact mK));exact fb.keep (hi.lt L) hE (Zv _) ⟨rfl,rfl,rfl⟩ (λb t=>⟨jV b (cX _ ((eG L).trans t)),λo h=>h⟩) (hi.dM m B L)
 rcases MapKept.findNow_spec (vp (s:=s)) es.toList 0 qb with⟨A,l⟩|⟨j,e0,A,l,h3⟩
 ·have W:vU G.S w (es.push ⟨.string s,v,clock⟩) (clock+1) ((s,d)::g):=by
   refine⟨by have:=c.len;simp;omega,MapKept.stamped_push c.stamped l,λx f=> ?_,λu E F=> ?_,by have:=c.len;simp;omega,λi e p=> ?_,by rw[c.IC];simp⟩
   ·simp only[Array.toList_push,ZN,af]at f;rcases f with f|rfl
    ·obtain⟨u,E,k1,k2,k3⟩:=c.Cd x f;refine⟨u,E,k1,?_,k3⟩;rw[BP,ae (λe=>l x f (by rw[k1,e]))];exact k2
    ·exact⟨s,d,rfl,by rw[BP,ab rfl],hv⟩
   ·rw[BP]at F;simp only[Array.toList_push,ZN,af];split at F
    ·next e=>subst e;exact⟨_,.inr rfl,rfl⟩
    ·obtain⟨x,f,q⟩:=c.all u E F;exact⟨x,.inl f,q⟩
   ·rw[Array.getElem?_push]at p;split at p
    ·next ei=>cases p;rw[ei];exact c.IC
    ·exact c.born i e p
  obtain⟨f1,f2⟩:=M _ _ _ rfl W;refine⟨_,?_,f1,f2⟩;simp [Instr.mapUpdate,run_underlying (EX hT),MapKept.run_getObj_map H,MapKept.run_checkKey oS vp,MapKept.run_findKey oS A,MapKept.run_setObj_map _ H,Result.andThen,ChangeMaps.setBlock]
 ·have hj:es[j]?=some e0:=by simpa using l
  have B3:j<es.toList.length:=(Zo.1 l).1;have arh:∀e',es[j]?=some e'->({e' with key:= .string s,val:=v}:MapEntry).key=e'.key:=λe' nR=>by rw[hj]at nR;cases nR;exact h3.symm
  have Oi:(es.modify j (λe'=>{e' with key:= .string s,val:=v})).toList=es.toList.set j {e0 with key:= .string s,val:=v}:=by
   rw[Array.toList_modify];exact ChangeMaps.modify_eq_set _ _ _ _ l
  have k8:(es.toList.map (·.key)).Nodup:=c.stamped.2.2;have W:vU G.S w (es.modify j (λe'=>{e' with key:= .string s,val:=v})) clock ((s,d)::g):=by
   refine⟨by simpa using c.size,MapKept.stamped_modify c.stamped _ _ (λ_ _=>rfl) (λe' _ nR=>arh e' nR),λx f=> ?_,λu E F=> ?_,by have:=c.len;simp;omega,λi e p=> ?_,by rw[c.IC];simp⟩
   ·rw[Oi]at f;obtain⟨i,e8,y⟩:=List.getElem_of_mem f;rw[List.getElem_set]at y;split at y
    ·rw[<-y];exact⟨s,d,rfl,by rw[BP,ab rfl],hv⟩
    ·next cX=>
     have l4:i<es.toList.length:=by simpa using e8
     have oy:x∈es.toList:=by rw[<-y];exact List.getElem_mem l4
     obtain⟨u,E,k1,k2,k3⟩:=c.Cd x oy;refine⟨u,E,k1,?_,k3⟩;rw[BP,ae ?_];{exact k2}
     ·intro C;have a1:(es.toList.map (·.key))[i]?=some (.string s):=by rw[Zs,Ze l4,y];simp [k1,C]
      have a2:(es.toList.map (·.key))[j]?=some (.string s):=by rw[Zs,l];simp [h3]
      have hii:i<(es.toList.map (·.key)).length:=by simpa using l4
      exact cX ((List.getElem?_inj hii k8).1 (a1.trans a2.symm)).symm
   ·rw[Oi];rw[BP]at F;split at F
    ·next e=>subst e;exact⟨_,List.mem_iff_getElem?.2 ⟨j,ZC B3⟩,rfl⟩
    ·next cX=>
     obtain⟨x,f,q⟩:=c.all u E F;obtain⟨i,e8,y⟩:=List.getElem_of_mem f;refine⟨x,aj.2 ⟨i,by simpa using e8,?_⟩,q⟩;rw[List.getElem_set];split
     ·next e=>
      subst e;exfalso;have:es.toList[j]?=some x:=by rw[Ze e8,y]
      rw[this]at l;cases l
      rw[h3]at q;injection q with q;exact cX q
     ·exact y
   ·rw[Array.getElem?_modify]at p;split at p
    ·next ei=>
     subst ei;rw[hj]at p;cases p
     exact c.born _ e0 hj
    ·exact c.born i e p
  obtain⟨f1,f2⟩:=M _ _ _ rfl W;refine⟨_,?_,f1,f2⟩;simp [Instr.mapUpdate,run_underlying (EX hT),MapKept.run_getObj_map H,MapKept.run_checkKey oS vp,MapKept.run_findKey oS A,hj,h3,MapKept.run_keyThatStays vp,MapKept.run_setObj_map _ H,Result.andThen,ChangeMaps.setBlock]
end
set_option linter.unusedVariables false
set_option linter.unusedSimpArgs false
section
variable {P:dg} {G:Gh} {w:Zy} {h:I ar}
def NX{w':Zy}(hi:cu G w h){n:Nat}{B B':ar}(y:h[n]?=some B)(M:∀G':Gh,B.eZ G' n=G'.ow n)(R:∀G':Gh,B'.eZ G' n=G'.ow n)(S:Nat->Nat->Prop)(v:kd)(len:Nat)(ow:U Nat)
 (t:cq G.N G w (G.grow n S v len ow) w') (k:∀g,ow=some g->(g=w.heap.size\/G.ow n=some g)/\g<w'.heap.size)
 (A:∀b o,S b o->G.S b o\/ow=some b) (T:∀b,b<w.heap.size->ow≠some b->w'.heap[b]?=w.heap[b]?)
 (W:fb (G.grow n S v len ow) w' n B'):cu (G.grow n S v len ow) w' (h.set n B'):=by
 have E:∀m,m≠n->(h.set n B')[m]?=h[m]?:=λm c=>by rw[ZD (Ne.symm c)]
 have F:(h.set n B')[n]?=some B':=by rw[ZC (Zo.1 y).1]
 have mv:∀m(C:ar),m≠n->C.eZ (G.grow n S v len ow) m=C.eZ G m:=λm C c=>by
  cases C<;>simp [ar.eZ,Gh.grow,c]
 have u:∀m,m≠n->cr (h.set n B') (G.grow n S v len ow) m=cr h G m:=λm c=>by
  unfold cr;rw[E m c];cases h[m]? with
  |none=>rfl
  |some C=>exact mv m C c
 have H:cr (h.set n B') (G.grow n S v len ow) n=ow:=by rw[eG F,R];simp [Gh.grow]
 have x:∀m b,m≠n->ow=some b->cr h G m≠some b:=λm b c ho e=>by
  rcases (k b ho).1 with k|k
  ·have:=hi.iO e;omega
  ·exact c (hi.inj m n b e ((eG y).trans ((M G).trans k)))
 refine⟨by rw[ZJ];exact hi.len,λb e=>ZU (hi.z b e) t.size,λb o d=> ?_,λm C c=> ?_,λm l b f i=> ?_,hi.gl.keep t⟩
 ·rcases A b o d with d|d
  ·exact ZU (hi.S b o d) t.size
  ·exact(k b d).2
 ·by_cases j:m=n
  ·subst j;rw[F]at c;cases c;exact W
  ·rw[E m j]at c;refine fb.keep (hi.lt c) t (Zv _) ⟨by simp [Gh.grow,j],by simp [Gh.grow,j],by simp [Gh.grow,j]⟩ (λb e=> ?_) (hi.dM m C c);have J:cr h G m=some b:=(eG c).trans e;have L:ow≠some b:=λe'=>x m b j e' J;refine⟨T _ (hi.iO J) L,λo kE d=> ?_⟩;rcases A _ o d with d|d
   ·exact kE d
   ·exact L d
 ·by_cases p:m=n<;>by_cases q:l=n
  ·rw[p,q]
  ·subst p;rw[u l q]at i;rw[H]at f;exact absurd i (x l b q f)
  ·subst q;rw[u m p]at f;rw[H]at i;exact absurd f (x m b p i)
  ·rw[u m p]at f;rw[u l q]at i;exact hi.inj m l b f i
def Gh.fV(G:Gh)(v:kd)(len:Nat)(ow:U Nat):Gh:={G with N:=G.N+1,sg:=λn=>if n=G.N then v else G.sg n,fl:=λn=>if n=G.N then len else G.fl n,ow:=λn=>if n=G.N then ow else G.ow n}
def QL{w':Zy}(hi:cu G w h)(B:ar)(x:∀(G':Gh) n,B.eZ G' n=G'.ow n)(v:kd)(len:Nat)(e:U Nat)(f:(∀b,b<w.heap.size->w'.heap[b]?=w.heap[b]?)/\w.heap.size<=w'.heap.size/\w'.os=w.os/\w'.tape=w.tape/\w'.output=w.output)
 (how:∀g,e=some g->w.heap.size<=g)
 (y:fb (G.fV v len e) w' G.N B):cq G.N G w (G.fV v len e) w'/\cu (G.fV v len e) w' (h++[B]):=by
 have j:∀n,n<G.N->n≠G.N:=λn c=>Nat.ne_of_lt c;have t:cq G.N G w (G.fV v len e) w':=⟨f.2.1,λ_ _ h=>h,λb o u=>World.cell?_of_block (f.1 b (hi.S b o u)),λ_ _=>rfl,λn c=>.inl ⟨by simp [Gh.fV,j n c],by simp [Gh.fV,j n c]⟩,iX rfl,λb d=>f.1 b (hi.z b d),f.2.2.1,f.2.2.2.1,f.2.2.2.2,λ_ _ h=>.inl h⟩;have A:G.N<=(G.fV v len e).N:=ba _;have E:∀n(C:ar),n<G.N->C.eZ (G.fV v len e) n=C.eZ G n:=λn C c=>by
  cases C<;>simp [ar.eZ,Gh.fV,Nat.ne_of_lt c]
 have k:∀n b,cr (h++[B]) (G.fV v len e) n=some b->(n<G.N/\cr h G n=some b)\/(n=G.N/\e=some b):=λn b d=>by
  by_cases c:n<h.length;{unfold cr at d;rw[ZX c,Ze c]at d;exact .inl ⟨hi.len▸c,by unfold cr;rw[Ze c,<-d];exact(E n _ (hi.len▸c)).symm⟩}
  ·by_cases F:n=h.length
   ·subst F;rw[eG (B:=B) (by simp),x]at d;exact .inr ⟨hi.len,by simpa [Gh.fV,hi.len]using d⟩
   ·rw[wX (Z9 (by simp;omega))]at d;cases d
 refine⟨t,by simp [Gh.fV,hi.len],λb d=>ZU (hi.z b d) f.2.1,λb o u=>ZU (hi.S b o u) f.2.1,λn C i=> ?_,λm n b H J=> ?_,hi.gl.keep t⟩
 ·by_cases c:n<h.length
  ·rw[ZX c]at i;have l:n<G.N:=hi.len▸c;exact fb.keep l t A ⟨by simp [Gh.fV,j n l],by simp [Gh.fV,j n l],by simp [Gh.fV,j n l]⟩ (λb d=>⟨f.1 b (hi.iO ((eG i).trans d)),λo h=>h⟩) (hi.dM n C i)
  ·have L:n=h.length:=by
    have:=(Zo.1 i).1;simp at this;omega
   subst L;simp at i;subst i;rw[hi.len];exact y
 ·rcases k m b H with⟨_,p⟩|⟨rfl,p⟩<;>rcases k n b J with⟨_,q⟩|⟨rfl,q⟩
  ·exact hi.inj m n b p q
  ·have:=hi.iO p;have:=how b q;omega
  ·have:=hi.iO q;have:=how b p;omega
  ·rfl
def aQ.xe{n o len L k:Nat}{e:TypeId}{cs:I (I AV)}{u:kd}(hi:cu G w h)(b:h[n]?=some (.vec e k cs))(c:cs.length=L)(d:aQ G w u (.vec n o len L k)):YZ (G.sg n) u o len L k:=by
 have f:=(hi.dM n _ b).1;cases d with|vec _ _ _ _ _ i j l g=>exact g (by rw[<-c,f])
def aQ.ad9{n i j L k:Nat}{e:TypeId}{b:Nat}{cs:I (I AV)}{u:kd}(hi:cu G w h)(c:h[n]?=some (.vec e b cs))(d:cs.length=L)(f:aQ G w u (.eH n i j L k)):Yk (G.sg n) u i j L k:=by
 have g:=(hi.dM n _ c).1;cases f with|eH _ _ _ _ _ m p q l=>exact l (by rw[<-d,g])
def Gq{n:Nat}{e k:Nat}{cs:I (I AV)}(hi:cu G w h)(d:h[n]?=some (.vec e k cs))(f:cs≠ []):∃(g cap:Nat)(cur:Array kd),G.ow n=some g/\G.sg n= .slice (some ⟨g,0,none⟩) cs.length cap/\¬G.Z g/\w.heap[g]?=some (.cells cur e (0,0))/\cs.length<=cap/\cap<=maxLen/\cur.size=cap*k/\(∀o,¬G.S g o)/\
        ∀(i j:Nat)(c:I AV)(x:AV)(u:kd),cs[i]?=some c->c[j]?=some x->cur[i*k+j]?=some u->aQ G w u x:=by
 obtain⟨_,_,_,b|b⟩:=hi.dM n _ d;{exact absurd b.2.1 f};{exact b}
def HT{n:Nat}{e k:Nat}{cs:I (I AV)}(hi:cu G w h)(b:h[n]?=some (.vec e k cs)):∀c∈cs,c.length=k:=(hi.dM n _ b).2.2.1
def oh{i k L j:Nat}(hi:i<L)(b:j<k):i*k+j<L*k:=by
 have:(i+1)*k<=L*k:=XL k hi;rw[YF]at this;omega
def Pj{i k j:Nat}(b:j<k):(i*k+j)/ k=i/\(i*k+j)%k=j:=by
 have c:0<k:=by omega
 exact⟨by rw[Nat.add_comm,Nat.add_mul_div_right _ _ c,Nat.div_eq_of_lt b,ZQ],by rw[Nat.add_comm,Nat.add_mul_mod_self_right,Nat.mod_eq_of_lt b]⟩
def aka{i i' j j' k:Nat}(d:j<k)(f:j'<k)(e:i*k+j=i'*k+j'):i=i'/\j=j':=by
 have b:=Pj (i:=i) d;have c:=Pj (i:=i') f;exact⟨by rw[<-b.1,<-c.1,e],by rw[<-b.2,<-c.2,e]⟩
def am4{t n i j L k:Nat}{e:TypeId}{cs:I (I AV)}{c:I AV}{x:AV}{v:kd}(hi:cu G w h)(d:h[n]?=some (.vec e k cs))(H:cs.length=L)(f:cs[i]?=some c)(b:RI P t c j=some x)(J:aQ G w v (.eH n i j L k)):
 ∃u,(Instr.loadAt t v).run P w= .ok u w/\aQ G w u x:=by
 have l:i<cs.length:=(Zo.1 f).1;have YD:c.length=k:=HT hi d c (ZY f);obtain⟨g,M,cur,r1,N,r3,R,z,r6,A,r8,S⟩:=Gq hi d (λe=>by subst e;simp at l);obtain⟨_,g',Fz,B,T⟩:=J.ad9 hi d H;rw[N]at B;cases B
 have W:∀q,q<c.length->w.cell? ⟨g,i*k+q,none⟩=some (cur.getD (i*k+q) undef):=λq m=>by
  rw[cell_of_row w g _ cur e (0,0) R];have:i*k+q<cur.size:=by
    rw[A];exact ZU (oh l (by omega)) (XL k z)
  simp [Array.getD,this]
 have h2:∀(q:Nat)(y:AV),c[q]?=some y->aQ G w (cur.getD (i*k+q) undef) y:=λq y m=>by
  have Uk:=(Zo.1 m).1;have aV:i*k+q<cur.size:=by
   rw[A];exact ZU (oh l (by omega)) (XL k z)
  have e1:cur[i*k+q]?=some (cur.getD (i*k+q) undef):=by simp [Array.getD,aV]
  exact S i q c y _ f m e1
 have p:=XD (P:=P) (G:=G) (w:=w) (t:=t) (C:=(·=x)) g (i*k) c j (λq=>cur.getD (i*k+q) undef) W h2 (by
  unfold RI at b;revert b;cases nE P t with
  |none=>intro b;cases b
  |some E=>
   cases ic P t with
   |none=>cases E<;>(intro b;cases b)
   |some kk=>
    cases E with
    |true=>
     simp only;intro b;cases F:cP (j+kk) c.length with
     |false=>rw[F]at b;cases b
     |true=>rw[F]at b;cases b;exact rfl
    |false=>
     simp only;intro b;rw[b])
 obtain⟨u,y,k1,k2,rfl⟩:=p;refine⟨u,?_,k2⟩;rw[T];simp [Instr.loadAt,Instr.sureAddr,k1]
def aio{t b off k:Nat}{T:TypeId}{v:kd}{c:Array kd}(f:w.heap[b]?=some (.cells c T (0,0)))(g:ic P t=some k)(d:v.cells.size=k)(j:∀u∈v.cells.toList,u.oneCell'=true)(l:off+k<=c.size):
 (storeVar t ⟨b,off,none⟩ v).run P w= .ok () (w.setRow b (c.toList.take off++v.cells.toList++c.toList.drop (off+v.cells.toList.length)).toArray):=by
 obtain⟨i,m,p⟩:=Yc g;have e:=run_storeCells_at P b off T v.cells.toList 0 c w f (by rw[ZB,d];simpa using l) j;simp only[Nat.add_zero]at e;unfold storeVar;simp only[sizeOf,typeInfo,Sem.run_bind,d];simp [m,p,e]
def ZA(vs:Array kd)(us:I kd)(off q:Nat)(d:off+us.length<=vs.size):(vs.toList.take off++us++vs.toList.drop (off+us.length)).toArray[q]?=if off<=q/\q<off+us.length then us[q-off]? else vs[q]?:=by
 rw[List.getElem?_toArray,ZR];have b:vs.toList.length=vs.size:=ZB;by_cases c:q<off;{rw[ZX (by simp;omega),List.getElem?_take_of_lt c,ae (by omega),ZP]}
 ·rw[ZI (by simp;omega)];simp only[ao,b];rw[Nat.min_eq_left (by omega)];by_cases e:q<off+us.length
  ·rw[ZX (by omega),ab (by omega)]
  ·rw[ZI (by omega),List.getElem?_drop,ae (by omega),show off+us.length+(q-off-us.length)=q by omega,ZP]
def YM(vs:Array kd)(us:I kd)(off:Nat)(b:off+us.length<=vs.size):(vs.toList.take off++us++vs.toList.drop (off+us.length)).toArray.size=vs.size:=by
 simp only[List.size_toArray,Zk,ao,b9,ZB];omega
def ajH(cs ys:I AV)(off q:Nat)(c:off+ys.length<=cs.length):(jK cs off ys)[q]?=if off<=q/\q<off+ys.length then ys[q-off]? else cs[q]?:=by
 unfold jK;rw[ZR];by_cases b:q<off;{rw[ZX (by simp;omega),List.getElem?_take_of_lt b,ae (by omega)]}
 ·rw[ZI (by simp;omega)];simp only[ao];rw[Nat.min_eq_left (by omega)];by_cases d:q<off+ys.length
  ·rw[ZX (by omega),ab (by omega)]
  ·rw[ZI (by omega),List.getElem?_drop,ae (by omega),show off+ys.length+(q-off-ys.length)=q by omega]
def YL{n e k g cap:Nat}{cs cM:I (I AV)}{cur:Array kd}{us:I kd}{off:Nat}(hi:cu G w h)(A:h[n]?=some (.vec e k cs))(gD:0<k)(L:G.ow n=some g)(M:G.sg n= .slice (some ⟨g,0,none⟩) cs.length cap)(B:¬G.Z g)(C:w.heap[g]?=some (.cells cur e (0,0)))(R:cs.length<=cap)(T:cap<=maxLen)(W:cur.size=cap*k)(E:∀o,¬G.S g o)
 (l:off+us.length<=cur.size) (q:cM.length=cs.length) (j7:∀c∈cM,c.length=k)
 (AX:∀(i j:Nat)(c:I AV)(x:AV)(u:kd),cM[i]?=some c->c[j]?=some x->(if off<=i*k+j/\i*k+j<off+us.length then us[i*k+j-off]? else cur[i*k+j]?)=some u->aQ G w u x):
 ∃G',cq G.N G w G' (w.setRow g (cur.toList.take off++us++cur.toList.drop (off+us.length)).toArray)/\G'.N=G.N/\cu G' (w.setRow g (cur.toList.take off++us++cur.toList.drop (off+us.length)).toArray) (h.set n (.vec e k cM))/\(∀m,G'.sg m=G.sg m)/\(∀m,G'.fl m=G.fl m):=by
 obtain⟨w',f⟩:∃w',w'=w.setRow g (cur.toList.take off++us++cur.toList.drop (off+us.length)).toArray:=⟨_,rfl⟩;rw[<-f];have t:∀b,b≠g->w'.heap[b]?=w.heap[b]?:=λb l=>by rw[f];exact setRow_other w g b _ l
 have pY:w'.heap[g]?=some (.cells (cur.toList.take off++us++cur.toList.drop (off+us.length)).toArray e (0,0)):=by rw[f];exact setRow_heap w g cur _ e _ C
 have F:w'.heap.size=w.heap.size:=by rw[f];exact Qf w g _
 obtain⟨G',d⟩:∃G',G'=G.grow n G.S (G.sg n) (G.fl n) (some g):=⟨_,rfl⟩;have v:∀m,G'.sg m=G.sg m:=λm=>by rw[d];simp only[Gh.grow];split<;>simp_all
 have y:∀m,G'.fl m=G.fl m:=λm=>by rw[d];simp only[Gh.grow];split<;>simp_all
 have z:cq G.N G w G' w':=⟨by rw[F];exact Zv _,λb o h=>by rw[d];exact h,λb o p=>World.cell?_of_block (t b (λe=>E o (e▸p))),λ_ _=>by rw[d];rfl,λm _=>.inl ⟨y m,v m⟩,iX (by rw[d];rfl) (by rw[d];rfl),λb l=>t b (λe=>B (e▸l)),by rw[f];rfl,by rw[f];rfl,by rw[f];rfl,λb o p=>.inl (by rw[d]at p;exact p)⟩;have H:=hi.dM n _ A;refine⟨G',z,by rw[d];rfl,?_,v,y⟩;subst d;refine NX hi A (λ_=>rfl) (λ_=>rfl) _ _ _ _ z (λg' uH=> ?_) (λb o p=>.inl p) (λb _ im=>t b (λe=>im (by rw[e]))) ?_;{cases uH;exact⟨.inr L,by rw[F];exact(ZT.1 C).1⟩};{refine⟨by rw[y,q];exact H.1,by rw[q];exact H.2.1,j7,.inr ⟨g,cap,_,by simp [Gh.grow],by rw[v,q];exact M,B,pY,by rw[q];exact R,T,by rw[YM _ _ _ l];exact W,E,λi j c x u hc hx J=> ?_⟩⟩;rw[ZA _ _ _ _ l]at J;exact(AX i j c x u hc hx J).keep z (Zv _)}
def ate{t n i j L k:Nat}{e:TypeId}{cs:I (I AV)}{c:I AV}{x:AV}{v u:kd}(hi:cu G w h)(B:h[n]?=some (.vec e k cs))(hL:cs.length=L)(C:cs[i]?=some c)(hv:aQ G w v (.eH n i j L k))(hx:aQ G w u x)(VJ:x.kT=true)(ht:ic P t=some x.cells.length)(hj:j+x.cells.length<=k)(gD:0<k):
 ∃w' G',(Instr.storeAt t v u).run P w= .ok () w'/\cq G.N G w G' w'/\G.N<=G'.N/\cu G' w' (h.set n (.vec e k (cs.set i (jK c j x.cells)))):=by
 have A:i<cs.length:=(Zo.1 C).1;have E:=HT hi B;have YD:c.length=k:=E c (ZY C);obtain⟨g,F,cur,r1,M,r3,R,S,r6,T,r8,W⟩:=Gq hi B (λe=>by subst e;simp at A);obtain⟨_,g',Fz,p1,p2⟩:=hv.ad9 hi B hL;rw[M]at p1;cases p1
 obtain⟨H,c2⟩:=hx.cells VJ;have qt:u.cells.toList.length=x.cells.length:=by rw[ZB,H]
 have jg:∀y∈u.cells.toList,y.oneCell'=true:=λy f=>by
  obtain⟨q,p⟩:=List.mem_iff_getElem?.1 f;have Uk:u.cells[q]?=some y:=by rw[<-ZP];exact p
  have J:q<x.cells.length:=by rw[<-H];exact(ZT.1 Uk).1
  exact(c2 q y _ Uk (Ze J)).2
 have nX:i*k+j+x.cells.length<=cur.size:=by
  have h1:(i+1)*k<=F*k:=XL k (ZU A S);rw[YF]at h1;rw[T];omega
 have eI:=aio (P:=P) (off:=i*k+j) R ht H jg nX;obtain⟨G',e1,e2,e3,_⟩:=YL (us:=u.cells.toList) (off:=i*k+j) (cM:=cs.set i (jK c j x.cells)) hi B gD r1 M r3 R S r6 T r8 (by rw[qt];exact nX) (by rw[ZJ]) (λd l=>by
     obtain⟨q,p⟩:=List.mem_iff_getElem?.1 l;by_cases e:i=q
     ·subst e;rw[ZC A]at p;cases p
      rw[Hw _ _ _ (by omega)];exact YD
     ·rw[ZD e]at p;exact E d (ZY p)) (λa b d y z l f m=>by
     have kg:b<k:=by
      by_cases e:i=a
      ·subst e;rw[ZC A]at l;cases l
       have:=(Zo.1 f).1;rw[Hw _ _ _ (by omega)]at this;omega
      ·rw[ZD e]at l;rw[<-E d (ZY l)];exact(Zo.1 f).1
     rw[qt]at m;by_cases e:i=a
     ·subst e;rw[ZC A]at l;cases l
      rw[ajH _ _ _ _ (by omega)]at f;by_cases hb:j<=b/\b<j+x.cells.length;{rw[ab hb]at f;rw[ab (by omega),show i*k+b-(i*k+j)=b-j by omega,ZP]at m;exact(c2 _ _ _ m f).1};{rw[ae hb]at f;rw[ae (by omega)]at m;exact W i b c y z C f m}
     ·rw[ZD e]at l;rw[ae ?_]at m
      ·exact W a b d y z l f m
      ·intro hh;have:a*k+b=i*k+(a*k+b-i*k):=by omega
       exact e ((aka (i:=a) (i':=i) (j:=b) (j':=a*k+b-i*k) kg (by omega) this).1.symm))
 refine⟨_,G',?_,e1,by rw[e2];exact Zv _,e3⟩;rw[p2];simp [Instr.storeAt,Instr.sureAddr,eI]
end
section
variable {P:dg} {G:Gh} {w:Zy} {h:I ar}
structure Qn(G:Gh)(w:World)(k:Nat)(ys:List (List AV))(us:List Value):Prop where
 len:us.length=ys.length*k
 wid:∀c∈ys,c.length=k
 one:∀u∈us,u.oneCell'=true
 rel:∀(i j:Nat)(c:List AV)(x:AV)(u:Value),ys[i]?=some c->c[j]?=some x->us[i*k+j]?=some u->aQ G w u x
def Tk{k tx e':Nat}{y:AV}{v:kd}{ys:I (I AV)}(hi:cu G w h)(hv:aQ G w v y)(hs:BY h k y ys)(gD:0<k)(B:P.underlying tx=some (.slice e')):
 ∃us,Qn G w k ys us/\Src P k tx v ys.length us w:=by
 rcases hs with⟨xs,E,p,rfl⟩|⟨n,o,len,L,e,F,rfl,p,H,J,h5⟩
 ·obtain⟨us,M,x6⟩:=(hv.list E).src gD p B;have hl:(cg xs).length=xs.length:=by unfold cg;rw[Zu]
  refine⟨us,⟨by rw[hl];exact M.len,λc f=> ?_,M.one,λi j c x u f l b=> ?_⟩,by rw[hl];exact x6⟩;{unfold cg at f;obtain⟨d,hd,rfl⟩:=UU.1 f;rw[Zu];exact p d hd}
  ·unfold cg at f;rw[Zs]at f;cases N:xs[i]? with
   |none=>rw[N]at f;cases f
   |some d=>
    rw[N]at f;cases f
    rw[Zs]at l;cases R:d[j]? with
    |none=>rw[R]at l;cases l
    |some z=>
     rw[R]at l;cases l
     obtain⟨u',a1,a2⟩:=M.rel i j d z N R;rw[a1]at b;cases b
     exact .d a2
 ·have t:=hv.xe hi p H;obtain⟨A,c,rfl,c1,c2,c3,c4⟩:=t.sl;have C:ys.length=len:=by rw[J,ao,b9,H];have:=t.ol;omega
  by_cases h0:len=0
  ·subst h0;have:ys=[]:=V1 C;subst this;refine⟨[],⟨by simp,(λ_ h=>by cases h),(λ_ h=>by cases h),λi j c x u f=>by simp at f⟩,?_⟩;cases A with
   |none=>exact Src.ofNil w B c
   |some a=>exact Src.ofSlice w B a 0 c [] (by simp) (λj u b=>by simp at b) (λu b=>by cases b)
  ·have ho:o<L:=by have:=t.ol;omega
   obtain⟨g,S,p1,rfl,p3⟩:=c4 ho;have cX:F≠ []:=λe=>by subst e;simp at H;omega
   obtain⟨g',Fz,cur,r1,r2,r3,r4,r5,r6,r7,r8,r9⟩:=Gq hi p cX;rw[r2]at p1;cases p1
   have T:=HT hi p;have W:∀q,q<len*k->o*k+q<cur.size:=λq m=>by
    have E:(o+len)*k<=S*k:=XL k (by have:=t.ol;omega);rw[YF]at E;rw[r7];omega
   have kX:∀i,i<len->ys[i]?=F[o+i]?:=λi e8=>by rw[J,List.getElem?_take_of_lt e8,List.getElem?_drop]
   have jg:∀q,q<len*k->(cur.getD (o*k+q) undef).oneCell'=true:=λq m=>by
    have TD:q / k<len:=Nat.div_lt_of_lt_mul (by rw[Nat.mul_comm];exact m);have hkj:q%k<k:=Nat.mod_lt _ gD;obtain⟨d,iH⟩:∃d,F[o+q / k]?=some d:=⟨_,Ze (by have:=t.ol;omega)⟩;have HW:=T _ (ZY iH);obtain⟨x,l⟩:∃x,d[q%k]?=some x:=⟨_,Ze (by rw[HW];exact hkj)⟩;have e1:(o+q / k)*k+q%k=o*k+q:=by
     rw[YF];have:=Nat.div_add_mod q k;rw[Nat.mul_comm]at this;omega
    have hu':cur[(o+q / k)*k+q%k]?=some (cur.getD (o*k+q) undef):=by
     rw[e1];simp [Array.getD,W q m]
    refine(r9 _ _ _ _ _ iH l hu').lF ?_;have kG:d∈ys:=ZY ((kX _ TD).trans iH);have:=h5 _ kG;rw[Zd]at this;exact this _ (ZY l)
   refine⟨(List.range (len*k)).map λq=>cur.getD (o*k+q) undef,⟨by rw[C];simp,λc f=>T c ?_,λu b=> ?_,λi j c x u f l b=> ?_⟩,?_⟩;{rw[J]at f;exact a7 (List.mem_of_mem_take f)};{obtain⟨q,m,rfl⟩:=UU.1 b;exact jg q (List.mem_range.1 m)}
   ·have kQ:i<len:=by rw[<-C];exact(Zo.1 f).1
    rw[kX i kQ]at f;have LJ:j<k:=by rw[<-T c (ZY f)];exact(Zo.1 l).1
    have aV:i*k+j<len*k:=oh kQ LJ;rw[Zs,List.getElem?_range aV]at b;simp only[a6,UW]at b;refine r9 (o+i) j c x u f l ?_;rw[<-b,show(o+i)*k+j=o*k+(i*k+j) by rw[YF];omega];simp [Array.getD,W _ aV]
   ·rw[C];refine Src.ofSlice w B _ len c _ (by simp) (λj u b=> ?_) (λu b=> ?_)
    ·rw[mS,cell_of_row w g _ cur e (0,0) r4];rw[Zs]at b;by_cases hj:j<len*k
     ·rw[List.getElem?_range hj]at b;simp only[a6,UW]at b;rw[<-b];simp [Array.getD,W _ hj]
     ·rw[Z9 (by simp;omega)]at b;cases b
    ·obtain⟨q,m,rfl⟩:=UU.1 b;exact jg q (List.mem_range.1 m)
def aiW{α:Type}{k:Nat}(l:I α)(us:I α)(m i j:Nat)(b:l.length=m*k)(c:j<k):(l++us)[i*k+j]?=if i<m then l[i*k+j]? else us[(i-m)*k+j]?:=by
 by_cases h:i<m;{rw[ab h,ZX (by rw[b];exact oh h c)]};{have d:m*k<=i*k:=XL k (by omega);rw[ae h,ZI (by rw[b];omega),b,Nat.sub_mul,show i*k+j-m*k=i*k-m*k+j by omega]}
def Vs{e k cap:Nat}{cs:I (I AV)}{cur:Array kd}(hi:cu G w h)(h1:cs.length<=cap)(q:cap<=maxLen)(C:cur.size=cap*k)(E:∀c∈cs,c.length=k)(w0:Zy)(f:w0.heap=w.heap/\w0.os=w.os/\w0.tape=w.tape/\w0.output=w.output)
 (F:∀(i j:Nat)(c:I AV)(x:AV)(u:kd),cs[i]?=some c->c[j]?=some x->cur[i*k+j]?=some u->aQ G w u x):
 ∃G',cq G.N G w G' (w0.alloc (.cells cur e))/\G.N<=G'.N/\cu G' (w0.alloc (.cells cur e)) (h++[.vec e k cs])/\∀len,len<=cs.length->aQ G' (w0.alloc (.cells cur e)) (.slice (some ⟨w.heap.size,0,none⟩) len cap) (.vec h.length 0 len cs.length k):=by
 have t:w0.heap.size=w.heap.size:=by rw[f.1]
 have H:(w0.alloc (.cells cur e)).heap[w.heap.size]?=some (.cells cur e (0,0)):=by rw[<-t];exact World.alloc_heap_new w0 _
 have l:∀b,b<w.heap.size->(w0.alloc (.cells cur e)).heap[b]?=w.heap[b]?:=λb v=>by rw[Below.heap_alloc w0 _ b (by rw[t];exact v),f.1]
 have d:(∀b,b<w.heap.size->(w0.alloc (.cells cur e)).heap[b]?=w.heap[b]?)/\w.heap.size<=(w0.alloc (.cells cur e)).heap.size/\(w0.alloc (.cells cur e)).os=w.os/\(w0.alloc (.cells cur e)).tape=w.tape/\(w0.alloc (.cells cur e)).output=w.output:=
  ⟨l,by simp [t],f.2.1,f.2.2.1,f.2.2.2⟩
 obtain⟨p,y⟩:∃p,p=Value.slice (some ⟨w.heap.size,0,none⟩) cs.length cap:=⟨_,rfl⟩;obtain⟨J,_⟩:cq G.N G w (G.fV p cs.length (some w.heap.size)) (w0.alloc (.cells cur e))/\True:=by
  refine⟨⟨d.2.1,λ_ _ h=>h,λb o A=>World.cell?_of_block (d.1 b (hi.S b o A)),λ_ _=>rfl,λn B=>.inl ⟨by simp [Gh.fV,Nat.ne_of_lt B],by simp [Gh.fV,Nat.ne_of_lt B]⟩,iX rfl,λb v=>d.1 b (hi.z b v),d.2.2.1,d.2.2.2.1,d.2.2.2.2,λ_ _ h=>.inl h⟩,trivial⟩
 obtain⟨L,M⟩:=QL (w':=w0.alloc (.cells cur e)) hi (.vec e k cs) (λ_ _=>rfl) p cs.length (some w.heap.size) d (λg R=>by cases R;exact Zv _) (by
  refine⟨by simp [Gh.fV],Zc h1 q,E,.inr ⟨w.heap.size,cap,cur,by simp [Gh.fV],by simp [Gh.fV,y],λT=>Z4 _ (hi.z _ T),H,h1,q,C,λo A=>Z4 _ (hi.S _ _ A),λi j c x u W hx hu=>(F i j c x u W hx hu).keep J (ba _)⟩⟩)
 refine⟨_,L,ba _,M,λlen m=> ?_⟩;rw[hi.len];refine .vec G.N 0 len cs.length k (by simp [Gh.fV]) ⟨_,_,_,rfl⟩ (by simp [Gh.fV]) λ_=>⟨by omega,⟨_,_,rfl,Zc m h1,q,h1,λ_=>⟨w.heap.size,cap,by simp [Gh.fV,y],by simp,by simp⟩⟩,λ_ e=>by subst e;simp [Gh.fV,y]⟩
def akd{T e k len m dy:Nat}{i:TypeInfo}{z:kd}{kl kc:IntKind}{l c:Int}(hi:cu G w h)(L:P.underlying T=some (.slice e))(M:P.info? e=some i)(R:i.zero=some z)(S:i.size=k)(W:i.bytes=dy)(t:z.cells.toList.length=k)(gD:0<k)
 (h0:0<=l) (mG:l<=c) (E:l.toNat=len) (f:c.toNat=m) (F:m<=maxLen) (hb:dy*m<=281474976710656):
 ∃u w' G',(Instr.makeSlice T (.int kl l) (.int kc c)).run P w= .ok u w'/\cq G.N G w G' w'/\G.N<=G'.N/\cu G' w' (h++[.vec e k (List.replicate m (z.cells.toList.map λu=>.d (.v u)))])/\aQ G' w' u (.vec h.length 0 len m k):=by
 subst S;subst W;have im:(i.bytes:Int)*c<=281474976710656:=by
  have:((i.bytes*m:Nat):Int)<=281474976710656:=by omega
  rw[Int.natCast_mul,<-f,Int.toNat_of_nonneg (by omega)]at this;exact this
 have A:c<=9223372036854775807:=by have h:=F;simp [maxLen]at h;omega
 have H:=run_make (P:=P) w T e i z L M R kl kc l c h0 mG im A;rw[E,f]at H;have B:(List.replicate m (z.cells.toList.map λu=>AV.d (.v u))).length=m:=Yq;obtain⟨G',g1,g2,g3,J⟩:=Vs (e:=e) (k:=i.size) (cap:=m) (cs:=List.replicate m (z.cells.toList.map λu=>AV.d (.v u))) (cur:=madeCells z.cells (m*i.size)) hi (by rw[B];exact Zv _) F (size_madeCells _ _) (λc f=>by
  rw[List.eq_of_mem_replicate f,Zu];exact t) w ⟨rfl,rfl,rfl,rfl⟩ (λa b c x u f j g=>by
  have:=List.eq_of_mem_replicate (ZY f);subst this;rw[Zs]at j;cases p:z.cells.toList[b]? with
  |none=>rw[p]at j;cases j
  |some y=>
   rw[p]at j;cases j
   have q:b<i.size:=by rw[<-t];exact(Zo.1 p).1
   have UC:a<m:=by have:=(Zo.1 f).1;rwa [B]at this
   unfold madeCells at g;have aV:a*i.size+b<m*i.size:=oh UC q;rw[Array.getElem?_map,Array.getElem?_range,ab aV]at g;simp only[a6,UW]at g;have C:z.cells.size=i.size:=by rw[<-ZB];exact t
   rw[C,(Pj (i:=a) q).2]at g;have qH:z.cells[b]?=some y:=by rw[<-ZP];exact p
   rw[getElem!_pos z.cells b (by rw[C];exact q)]at g;rw[ZM (by rw[C];exact q)]at qH;cases qH
   subst g;exact .d (.v _))
 rw[B]at J;refine⟨_,_,G',H,g1,g2,g3,J len ?_⟩;rw[<-E,<-f];omega
def anJ{T tx ty e k dy n o len L:Nat}{i:TypeInfo}{z:kd}{u v:kd}{cs ys:I (I AV)}{us:I kd}(hi:cu G w h)(hT:P.underlying T=some (.slice e))(mr:P.info? e=some i)(hz:i.zero=some z)(oP:i.size=k)(yD:i.bytes=dy)(lP:z.cells.size=k)(gD:0<k)
 (hn:h[n]?=some (.vec e k cs)) (hL:cs.length=L) (hu:aQ G w u (.vec n o len L k)) (y:Qn G w k ys us) (p:Src P k tx v ys.length us w)
 {L':Nat} {cM:I (I AV)} (tb:(o+len+ys.length<=L/\L'=L/\cM=cs.take (o+len)++ys++cs.drop (o+len+ys.length))\/(o=0/\len=L/\L'=L+ys.length/\cM=cs++ys/\L'<=maxLen/\L'*dy<=140737488355328)):
 ∃r w' G',(Builtin.append_ #[T,tx] ty #[u,v]).run P w= .ok r w'/\cq G.N G w G' w'/\G.N<=G'.N/\cu G' w' (h.set n (.vec e k cM))/\aQ G' w' r (.vec n o (len+ys.length) L' k):=by
 subst oP;subst yD;have pN:=hi.lt hn;have j7:=HT hi hn;have nf:=hu.xe hi hn hL;have lx:=hi.dM n _ hn;have atC:=nf;obtain⟨Dh,⟨A,c,rfl,c1,c2,c3,c4⟩,call⟩:=nf;by_cases hy:ys.length=0
 ·have kX:ys=[]:=V1 hy;subst kX;have nI:us=[]:=V1 (by rw[y.len];simp);subst nI;have E:=run_append_nothing (P:=P) w T tx ty e i hT mr A len c c1 v p;have e1:cM=cs:=by
   rcases tb with⟨_,_,e⟩|⟨_,_,_,e,_⟩
   ·rw[e];simp
   ·rw[e];simp
  have e2:L'=L:=by
   rcases tb with⟨_,e,_⟩|⟨_,_,e,_⟩
   ·exact e
   ·rw[e];simp
  subst e1;subst e2;refine⟨_,w,G,E,cq.refl _ _ _,Zv _,?_,by simpa using hu⟩;have:h.set n (.vec e i.size cM)=h:=by
   refine List.ext_getElem? λm=> ?_;by_cases J:m=n
   ·subst J;rw[ZC (Zo.1 hn).1,hn]
   ·rw[ZD (Ne.symm J)]
  rw[this];exact hi
 ·have hy0:0<ys.length:=Nat.pos_of_ne_zero hy;have room:len+ys.length<=c->∀g cap cur,G.ow n=some g->G.sg n= .slice (some ⟨g,0,none⟩) cs.length cap->¬G.Z g->w.heap[g]?=some (.cells cur e (0,0))->cs.length<=cap->cap<=maxLen->cur.size=cap*i.size->(∀o,¬G.S g o)->
      (∀(a b:Nat)(d:I AV)(x:AV)(q:kd),cs[a]?=some d->d[b]?=some x->cur[a*i.size+b]?=some q->aQ G w q x)->A=some ⟨g,o*i.size,none⟩->o+c=cap->
      ∃r w' G',(Builtin.append_ #[T,tx] ty #[.slice A len c,v]).run P w= .ok r w'/\cq G.N G w G' w'/\G.N<=G'.N/\cu G' w' (h.set n (.vec e i.size cM))/\aQ G' w' r (.vec n o (len+ys.length) L' i.size):=by
   intro tu g cap cur r1 r2 r3 r4 r5 r6 r7 r8 r9 rA rc;have nX:(o+len)*i.size+us.length<=cur.size:=by
    rw[y.len,r7,<-YF];exact XL _ (by omega)
   have hsome:∀j,j<us.length->(w.cell? ⟨g,o*i.size+len*i.size+j,none⟩).isSome=true:=λj hj=>by
    rw[cell_of_row w g _ cur e (0,0) r4,ZM (by rw[YF]at nX;omega)];rfl
   have E:=run_append_room_src (P:=P) w T tx ty e i hT mr g (o*i.size) len c v ys.length us p tu hsome (λj hj=>by unfold World.frozen?;rw[r4];simp);have nj:=run_storeCells_at P g (o*i.size+len*i.size) e us 0 cur w r4 (by rw[YF]at nX;simpa using nX) y.one;have AG:=run_storeCells_cells (P:=P) g (o*i.size+len*i.size) us 0 w (by simpa using hsome) (λj hj=>by unfold World.frozen?;rw[r4];simp) y.one;simp only[Nat.add_zero]at nj AG;rw[nj]at AG;injection AG with _ e2;rw[<-e2,<-YF]at E;rw[rA];have gd:∀(a b:Nat)(d:I AV)(x:AV)(q:kd),cM[a]?=some d->d[b]?=some x->(if(o+len)*i.size<=a*i.size+b/\a*i.size+b<(o+len)*i.size+us.length then us[a*i.size+b-(o+len)*i.size]? else cur[a*i.size+b]?)=some q->aQ G w q x:=by
    intro a b d x q l M t;have Td:d.length=i.size:=by
     have f:=ZY l;rcases tb with⟨_,_,e⟩|⟨_,_,_,e,_⟩
     ·rw[e]at f;rcases ZN.1 f with f|f
      ·rcases ZN.1 f with f|f
       ·exact j7 d (List.mem_of_mem_take f)
       ·exact y.wid d f
      ·exact j7 d (a7 f)
     ·rw[e]at f;rcases ZN.1 f with f|f
      ·exact j7 d f
      ·exact y.wid d f
    have kg:b<i.size:=by rw[<-Td];exact(Zo.1 M).1
    have Kn:(a<o+len/\cs[a]?=some d)\/(o+len<=a/\a<o+len+ys.length/\ys[a-(o+len)]?=some d)\/(o+len+ys.length<=a/\cs[a]?=some d):=by
     rcases tb with⟨hf,_,e⟩|⟨e0,e1,_,e,_⟩
     ·rw[e]at l;have SL:(cs.take (o+len)).length=o+len:=by rw[ao];omega
      by_cases F:a<o+len;{rw[ZR,ZX (by rw[SL];exact F),List.getElem?_take_of_lt F]at l;exact .inl ⟨F,l⟩}
      ·rw[ZR,ZI (by rw[SL];omega),SL]at l;by_cases h2:a-(o+len)<ys.length
       ·rw[ZX h2]at l;exact .inr (.inl ⟨by omega,by omega,l⟩)
       ·rw[ZI (by omega),List.getElem?_drop,show o+len+ys.length+(a-(o+len)-ys.length)=a by omega]at l;exact .inr (.inr ⟨by omega,l⟩)
     ·rw[e]at l;by_cases F:a<cs.length
      ·rw[ZX F]at l;exact .inl ⟨by omega,l⟩
      ·rw[ZI (by omega)]at l;have:=(Zo.1 l).1;exact .inr (.inl ⟨by omega,by omega,by rw[show a-(o+len)=a-cs.length by omega];exact l⟩)
    rcases Kn with⟨F,h2⟩|⟨F,h2,h3⟩|⟨F,h2⟩
    ·rw[ae (by have:=oh F kg;omega)]at t;exact r9 a b d x q h2 M t
    ·have C:(o+len)*i.size<=a*i.size:=XL _ F;have aV:a*i.size+b<(o+len+ys.length)*i.size:=oh h2 kg;rw[YF (o+len)]at aV;rw[ab ⟨by omega,by rw[y.len];exact aV⟩]at t;refine y.rel (a-(o+len)) b d x q h3 M ?_;rw[Nat.sub_mul,show a*i.size-(o+len)*i.size+b=a*i.size+b-(o+len)*i.size by omega];exact t
    ·have C:(o+len+ys.length)*i.size<=a*i.size:=XL _ F;rw[YF (o+len)]at C;rw[ae (by rw[y.len];omega)]at t;exact r9 a b d x q h2 M t
   have Z1:∀d∈cM,d.length=i.size:=λd f=>by
    rcases tb with⟨_,_,e⟩|⟨_,_,_,e,_⟩
    ·rw[e]at f;rcases ZN.1 f with f|f
     ·rcases ZN.1 f with f|f
      ·exact j7 d (List.mem_of_mem_take f)
      ·exact y.wid d f
     ·exact j7 d (a7 f)
    ·rw[e]at f;rcases ZN.1 f with f|f
     ·exact j7 d f
     ·exact y.wid d f
   rcases tb with⟨hf,B,R⟩|⟨e0,e1,B,R,l7,n6⟩
   ·have W:cM.length=cs.length:=by rw[R];simp;omega
    obtain⟨G',k1,k2,k3,k4,k5⟩:=YL (us:=us) (off:=(o+len)*i.size) (cM:=cM) hi hn gD r1 r2 r3 r4 r5 r6 r7 r8 nX W Z1 gd;refine⟨_,_,G',E,k1,by rw[k2];exact Zv _,k3,?_⟩;refine .vec n o (len+ys.length) L' i.size (by rw[k2];exact pN) ⟨_,_,_,rfl⟩ (by rw[k5,B,lx.1,hL];exact Zv _) λ_=> ?_;rw[k4];refine⟨by omega,⟨_,_,rfl,tu,c2,by omega,λho=> ?_⟩,λho hl=> ?_⟩
    ·rw[B]at ho ⊢;obtain⟨g2,abA,q1,q2,q3⟩:=c4 ho;exact⟨g2,abA,q1,by rw[<-q2,rA],q3⟩
    ·subst ho;rw[r2,hL,<-B,<-hl];simp at rc;subst rc;simp
   ·subst e0;subst e1;simp only[ZQ,Nat.zero_mul]at*;subst rc;obtain⟨w',fS⟩:∃w',w'=w.setRow g (cur.toList.take (len*i.size)++us++cur.toList.drop (len*i.size+us.length)).toArray:=⟨_,rfl⟩;rw[<-fS]at E;have jV:∀b,b≠g->w'.heap[b]?=w.heap[b]?:=λb H=>by rw[fS];exact setRow_other w g b _ H
    have pY:w'.heap[g]?=some (.cells (cur.toList.take (len*i.size)++us++cur.toList.drop (len*i.size+us.length)).toArray e (0,0)):=by rw[fS];exact setRow_heap w g cur _ e _ r4
    have iV:w'.heap.size=w.heap.size:=by rw[fS];exact Qf w g _
    obtain⟨sv,nA⟩:∃sv,sv=Value.slice (some ⟨g,0,none⟩) L' c:=⟨_,rfl⟩;have W:cM.length=L':=by rw[R,Zk,hL,B]
    have nw:G.fl n=len:=by rw[lx.1,hL]
    have hE:cq G.N G w (G.grow n G.S sv L' (some g)) w':=⟨by rw[iV];exact Zv _,λ_ _ h=>h,λb q p=>World.cell?_of_block (jV b (λe=>r8 q (e▸p))),λ_ _=>rfl,λm _=>by
        by_cases J:m=n;{right;subst J;simp only[Gh.grow,if_true,nw];omega}
        ·left;exact⟨by simp [Gh.grow,J],by simp [Gh.grow,J]⟩,iX rfl,λb H=>jV b (λe=>r3 (e▸H)),by rw[fS];rfl,by rw[fS];rfl,by rw[fS];rfl,λb q p=>.inl p⟩
    refine⟨_,w',_,E,hE,Zv _,NX hi hn (λ_=>rfl) (λ_=>rfl) _ _ _ _ hE (λg' uH=>by cases uH;exact⟨.inr r1,by rw[iV];exact(ZT.1 r4).1⟩) (λb q p=>.inl p) (λb _ im=>jV b (λe=>im (by rw[e]))) ?_,?_⟩;{refine⟨by simp [Gh.grow,W],by rw[W];exact l7,Z1,.inr ⟨g,c,_,by simp [Gh.grow],by simp [Gh.grow,nA,W],r3,pY,by rw[W];omega,r6,by rw[YM _ _ _ nX];exact r7,r8,λa b d x q l M t=> ?_⟩⟩;rw[ZA _ _ _ _ nX]at t;exact(gd a b d x q l M t).keep hE (Zv _)};{refine .vec n 0 (len+ys.length) L' i.size pN ⟨_,_,_,rfl⟩ (by simp [Gh.grow]) λ_=>⟨by omega,⟨_,_,rfl,tu,c2,by omega,λ_=>⟨g,c,by simp [Gh.grow,nA],by simp,by simp⟩⟩,λ_ e=> ?_⟩;simp [Gh.grow,nA,B]}
  rcases lx.2.2.2 with⟨b1,b2,A',b3⟩|⟨g,cap,cur,r1,r2,r3,r4,r5,r6,r7,r8,r9⟩
  ·
   subst b2;simp at hL;subst hL;have ho:o=0:=by omega
   have NP:len=0:=by omega
   subst ho;subst NP;have:=call rfl rfl;rw[b3]at this;injection this with q1 _ q2;subst q2;rcases tb with⟨hf,_,_⟩|⟨_,_,B,R,l7,n6⟩
   ·omega
   ·simp only[ZQ,W2]at B R;subst R;rw[B]at l7 n6;have VC:cM.length<=9223372036854775807:=by simp only[maxLen]at l7;omega
    have hold:(Builtin.firstCells i.size 0 (.slice A 0 0)).run P w.drew= .ok ([]:I kd).toArray w.drew:=by
     cases A with
     |none=>exact run_firstCells_none _ _ _ _ _
     |some a=>exact run_firstCells_some _ _ _ _ _ _ [] (by simp) (λj u hu=>by simp at hu)
    have E:=run_append_grow_src (P:=P) w T tx ty e i z hT mr hz A 0 0 [] hold v cM.length us p (by omega) (by omega) (growslice_fits (by omega) (by simpa using n6));simp only[ZQ,W2]at E;obtain⟨cap,lh⟩:∃cap,cap=grownCap w cM.length 0 e:=⟨_,rfl⟩;have lq:cM.length<=cap:=by rw[lh];exact grownCap_ge _ _ _ _
    have C:cap<=maxLen:=by rw[lh];exact grownCap_le_maxLen _ _ _ _ l7
    rw[<-lh]at E;obtain⟨cur,lC⟩:∃cur,cur=us.toArray++Builtin.zeroCells z.cells (cap-cM.length):=⟨_,rfl⟩;rw[<-lC]at E;have iH:cur.size=cap*i.size:=by
      have:=size_zeroCells z.cells (cap-cM.length);rw[lC,Array.size_append,this,List.size_toArray,y.len,lP,<-YF]
      congr 1
      omega
    have gd:(w.drew.alloc (.cells cur e)).heap[w.heap.size]?=some (.cells cur e (0,0)):=World.alloc_heap_new w.drew _;have zO:∀b,b<w.heap.size->(w.drew.alloc (.cells cur e)).heap[b]?=w.heap[b]?:=λb H=>Below.heap_alloc w.drew _ b H;obtain⟨sv,nA⟩:∃sv,sv=Value.slice (some ⟨w.heap.size,0,none⟩) L' cap:=⟨_,rfl⟩;have nw:G.fl n=0:=by rw[lx.1];rfl
    have hE:cq G.N G w (G.grow n G.S sv L' (some w.heap.size)) (w.drew.alloc (.cells cur e)):=⟨by simp,λ_ _ h=>h,λb q p=>World.cell?_of_block (zO b (hi.S b q p)),λ_ _=>rfl,λm _=>by
        by_cases J:m=n;{right;subst J;simp only[Gh.grow,if_true,nw];omega}
        ·left;exact⟨by simp [Gh.grow,J],by simp [Gh.grow,J]⟩,iX rfl,λb H=>zO b (hi.z b H),rfl,rfl,rfl,λb q p=>.inl p⟩
    refine⟨_,_,_,E,hE,Zv _,NX hi hn (λ_=>rfl) (λ_=>rfl) _ _ _ _ hE (λg' uH=>by cases uH;exact⟨.inl rfl,by simp⟩) (λb q p=>.inl p) (λb H _=>zO b H) ?_,?_⟩
    ·refine⟨by simp [Gh.grow,B],l7,y.wid,.inr ⟨w.heap.size,cap,cur,by simp [Gh.grow],by simp [Gh.grow,nA,B],λhz=>Z4 _ (hi.z _ hz),gd,lq,C,iH,λq p=>Z4 _ (hi.S _ _ p),λa b d x q l M t=> ?_⟩⟩;have kg:b<i.size:=by rw[<-y.wid d (ZY l)];exact(Zo.1 M).1
     have aV:a*i.size+b<us.length:=by rw[y.len];exact oh (Zo.1 l).1 kg
     rw[lC,Array.getElem?_append_left (by simpa using aV),List.getElem?_toArray]at t;exact(y.rel a b d x q l M t).keep hE (Zv _)
    ·rw[ZQ];refine .vec n 0 cM.length L' i.size pN ⟨_,_,_,rfl⟩ (by simp [Gh.grow]) λ_=>⟨by omega,⟨_,_,rfl,lq,C,by omega,λ_=>⟨w.heap.size,cap,by simp [Gh.grow,nA],by simp,by simp⟩⟩,λ_ e=> ?_⟩;simp [Gh.grow,nA,B]
  ·
   rcases tb with⟨hf,B,R⟩|⟨e0,e1,B,R,l7,n6⟩
   ·obtain⟨g2,abA,q1,q2,q3⟩:=c4 (by omega);rw[r2]at q1;injection q1 with q4 _ q5;cases q4
    subst q5;exact room (by omega) g cap cur r1 r2 r3 r4 r5 r6 r7 r8 r9 q2 q3
   ·have:=call e0 e1;rw[r2]at this;injection this with q2 _ q3;by_cases tu:len+ys.length<=c
    ·exact room tu g cap cur r1 r2 r3 r4 r5 r6 r7 r8 r9 (by rw[q2,e0];simp) (by omega)
    ·subst e0;subst q2;subst q3;rw[B]at l7 n6;have VC:L+ys.length<=9223372036854775807:=by simp only[maxLen]at l7;omega
     have Kt:(cur.toList.take (len*i.size)).length=len*i.size:=by
      rw[ao,ZB,r7];exact Nat.min_eq_left (XL _ c1)
     have hold:(Builtin.firstCells i.size len (.slice (some ⟨g,0,none⟩) len c)).run P w.drew= .ok (cur.toList.take (len*i.size)).toArray w.drew:=
      run_firstCells_some _ _ _ _ _ _ _ Kt (λj q t=>by
       rw[mS,ZQ];show w.cell? ⟨g,j,none⟩=some q;rw[cell_of_row w g _ cur e (0,0) r4,<-ZP];have B3:=(Zo.1 t).1;rw[Kt]at B3;rw[List.getElem?_take_of_lt B3]at t;exact t)
     have E:=run_append_grow_src (P:=P) w T tx ty e i z hT mr hz (some ⟨g,0,none⟩) len c _ hold v ys.length us p (by omega) (by omega) (growslice_fits (by omega) (by rw[e1];exact n6));obtain⟨cap,lh⟩:∃cap,cap=grownCap w (len+ys.length) c e:=⟨_,rfl⟩;have lq:len+ys.length<=cap:=by rw[lh];exact grownCap_ge _ _ _ _
     have C:cap<=maxLen:=by rw[lh];exact grownCap_le_maxLen _ _ _ _ (by rw[e1];exact l7)
     rw[<-lh]at E;obtain⟨xv,lC⟩:∃xv,xv=(cur.toList.take (len*i.size)++us).toArray++Builtin.zeroCells z.cells (cap-(len+ys.length)):=⟨_,rfl⟩;rw[<-lC]at E;have yc:(cur.toList.take (len*i.size)++us).length=(len+ys.length)*i.size:=by rw[Zk,Kt,y.len,<-YF]
     have iH:xv.size=cap*i.size:=by
      have:=size_zeroCells z.cells (cap-(len+ys.length));rw[lC,Array.size_append,this,List.size_toArray,yc,lP,<-YF]
      congr 1
      omega
     have gd:(w.drew.alloc (.cells xv e)).heap[w.heap.size]?=some (.cells xv e (0,0)):=World.alloc_heap_new w.drew _;have zO:∀b,b<w.heap.size->(w.drew.alloc (.cells xv e)).heap[b]?=w.heap[b]?:=λb H=>Below.heap_alloc w.drew _ b H;obtain⟨sv,nA⟩:∃sv,sv=Value.slice (some ⟨w.heap.size,0,none⟩) L' cap:=⟨_,rfl⟩;have nw:G.fl n=L:=by rw[lx.1,hL]
     have W:cM.length=L':=by rw[R,Zk,hL,B]
     have hE:cq G.N G w (G.grow n G.S sv L' (some w.heap.size)) (w.drew.alloc (.cells xv e)):=⟨by simp,λ_ _ h=>h,λb q p=>World.cell?_of_block (zO b (hi.S b q p)),λ_ _=>rfl,λm _=>by
         by_cases J:m=n;{right;subst J;simp only[Gh.grow,if_true,nw];omega}
         ·left;exact⟨by simp [Gh.grow,J],by simp [Gh.grow,J]⟩,iX rfl,λb H=>zO b (hi.z b H),rfl,rfl,rfl,λb q p=>.inl p⟩
     refine⟨_,_,_,E,hE,Zv _,NX hi hn (λ_=>rfl) (λ_=>rfl) _ _ _ _ hE (λg' uH=>by cases uH;exact⟨.inl rfl,by simp⟩) (λb q p=>.inl p) (λb H _=>zO b H) ?_,?_⟩
     ·refine⟨by simp [Gh.grow,W],by rw[W,B];exact l7,λd l=> ?_,.inr ⟨w.heap.size,cap,xv,by simp [Gh.grow],by simp [Gh.grow,nA,W],λhz=>Z4 _ (hi.z _ hz),gd,by rw[W];omega,C,iH,λq p=>Z4 _ (hi.S _ _ p),λa b d x q l M t=> ?_⟩⟩
      ·rw[R]at l;rcases ZN.1 l with l|l
       ·exact j7 d l
       ·exact y.wid d l
      ·refine aQ.keep hE (Zv _) ?_;have Td:d.length=i.size:=by
        have f:=ZY l;rw[R]at f;rcases ZN.1 f with f|f
        ·exact j7 d f
        ·exact y.wid d f
       have kg:b<i.size:=by rw[<-Td];exact(Zo.1 M).1
       have hal:a<len+ys.length:=by
        have:=(Zo.1 l).1;rw[W,B]at this;omega
       have aV:a*i.size+b<(cur.toList.take (len*i.size)++us).length:=by rw[yc];exact oh hal kg
       rw[lC,Array.getElem?_append_left (by simpa using aV),List.getElem?_toArray,aiW _ us len a b Kt kg]at t;rw[R]at l;by_cases F:a<len;{rw[ab F,List.getElem?_take_of_lt (oh F kg),ZP]at t;rw[ZX (by omega)]at l;exact r9 a b d x q l M t};{rw[ae F]at t;rw[ZI (by omega)]at l;exact y.rel (a-len) b d x q (by rw[<-l];congr 1;omega) M t}
     ·refine .vec n 0 (len+ys.length) L' i.size pN ⟨_,_,_,rfl⟩ (by simp [Gh.grow]) λ_=>⟨by omega,⟨_,_,rfl,lq,C,by omega,λ_=>⟨w.heap.size,cap,by simp [Gh.grow,nA],by simp,by simp⟩⟩,λ_ e=> ?_⟩;simp [Gh.grow,nA,B,e1]
def YK{T tx ty e k dy:Nat}{i:TypeInfo}{z:kd}{A:U Addr}{v:kd}{ys:I (I AV)}{us:I kd}(hi:cu G w h)(B:P.underlying T=some (.slice e))(C:P.info? e=some i)(L:i.zero=some z)(M:i.size=k)(R:i.bytes=dy)(S:z.cells.size=k)(gD:0<k)
 (c:Qn G w k ys us) (E:Src P k tx v ys.length us w) (F:ys.length<=maxLen) (W:ys.length*dy<=140737488355328):
 ∃r w' G',(Builtin.append_ #[T,tx] ty #[.slice A 0 0,v]).run P w= .ok r w'/\cq G.N G w G' w'/\G.N<=G'.N/\cu G' w' (h++[.vec e k ys])/\aQ G' w' r (.vec h.length 0 ys.length ys.length k):=by
 subst M;subst R;by_cases hy:ys.length=0;{have kX:ys=[]:=V1 hy;subst kX;have nI:us=[]:=V1 (by rw[c.len];simp);subst nI;have f:=run_append_nothing (P:=P) w T tx ty e i B C A 0 0 (Zv _) v E;obtain⟨hE,hI⟩:=QL (w':=w) hi (.vec e i.size []) (λ_ _=>rfl) (.slice A 0 0) 0 none ⟨λ_ _=>rfl,Zv _,rfl,rfl,rfl⟩ (λg hg=>by cases hg) ⟨by simp [Gh.fV],by simp,(λ_ h=>by cases h),.inl ⟨by simp [Gh.fV],rfl,A,by simp [Gh.fV]⟩⟩;refine⟨_,w,_,f,hE,ba _,hI,?_⟩;rw[hi.len];exact .vec G.N 0 0 0 i.size (by simp [Gh.fV]) ⟨_,_,_,rfl⟩ (by simp) λ_=>⟨by omega,⟨A,0,rfl,Zv _,Wv _,by omega,λh=>by omega⟩,λ_ _=>by simp [Gh.fV]⟩}
 ·have VC:ys.length<=9223372036854775807:=by simp only[maxLen]at F;omega
  have l:(Builtin.firstCells i.size 0 (.slice A 0 0)).run P w.drew= .ok ([]:I kd).toArray w.drew:=by
   cases A with
   |none=>exact run_firstCells_none _ _ _ _ _
   |some a=>exact run_firstCells_some _ _ _ _ _ _ [] (by simp) (λj u hu=>by simp at hu)
  have f:=run_append_grow_src (P:=P) w T tx ty e i z B C L A 0 0 [] l v ys.length us E (by omega) (by omega) (growslice_fits (by omega) (by simpa using W));simp only[ZQ,W2]at f;obtain⟨cap,m⟩:∃cap,cap=grownCap w ys.length 0 e:=⟨_,rfl⟩;have lq:ys.length<=cap:=by rw[m];exact grownCap_ge _ _ _ _
  have p:cap<=maxLen:=by rw[m];exact grownCap_le_maxLen _ _ _ _ F
  rw[<-m]at f;obtain⟨cur,t⟩:∃cur,cur=us.toArray++Builtin.zeroCells z.cells (cap-ys.length):=⟨_,rfl⟩;rw[<-t]at f;have iH:cur.size=cap*i.size:=by
    have:=size_zeroCells z.cells (cap-ys.length);rw[t,Array.size_append,this,List.size_toArray,c.len,S,<-YF]
    congr 1
    omega
  obtain⟨G',g1,g2,g3,g4⟩:=Vs (e:=e) (k:=i.size) (cap:=cap) (cs:=ys) (cur:=cur) hi lq p iH c.wid w.drew ⟨rfl,rfl,rfl,rfl⟩ (λa b d x q y H J=>by
   have kg:b<i.size:=by rw[<-c.wid d (ZY y)];exact(Zo.1 H).1
   have aV:a*i.size+b<us.length:=by rw[c.len];exact oh (Zo.1 y).1 kg
   rw[t,Array.getElem?_append_left (by simpa using aV),List.getElem?_toArray]at J;exact c.rel a b d x q y H J)
  exact⟨_,_,G',f,g1,g2,g3,g4 _ (Zv _)⟩
end
def SC:∀(cs:I AV)(l:I fY),AV.xX cs=some l->cs.length=l.length/\∀(i:Nat)(x:AV)(c:fY),cs[i]?=some x->l[i]?=some c->x.cap=some c
 |[],l,h=>by
  unfold AV.xX at h;cases h;exact⟨rfl,λi x c f=>by simp at f⟩
 |x::cs,l,h=>by
  unfold AV.xX at h;split at h
  ·next c g j k=>
   cases h
   obtain⟨m,p⟩:=SC cs g k;refine⟨by simp [m],λi y d b e=> ?_⟩
   match i with
   |0=>simp only[List.getElem?_cons_zero,UW]at b e;subst b;subst e;exact j
   |i+1=>exact p i y d (by simpa using b) (by simpa using e)
  ·cases h
def aQ.cap{G:Gh}{w:Zy}{u:kd}{x:AV}(h:aQ G w u x):∀c,x.cap=some c->oV G.S w u c:=by
 induction h with
 |d h=>intro c g;simp only[AV.cap]at g;cases g;exact .d h
 |own n p h j y z=>intro c g;simp only[AV.cap]at g;cases g;exact .d j
 |full p j z=>intro c g;simp only[AV.cap]at g;cases g;exact .d j
 |bM p i k b o u x A B C=>
  intro c g;simp only[AV.cap,A]at g;cases g
  exact .bM x k b o u B C
 |fn f E cs F h H=>
  intro c g;simp only[AV.cap]at g;split at g
  ·next l e=>
   cases g
   obtain⟨m,J⟩:=SC cs l e;refine .fn f E l (F.trans m) λi v d L q=> ?_;have t:i<cs.length:=by rw[m];exact(Zo.1 q).1
   exact H i v _ L (Ze t) d (J i _ d (Ze t) q)
  ·cases g
 |hid h m=>intro c g;simp only[AV.cap]at g;cases g;exact h
 |agg=>intro c g;simp [AV.cap]at g
 |bq=>intro c g;simp [AV.cap]at g
 |ptr=>intro c g;simp [AV.cap]at g
 |row=>intro c g;simp [AV.cap]at g
 |mp=>intro c g;simp [AV.cap]at g
 |cU=>intro c g;simp [AV.cap]at g
 |vec=>intro c g;simp [AV.cap]at g
 |eH=>intro c g;simp [AV.cap]at g
 |dead=>intro c g;simp [AV.cap]at g
section
variable {P:dg} {r:U Nat} {n N0:Nat} {G:Gh} {w:Zy} {a:Act} {s:St} {o:Oper} {K:St->Prop} {Q:Exit->Act->Zy->Prop}
def yQ(f:dx G w a s)(l:Array Operand):(l.map a.eval).size=(l.toList.map (ev s)).length/\∀(i:Nat)(u:kd)(c:AV),(l.map a.eval)[i]?=some u->(l.toList.map (ev s))[i]?=some c->aQ G w u c:=by
 refine⟨by simp,λi u c b d=> ?_⟩;rw[Array.getElem?_map]at b;rw[Zs,ZP]at d;cases e:l[i]? with
 |none=>rw[e]at b;cases b
 |some x=>rw[e]at b d;cases b;cases d;exact f.ev x
def YJ(e:dx G w a s)(l:Array (Nat×Operand)):(l.map λ(i,x)=>(i,a.eval x)).toList.length=(l.toList.map λp=>(p.1,ev s p.2)).length/\
 ∀(i:Nat)(p:Nat×AV)(q:Nat×kd),(l.toList.map λp=>(p.1,ev s p.2))[i]?=some p->(l.map λ(i,x)=>(i,a.eval x)).toList[i]?=some q->q.1=p.1/\aQ G w q.2 p.2:=by
 refine⟨by simp,λi p q b c=> ?_⟩;rw[ZP,Array.getElem?_map]at c;rw[Zs,ZP]at b;cases d:l[i]? with
 |none=>rw[d]at b;cases b
 |some x=>rw[d]at b c;cases b;cases c;exact⟨rfl,e.ev x.2⟩
def G5{x y:Operand}{T b:TypeId}(c:Call)(d:c.callee= .builtin .append)(h1:c.args.toList=[x,y])(e:c.argTypes.toList=[T,b])(f:o.op= .call c):
 (execOp a.eval o).run P w=((Builtin.append_ #[T,b] o.type #[a.eval x,a.eval y]).run P w).andThen λv w'=>.ok (.value v) w':=by
 have g:c.args= #[x,y]:=by rw[<-Array.toList_inj];exact h1
 have i:c.argTypes= #[T,b]:=by rw[<-Array.toList_inj];exact e
 unfold execOp;simp only[f,resolve,d,g,i,invoke,builtin,Sem.run_bind,Sem.run_pure,Result.andThen_ok,List.map_toArray,ZS,ah]
def YU{x:Operand}{T:TypeId}(c:Call)(b:c.callee= .builtin .len)(h1:c.args.toList=[x])(d:c.argTypes.toList=[T])(e:o.op= .call c):
 (execOp a.eval o).run P w=((Builtin.len_ #[T] o.type #[a.eval x]).run P w).andThen λv w'=>.ok (.value v) w':=by
 have f:c.args= #[x]:=by rw[<-Array.toList_inj];exact h1
 have g:c.argTypes= #[T]:=by rw[<-Array.toList_inj];exact d
 unfold execOp;simp only[e,resolve,b,f,g,invoke,builtin,Sem.run_bind,Sem.run_pure,Result.andThen_ok,List.map_toArray,ZS,ah]
def akI(c:Call)(b:c.callee= .builtin .max)(d:o.op= .call c):
 (execOp a.eval o).run P w=((Builtin.max_ c.argTypes o.type (c.args.map a.eval)).run P w).andThen λv w'=>.ok (.value v) w':=by
 unfold execOp;simp only[d,resolve,b,invoke,builtin,Sem.run_bind,Sem.run_pure,Result.andThen_ok]
def ape(c:Call)(b:c.callee= .builtin .min)(d:o.op= .call c):
 (execOp a.eval o).run P w=((Builtin.min_ c.argTypes o.type (c.args.map a.eval)).run P w).andThen λv w'=>.ok (.value v) w':=by
 unfold execOp;simp only[d,resolve,b,invoke,builtin,Sem.run_bind,Sem.run_pure,Result.andThen_ok]
def Xj{j:Bool}{k m:IntKind}{z:Int}:∀(l:I AV)(d:I kd)(x:Int),d.length=l.length->(∀(i:Nat)(u:kd)(c:AV),d[i]?=some u->l[i]?=some c->aQ G w u c)->Oz j k x l=some (m,z)->
 (d.foldlM (if j then Builtin.max2 else Builtin.min2) (.int k x)).run P w= .ok (.int m z) w
 |[],[],x,_,_,h=>by cases h;simp
 |[],_::_,_,f,_,_=>by simp at f
 |_::_,[],_,f,_,_=>by simp at f
 |y::l,u::d,x,f,p,h=>by
  unfold Oz at h;split at h;{next e=>cases e}
  ·next A b B e=>
   cases e
   have q:=(p 0 u _ rfl rfl).val;subst q;have g:=Xj l d _ (by simpa using f) (λi u c t v=>p (i+1) u c (by simpa using t) (by simpa using v)) h;rw[List.foldlM_cons,Sem.run_bind];cases j with
   |true=>simp only[if_true,Tq]at g ⊢;simp only[Builtin.max2,Sem.run_pure,Result.andThen_ok];exact g
   |false=>simp only[Bool.false_eq_true,if_false,T6]at g ⊢;simp only[Builtin.min2,Sem.run_pure,Result.andThen_ok];exact g
  ·cases h
def YI{m:Bool}{k:IntKind}{z:Int}{l:I AV}{b:Array kd}(e:b.size=l.length)(t:∀(i:Nat)(u:kd)(c:AV),b[i]?=some u->l[i]?=some c->aQ G w u c)(h:D9 m l=some (k,z)):
 ∃u us,b.toList=u::us/\(us.foldlM (if m then Builtin.max2 else Builtin.min2) u).run P w= .ok (.int k z) w:=by
 unfold D9 at h;split at h
 ·next y x p=>
  cases f:b.toList with
  |nil=>rw[<-ZB,f]at e;simp at e
  |cons u us=>
   refine⟨u,us,rfl,?_⟩;have q:∀(i:Nat)(v:kd)(c:AV),(u::us)[i]?=some v->(AV.d (.v (.int y x))::p)[i]?=some c->aQ G w v c:=λi v c g j=>t i v c (by rw[<-ZP,f];exact g) j;have A:=(q 0 u _ rfl rfl).val;subst A;refine Xj p us x ?_ (λi v c g j=>q (i+1) v c (by simpa using g) (by simpa using j)) h;rw[<-ZB,f]at e;simpa using e
 ·cases h
def Qv{f:FuncId}(h:O7 P f=true)(args:Array kd)(w:Zy):(callFunc f args).run P w= .ok (.enter f args) w:=by
 unfold O7 at h;cases b:P.funcs[f]? with
 |none=>rw[b]at h;simp at h
 |some c=>
  rw[b]at h;simp only[Zr,UA]at h;obtain⟨d,g⟩:=h;have i:c.body≠none:=by intro e;rw[e]at d;cases d
  have j:c.name≠ "runtime.NumGoroutine" :=by simpa using g
  simp [callFunc,b,j,i]
def alb(j:dx G w a s)(C:N0<=G.N){x:AV}{h':I ar}{p:Sd}(c:rh P o.op (ev s) s.h=some (x,h',p))(W:p.ok)(E:K ((s.wh h').put o.dst x)):o.wpIn (WF r) n P a w (jw N0 G w K) Q:=by
 have A:=j.ev;unfold rh at c;split at c
 next T g=>
  split at c
  ·next q B=>
   cases c
   obtain⟨i1,i2,i3⟩:=aog j.inv;exact nr (by rw[g];simp) j C (v:= .map (some w.heap.size)) (by unfold execOp;simp [g,run_makeMap,Result.andThen]) i1 (ba _) i2 i3 E
  ·cases c
 next T m i ok g=>
  split at c
  ·next k e B=>
   split at c
   ·next z hz=>
    split at c
    ·next b F H J=>
     split at c
     ·next kv L=>
      cases l:jj P k with
      |false=>rw[l]at c;cases c
      |true=>
       rw[l]at c;cases c
       obtain⟨v,M,R⟩:=amI (ok:=ok) (s:=F) j.inv B hz l L;have t:=A m;rw[H]at t;have f:=A i;rw[J]at f;have f:=f.val;have S:a.eval m= .map (some (G.bg b)):=by
        generalize a.eval m=u at t;cases t with|mp _ _=>rfl
       exact gx (by rw[g];simp) j C (by unfold execOp;simp [g,S,f,M,Result.andThen]) R E
     ·cases c
    ·cases c
   ·cases c
  ·cases c
 next T m i y g=>
  split at c
  ·next k e B=>
   split at c
   ·next b F d H J hd=>
    split at c
    ·next kv L=>
     cases l:jj P k with
     |false=>rw[l]at c;cases c
     |true=>
      rw[l]at c;cases c
      obtain⟨w',M,R,r3⟩:=aj4 (s:=F) j.inv B l L ((A y).toM hd) W;have t:=A m;rw[H]at t;have f:=A i;rw[J]at f;have f:=f.val;have S:a.eval m= .map (some (G.bg b)):=by
       generalize a.eval m=u at t;cases t with|mp _ _=>rfl
      exact TP (by rw[g];simp) j C (by unfold execOp;simp [g,S,f,M,Result.andThen]) R (Zv _) r3 E
    ·cases c
   ·cases c
  ·cases c
 next=>cases c
def XV(B:dx G w a s)(E:N0<=G.N)(h:tC P o K s):o.wpIn (WF r) n P a w (jw N0 G w K) Q:=by
 have H:=B.ev;unfold tC dj at h;split at h
 next x l=>exact gx (by rw[l];simp) B E (v:=a.eval x) (by unfold execOp;rw[l];rfl) (H x) h
 next x l=>exact gx (by rw[l];simp) B E (v:=a.eval x) (by unfold execOp;rw[l];rfl) (H x) h
 next c x y l=>
  split at h
  next t C=>
   have hb:=H c;rw[C]at hb;have e:=hb.bool;cases t with
   |true=>exact gx (by rw[l];simp) B E (v:=a.eval x) (by unfold execOp;simp [l,e,asBool]) (H x) (h.1 rfl)
   |false=>exact gx (by rw[l];simp) B E (v:=a.eval y) (by unfold execOp;simp [l,e,asBool]) (H y) (h.2 rfl)
  next=>exact h.elim
 next e l=>
  split at h
  next z hz=>
   obtain⟨i1,i2⟩:=Ye B.inv z.cells e (z.cells.toList.map λu=>.d (.v u)) (by simp) (λi u c M C=>by
    rw[Zs,ZP,M]at C;cases C;exact .d (.v u))
   exact nr (by rw[l];simp) B E (by unfold execOp;simp [l,Instr.alloc,Ew hz,newVar,newRow]) (vn G w B.inv.z B.inv.S _) (ba _) i1 i2 h
  next=>exact h.elim
 next e x l=>
  obtain⟨hb,hK⟩:=cv.1 h;have hr:=(H x).Xr hb;obtain⟨i1,i2⟩:=Ye B.inv (a.eval x).cells e (ev s x).cells hr.len hr.rel;exact nr (by rw[l];simp) B E (by unfold execOp;simp [l,Instr.box,newVar,newRow]) (vn G w B.inv.z B.inv.S _) (ba _) i1 i2 hK
 next t x l=>
  obtain⟨u,y,L,J,W⟩:=Ya B.inv (H x) h;exact gx (by rw[l];simp) B E (by unfold execOp;simp [l,L]) J W
 next t x y l=>
  unfold zg at h;split at h
  next m off hm=>
   split at h
   next cs iH=>
    split at h
    case h_2=>exact h.elim
    rename_i k hk
    obtain⟨gJ,h4⟩:=cv.1 h;simp only[Zr,Ua,dS]at gJ;obtain⟨⟨rfl,J⟩,W⟩:=gJ;have L:=hk;have A:=H x;rw[hm]at A;obtain⟨w',r1,r2,r3⟩:=anc (P:=P) B.inv iH (H y) J L W;have ex:a.eval x= .pointer (some ⟨G.bg m,off,none⟩):=by
     generalize a.eval x=u at A;cases A with
     |ptr=>rfl
    exact TP (by rw[l];simp) B E (by unfold execOp;simp [l,Instr.storeAt,Instr.sureAddr,ex,r1]) r2 (Zv _) r3 h4
   next=>exact h.elim
  next=>exact h.elim
 next x l=>
  have A:=H x;split at h
  next m off hm=>
   rw[hm]at A;generalize R:a.eval x=u at A;cases A with
   |ptr _ _ AH=>exact gx (by rw[l];simp) B E (by unfold execOp;simp [l,R]) (.ptr m off AH) h
  next xs i off hm=>
   rw[hm]at A;generalize R:a.eval x=u at A;have DG:=A;cases A with
   |bM=>exact gx (by rw[l];simp) B E (by unfold execOp;simp [l,R]) DG h
  next f cs hm=>
   rw[hm]at A;generalize R:a.eval x=u at A;have DG:=A;cases A with
   |fn=>exact gx (by rw[l];simp) B E (by unfold execOp;simp [l,R]) DG h
  next=>exact h.elim
 next T x f l=>
  split at h
  next fo k g hT=>
   have A:=H x;split at h
   next m off hm=>
    rw[hm]at A;generalize R:a.eval x=u at A;cases A with
    |ptr _ _ AH=>exact gx (by rw[l];simp) B E (by unfold execOp;simp [l,R,SQ hT]) (.ptr m (off+fo) AH) h
   next xs i off hm=>
    rw[hm]at A;generalize R:a.eval x=u at A;cases A with
    |bM _ _ _ b oo us c A hS M=>exact gx (by rw[l];simp) B E (by unfold execOp;simp [l,R,SQ hT];rfl) (by rw[Nat.add_assoc];exact .bM xs i (off+fo) b oo us c A hS M) h
   next=>exact h.elim
  next=>exact h.elim
 next T x f l=>
  obtain⟨u,y,L,J,W⟩:=asU (H x) h;exact gx (by rw[l];simp) B E (by unfold execOp;simp [l,L]) J W
 next T x i l=>
  obtain⟨u,y,L,J,W⟩:=ah8 (H x) (H i) h;exact gx (by rw[l];simp) B E (by unfold execOp;simp [l,L]) J W
 next T x i l=>
  split at h
  next b z hb hz=>
   obtain⟨hT,h0,h⟩:=cv.1 h;have hT:=uS hT;have A:=H x;rw[hb]at A;have ex:=A.val;obtain⟨k,ei⟩:=(H i).int hz;split at h
   next c C=>
    refine gx (by rw[l];simp) B E (v:= .int .u8 c.toNat) ?_ (.d (.v _)) h;unfold execOp;simp [l,Instr.index,ex,ei,asIntOf,run_underlying hT,h0,C]
   next=>exact h.elim
  next=>exact h.elim
 next T ps l=>
  obtain⟨p1,p2⟩:=YJ B ps;obtain⟨u,y,L,J,W⟩:=ar3 p1 p2 h;exact gx (by rw[l];simp) B E (by unfold execOp;simp only[l,Sem.run_bind,L];rfl) J W
 next T len ps l=>
  obtain⟨p1,p2⟩:=YJ B ps;obtain⟨u,w',G',y,L,J,W,h4,h5,h6⟩:=aq0 (T:=T) B.inv p1 p2 h;exact nr (by rw[l];simp) B E (by unfold execOp;simp only[l,Sem.run_bind,L];rfl) J W h4 h5 h6
 next T x lo hi mx l=>
  obtain⟨u,y,L,J,W⟩:=anA B (H x) h;exact gx (by rw[l];simp) B E (by unfold execOp;simp [l,L]) J W
 next x i l=>
  have A:=H x;split at h
  next cs iH=>
   rw[iH]at A;generalize R:a.eval x=u at A;split at h
   next c C=>
    cases A with
    |bq vs _ hl hr=>
     have aV:i<vs.size:=by rw[hl];exact(Zo.1 C).1
     exact gx (by rw[l];simp) B E (v:=vs[i]) (by unfold execOp;simp [l,R,Instr.extract,aV]) (hr i _ c (ZM aV) C) h
   next=>exact h.elim
  next=>exact h.elim
 next f first dD l=>
  split at h
  ·next x A=>
   unfold Tm at A;split at A
   ·next e1=>
    cases A
    have akp:first= #[]:=by
     rw[<-Array.toList_inj];exact List.map_eq_nil_iff.1 e1
    subst akp;obtain⟨p1,p2⟩:=yQ B dD;exact gx (by rw[l];simp) B E (v:= .func (.func f) #[] (dD.map a.eval)) (by unfold execOp;simp [l,Instr.makeFunc]) (.fn f _ _ p1 p2) h
   ·split at A
    ·next cs e1 e2=>
     cases A
     have amR:dD= #[]:=by
      rw[<-Array.toList_inj];exact List.map_eq_nil_iff.1 e2
     subst amR;obtain⟨p1,p2⟩:=yQ B first
     obtain⟨c1,c2⟩:=SC _ _ e1;exact gx (by rw[l];simp) B E (v:= .func (.func f) (first.map a.eval) #[]) (by unfold execOp;simp [l,Instr.makeFunc]) (.hid (.po f _ _ (p1.trans c1) λi u c M C=>by
      have aV:i<(first.toList.map (ev s)).length:=by rw[c1];exact(Zo.1 C).1
      exact(p2 i u _ M (Ze aV)).cap c (c2 i _ c (Ze aV) C)) rfl) h
    ·cases A
  ·exact h.elim
 next op T x y j l=>
  obtain⟨u,z,L,J,W⟩:=ag5 (X:=x) (Y:=y) (H x) (H y) h;refine gx (by rw[l];simp) B E ?_ J W;unfold execOp;simp only[l];rw[Sem.run_bind,L];rfl
 next op T x l=>
  obtain⟨u,z,L,J,W⟩:=ajX (P:=P) (H x) h;exact gx (by rw[l];simp) B E (by unfold execOp;simp [l,L]) J W
 next t u x l=>
  obtain⟨u,z,L,J,W⟩:=ahO (H x) h;exact gx (by rw[l];simp) B E (by unfold execOp;simp [l,L]) J W
 next c l=>
  have k8:∀c,o.op≠ .defer c:=by rw[l];simp
  split at h
  next C=>
   split at h
   next x T L J=>
    obtain⟨m,r1,r2⟩:=alB (ty:=o.type) (H x) h;exact gx k8 B E (by rw[YU c C L J l,r1];rfl) (.d (.v _)) r2
   next=>exact h.elim
  next C=>
   split at h
   next x y T j L J=>
    obtain⟨hU,h⟩:=cv.1 h;obtain⟨⟨e',k'⟩,hU⟩:=b8.1 hU;obtain⟨p,w',G',q,h',r1,r2,r3,r4,r5,r6⟩:=aq7 (ty:=o.type) B.inv (H x) (H y) (ld hU).1 h;exact nr k8 B E (by rw[G5 c C L J l,r1];rfl) r2 r3 r4 r5 r6
   next=>exact h.elim
  next C=>
   split at h
   next k z hf=>
    obtain⟨p1,p2⟩:=yQ B c.args;obtain⟨u,us,e1,e2⟩:=YI (P:=P) p1 p2 hf;refine gx k8 B E (v:= .int k z) ?_ (.d (.v _)) h;rw[akI c C l];unfold Builtin.max_;rw[e1];simp only[if_true]at e2;rw[e2];rfl
   next=>exact h.elim
  next C=>
   split at h
   next k z hf=>
    obtain⟨p1,p2⟩:=yQ B c.args;obtain⟨u,us,e1,e2⟩:=YI (P:=P) p1 p2 hf;refine gx k8 B E (v:= .int k z) ?_ (.d (.v _)) h;rw[ape c C l];unfold Builtin.min_;rw[e1];simp only[Bool.false_eq_true,if_false]at e2;rw[e2];rfl
   next=>exact h.elim
  next f C=>
   have call:∀(g:FuncId)(dD:I AV)(vs:Array kd),a.eval f= .func (.func g) #[] vs->vs.size=dD.length->(∀(i:Nat)(u:kd)(c:AV),vs[i]?=some u->dD[i]?=some c->aQ G w u c)->
       dt P g (c.args.toList.map (ev s)++dD) s.h (λr h'=>K ((s.wh h').put o.dst r))->o.wpIn (WF r) n P a w (jw N0 G w K) Q:=by
       intro g dD vs R hl hr h;obtain⟨p1,p2⟩:=yQ B c.args;obtain⟨Fo,kH⟩:=h;have uU:=kH G w (c.args.map a.eval++vs) B.inv (by rw[Array.size_append,Zk,p1,hl]) (λi u x M A=>by
        by_cases hi:i<(c.args.map a.eval).size;{rw[Array.getElem?_append_left hi]at M;rw[ZX (by rw[<-p1];exact hi)]at A;exact p2 i u x M A}
        ·rw[Array.getElem?_append_right (by omega)]at M;rw[ZI (by rw[<-p1];omega)]at A;rw[p1]at M;exact hr _ u x M A)
       refine⟨λ_ _=>trivial,?_⟩;have eI:(o.semAt (WF r).round a.eval).run P w= .ok (.enter g (c.args.map a.eval++vs)) w:=by
        rw[Oper.semAt_eq _ _ _ k8];unfold execOp;simp only[l,resolve,C,R];simp [Deferred.ofValue,invoke,Qv Fo]
       rw[eI];refine⟨λh=>(by simp [WF,Fence.wide]at h),?_⟩;have J:=callsIn_wide (n:=n-1).2 uU;refine CallsIn.mono (F:=WF r) J ?_;rintro e w' ⟨v,G',x,h',rfl,x1,x2,x3,x4,x5⟩;exact⟨G',_,x1.less E,Zc E x2,(B.move x1 x2 x3).put x4 o.dst,x5⟩
   have ahA:∀(g:FuncId)(dD:I AV)(vs:Array kd),a.eval f= .func (.func g) vs #[]->vs.size=dD.length->(∀(i:Nat)(u:kd)(c:AV),vs[i]?=some u->dD[i]?=some c->aQ G w u c)->
       dt P g (dD++c.args.toList.map (ev s)) s.h (λr h'=>K ((s.wh h').put o.dst r))->o.wpIn (WF r) n P a w (jw N0 G w K) Q:=by
       intro g dD vs R hl hr h;obtain⟨p1,p2⟩:=yQ B c.args;obtain⟨Fo,kH⟩:=h;have uU:=kH G w (vs++c.args.map a.eval) B.inv (by rw[Array.size_append,Zk,p1,hl]) (λi u x M A=>by
        by_cases hi:i<vs.size;{rw[Array.getElem?_append_left hi]at M;rw[ZX (by rw[<-hl];exact hi)]at A;exact hr i u x M A}
        ·rw[Array.getElem?_append_right (by omega)]at M;rw[ZI (by rw[<-hl];omega)]at A;rw[hl]at M;exact p2 _ u x M A)
       refine⟨λ_ _=>trivial,?_⟩;have eI:(o.semAt (WF r).round a.eval).run P w= .ok (.enter g (vs++c.args.map a.eval)) w:=by
        rw[Oper.semAt_eq _ _ _ k8];unfold execOp;simp only[l,resolve,C,R];simp [Deferred.ofValue,invoke,Qv Fo]
       rw[eI];refine⟨λh=>(by simp [WF,Fence.wide]at h),?_⟩;have J:=callsIn_wide (n:=n-1).2 uU;refine CallsIn.mono (F:=WF r) J ?_;rintro e w' ⟨v,G',x,h',rfl,x1,x2,x3,x4,x5⟩;exact⟨G',_,x1.less E,Zc E x2,(B.move x1 x2 x3).put x4 o.dst,x5⟩
   split at h
   next g dD hg=>
    have hf:=H f;rw[hg]at hf;generalize R:a.eval f=u at hf;cases hf with
    |fn _ vs _ hl hr=>exact call g dD vs R hl hr h
   next q hg=>
    obtain⟨g,as,eq,h⟩:=h;have hf:=H f;rw[hg]at hf;generalize R:a.eval f=u at hf;cases hf with
    |hid hq L=>
     cases hq with
     |d _=>simp [fY.app]at eq
     |bM _ _ _ _ _ _ _=>simp [fY.app]at eq
     |po g0 vs cs hl hr=>
      simp only[fY.app,UW,Prod.mk.injEq]at eq;obtain⟨rfl,rfl⟩:=eq;exact ahA _ (cs.map fY.av) vs R (by rw[Zu];exact hl) (λi u c M C=>by
       rw[Zs]at C;cases A:cs[i]? with
       |none=>rw[A]at C;cases C
       |some d=>rw[A]at C;cases C;exact(hr i u d M A).av) h
     |fn g0 vs cs hl hr=>
      simp only[fY.app,UW,Prod.mk.injEq]at eq;obtain⟨rfl,rfl⟩:=eq;exact call _ (cs.map fY.av) vs R (by rw[Zu];exact hl) (λi u c M C=>by
       rw[Zs]at C;cases A:cs[i]? with
       |none=>rw[A]at C;cases C
       |some d=>rw[A]at C;cases C;exact(hr i u d M A).av) h
   next=>exact h.elim
  next=>exact h.elim
 next op _=>
  split at h
  next x h' p A=>exact alb B E A h.1 h.2
  next=>exact h.elim
def Qw(b:dx G w a s){x:U Operand}{d:Nat}{z:Int}(h:xy (ev s) d x=some z)(c:0<=z):Ea a x d z.toNat:=by
 cases x with
 |none=>
  simp only[xy,UW]at h;subst h;show _=d;exact ZK d
 |some y=>
  simp only[xy]at h;obtain⟨k,e⟩:=(b.ev y).int h;exact⟨k,z,e,c,rfl⟩
def nL{α:Type}{b:Bool}{x y:α}(h:(bif b then some x else none)=some y):b=true/\x=y:=by
 cases b with
 |true=>exact⟨rfl,Zw h⟩
 |false=>cases h
def ap2{α:Type}{b:Bool}{x:U α}{y:α}(h:(bif b then x else none)=some y):b=true/\x=some y:=by
 cases b with
 |true=>exact⟨rfl,h⟩
 |false=>cases h
def Y8(E:dx G w a s)(cJ:N0<=G.N)(h:Lp P o K s):o.wpIn (WF r) n P a w (jw N0 G w K) Q:=by
 obtain⟨va,x,h',p,B,hp,hK⟩:=h;have M:=E.ev;unfold jr at B;split at B
 next T y i F=>
  split at B
  ·next n' o' R L k z e k' i' J e2 e3=>
   split at B
   ·next e4 k2 cs S=>
    obtain⟨H,W⟩:=nL B;cases W
    rw[Zr,Ua,Ua]at H;obtain⟨rfl,rfl⟩:=H;obtain⟨hL,h0,aV,rfl⟩:=hp;obtain⟨gO,hJ⟩:=ld e3;obtain⟨kz,ez⟩:=(M i).int e2;have C:=M y;rw[J]at C;have nf:=C.xe E.inv S hL;obtain⟨Dh,⟨A,c,q1,q2,q3,q4,q5⟩,_⟩:=nf;obtain⟨g,cap,s1,rfl,s3⟩:=q5 (by omega);have Ub:z<(R:Int):=aV;refine gx (by rw[F];simp) E cJ (v:= .pointer (some ⟨g,o'*k2+z.toNat*k2,none⟩)) ?_ (.eH n' (o'+z.toNat) 0 L k2 (E.inv.lt S) ⟨_,_,rfl⟩ (by rw[(E.inv.dM n' _ S).1,hL];exact Zv _) λ_=>⟨by omega,g,cap,s1,?_⟩) hK;{unfold execOp;simp [F,q1,ez,Instr.indexAt,asIntOf,run_underlying gO,h0,Ub,nQ hJ,mS]};{rw[YF];rfl}
   ·cases B
  ·cases B
 next T y f F=>
  split at B
  ·next n' i j L k fo q g J hT=>
   cases B
   have C:=M y;rw[J]at C;generalize ea:a.eval y=u at C;cases C with
   |eH _ _ _ _ _ pN RV hL hf=>
    obtain⟨pb,pq,rfl⟩:=RV;refine gx (by rw[F];simp) E cJ (v:= .pointer (some ⟨pb,pq+fo,none⟩)) (by unfold execOp;simp [F,ea,SQ hT]) (.eH n' i (j+fo) L k pN ⟨_,_,rfl⟩ hL λe=> ?_) hK;obtain⟨a1,g2,cap,a2,a3⟩:=hf e;refine⟨a1,g2,cap,a2,?_⟩;injection a3 with a3;injection a3 with a3;injection a3 with a4 a5;subst a4;subst a5;rw[Nat.add_assoc]
  ·cases B
 next y F=>
  split at B
  ·next n' i j L k J=>
   cases B
   have C:=M y;rw[J]at C;have hv2:=C;generalize ea:a.eval y=u at C hv2;cases C with
   |eH _ _ _ _ _ pN RV hL hf=>
    obtain⟨pb,pq,rfl⟩:=RV;exact gx (by rw[F];simp) E cJ (by unfold execOp;simp [F,ea]) hv2 hK
  ·cases B
 next t y F=>
  split at B
  ·next n' i j L k c J=>
   split at B
   ·next e k' cs z S hz=>
    obtain⟨H,W⟩:=nL B;cases W
    rw[Ua]at H;subst H;have C:=M y;rw[J]at C;obtain⟨u,r1,r2⟩:=am4 E.inv S hp.1 hp.2 hz C;exact gx (by rw[F];simp) E cJ (by unfold execOp;simp [F,r1]) r2 hK
   ·cases B
  ·cases B
 next t y z F=>
  split at B
  ·next n' i j L k c cM J=>
   split at B
   ·next e k' cs q S hq=>
    obtain⟨H,W⟩:=nL B;cases W
    simp only[Zr,Ua,dS]at H;obtain⟨⟨⟨⟨rfl,rfl⟩,VJ⟩,hj⟩,gD⟩:=H;obtain⟨hL,hc,rfl⟩:=hp;have C:=M y;rw[J]at C;obtain⟨w',G',r1,r2,r3,r4⟩:=ate E.inv S hL hc C (M z) VJ hq hj gD;exact TP (by rw[F];simp) E cJ (by unfold execOp;simp [F,r1]) r2 r3 r4 hK
   ·cases B
  ·cases B
 next T y lo hi F=>
  split at B
  ·next n' o' R L k e k' oo ll J hT=>
   split at B
   ·next l u hl hu=>
    split at B
    ·next e4 k2 cs S=>
     obtain⟨H,W⟩:=nL B;cases W
     rw[Zr,Ua,Ua]at H;obtain⟨rfl,rfl⟩:=H;obtain⟨hL,h0,hlu,huL,rfl,rfl⟩:=hp;obtain⟨gO,hJ⟩:=ld hT;have C:=M y;rw[J]at C;have nf:=C.xe E.inv S hL;obtain⟨Dh,⟨A,c,q1,q2,q3,q4,q5⟩,_⟩:=nf;have H:=JG (P:=P) (Cr:=true) (Qw E hl h0) (Qw E hu (by omega)) (by omega) (show u.toNat<=c by omega) w;refine gx (by rw[F];simp) E cJ (v:= .slice (if c=l.toNat then A else A.map (·.add (l.toNat*k2))) (u.toNat-l.toNat) (c-l.toNat)) ?_ (.vec n' (o'+l.toNat) (u.toNat-l.toNat) L k2 (E.inv.lt S) ⟨_,_,_,rfl⟩ (by rw[(E.inv.dM n' _ S).1,hL];exact Zv _) λ_=>⟨by omega,⟨_,_,rfl,by omega,by omega,by omega,λho2=> ?_⟩,λh1 h2=> ?_⟩) hK;{unfold execOp;simp [F,q1,Instr.sliceAt,Instr.slice,run_underlying gO,H,nQ hJ]};{obtain⟨g,cap,s1,rfl,s3⟩:=q5 (by omega);refine⟨g,cap,s1,?_,by omega⟩;rw[ae (by omega)];simp [mS,YF]}
     ·have ho0:o'=0:=by omega
      have NP:l.toNat=0:=by omega
      subst ho0;rw[NP];rw[NP]at h2;simp only[Nat.sub_zero]at h2 ⊢;by_cases Aw:L=0
      ·subst Aw;have:R=0:=by omega
       subst this
       rename_i gJ
       rw[<-gJ rfl rfl,q1,h2];split;{rfl};{cases A<;>simp [Addr.add]}
      ·obtain⟨g,cap,s1,rfl,s3⟩:=q5 (by omega);rw[s1,h2];have:c=cap:=by omega
       subst this;split<;>simp [mS]
    ·cases B
   ·cases B
  ·cases B
 next T l c F=>
  split at B
  ·next e k z1 z2 cs R m hT J e2=>
   split at B
   ·next z dy hz rm=>
    obtain⟨H,W⟩:=nL B;cases W
    simp only[Zr,Ua,dS]at H;obtain⟨⟨gD,lP⟩,_⟩:=H;obtain⟨h0,mG,hl,hc,rfl,hm,mM⟩:=hp;obtain⟨gO,hJ⟩:=ld hT;obtain⟨inf,i1,i2,i3⟩:=Uy hJ rm;have HL:inf.zero=some z:=by
     obtain⟨i',j1,j2⟩:=Mp hz;rw[i1]at j1;cases j1;exact j2
    obtain⟨k1,ez1⟩:=(M l).int J;obtain⟨k2,ez2⟩:=(M c).int e2;obtain⟨u,w',G',r1,r2,r3,r4,r5⟩:=akd (kl:=k1) (kc:=k2) E.inv gO i1 HL i2 i3 lP gD h0 mG hl hc hm mM;exact nr (by rw[F];simp) E cJ (by unfold execOp;simp [F,ez1,ez2,r1]) r2 r3 r4 r5 hK
   ·cases B
  ·cases B
 next c F=>
  have k8:∀c,o.op≠ .defer c:=by rw[F];simp
  split at B
  next hc=>
   split at B
   ·next y T h1 h2=>
    split at B
    ·next n' oo R L k J=>
     split at B
     ·next e4 k2 cs S=>
      obtain⟨H,W⟩:=nL B;cases W
      rw[Zr,Ua]at H;obtain⟨hT,rfl⟩:=H;obtain⟨⟨e,q⟩,hT⟩:=b8.1 hT;have C:=M y;rw[J]at C;have nf:=C.xe E.inv S hp;obtain⟨Dh,⟨A,cc,q1,q2,q3,q4,q5⟩,_⟩:=nf;exact gx k8 E cJ (v:= .int .i64 R) (by rw[YU c hc h1 h2 F,q1];simp [Builtin.len_,run_underlying (ld hT).1,goInt]) (.d (.v _)) hK
     ·cases B
    ·cases B
   ·cases B
  next hc=>
   split at B
   ·next y z T b h1 h2=>
    split at B
    ·next e k pU cM ys L' iK hT hU=>
     split at B
     ·next z0 dy hz rm=>
      obtain⟨H,B⟩:=ap2 B;rw[Zr,Ua,dS]at H;obtain⟨gD,lP⟩:=H;obtain⟨gO,hJ⟩:=ld hT;obtain⟨inf,i1,i2,i3⟩:=Uy hJ rm;have HL:inf.zero=some z0:=by
       obtain⟨i',j1,j2⟩:=Mp hz;rw[i1]at j1;cases j1;exact j2
      have kR:z0.cells.size=k:=by rw[<-ZB];exact lP
      obtain⟨eU,kU⟩:=pU;split at B
      ·next n' oo R L k1 J=>
       split at B
       ·next e4 k2 cs S=>
        obtain⟨H,W⟩:=nL B;cases W
        simp only[Zr,Ua]at H;obtain⟨⟨rfl,rfl⟩,rfl⟩:=H;obtain⟨hL,x6,rfl,tb⟩:=hp;obtain⟨us,hr,Gt⟩:=Tk (tx:=b) E.inv (M z) x6 gD (ld hU).1;have C:=M y;rw[J]at C;obtain⟨u,w',G',r1,r2,r3,r4,r5⟩:=anJ (ty:=o.type) E.inv gO i1 HL i2 i3 kR gD S hL C hr Gt tb;exact nr k8 E cJ (by rw[G5 c hc h1 h2 F,r1];rfl) r2 r3 r4 r5 hK
       ·cases B
      ·next J=>
       cases B
       obtain⟨x6,rfl,rfl,rfl,l7,n6⟩:=hp;obtain⟨us,hr,Gt⟩:=Tk (tx:=b) E.inv (M z) x6 gD (ld hU).1;have C:=M y;rw[J]at C;have ev:=C.val;obtain⟨u,w',G',r1,r2,r3,r4,r5⟩:=YK (ty:=o.type) (A:=none) E.inv gO i1 HL i2 i3 kR gD hr Gt l7 n6;exact nr k8 E cJ (by rw[G5 c hc h1 h2 F,ev,r1];rfl) r2 r3 r4 r5 hK
      ·next xs J=>
       cases B
       obtain⟨rfl,x6,rfl,rfl,rfl,l7,n6⟩:=hp;obtain⟨us,hr,Gt⟩:=Tk (tx:=b) E.inv (M z) x6 gD (ld hU).1;have C:=M y;rw[J]at C;obtain⟨A,eA⟩:∃A,a.eval y= .slice A 0 0:=by
        generalize a.eval y=u at C;cases C with|full _ _ hf=>exact hf
       obtain⟨u,w',G',r1,r2,r3,r4,r5⟩:=YK (ty:=o.type) (A:=A) E.inv gO i1 HL i2 i3 kR gD hr Gt l7 n6;exact nr k8 E cJ (by rw[G5 c hc h1 h2 F,eA,r1];rfl) r2 r3 r4 r5 hK
      ·cases B
     ·cases B
    ·cases B
   ·cases B
  next=>cases B
 next=>cases B
def aj3(j:dx G w a s)(m:N0<=G.N)(h:IM P o K s):o.wpIn (WF r) n P a w (jw N0 G w K) Q:=by
 have p:=j.ev;unfold IM at h;split at h
 ·next i T x y f l=>
  split at h
  ·next q J t z L M R B C=>
   obtain⟨e,k⟩:=J;have S:=(ld R).1;have E:=p y;rw[M]at E;have F:=E.val;obtain⟨A,b,oo,c,k',u,H,W,_,_,_,_,_⟩:=((p x).list L).sM;have hg:(eqGuard i T x y (a.eval x) (a.eval y)).run P w= .ok () w:=by rw[H,F];unfold eqGuard;cases i<;>simp
   have eI:(binOp i T (a.eval x) (a.eval y)).run P w= .ok (if A.isNone then t else z) w:=by
    rw[H,F];have hq:=run_equal_slice_nil (P:=P) (w:=w) T e A q.length c S;cases i<;>simp [Az]at B C<;>subst B<;>subst C<;>simp [binOp,hq]<;>cases A<;>rfl
   have g:(execOp a.eval o).run P w= .ok (.value (if A.isNone then t else z)) w:=by
    unfold execOp;simp only[l];rw[Sem.run_bind,Sem.run_bind,hg];simp only[Result.andThen_ok];rw[eI];rfl
   cases A with
   |none=>
    have mQ:q=[]:=Classical.byContradiction λcX=>by have:=W cX;cases this
    exact gx (by rw[l];simp) j m g (.d (.v _)) (h.1 mQ)
   |some ad=>exact gx (by rw[l];simp) j m g (.d (.v _)) h.2
  ·exact h.elim
 ·exact h.elim
def TO(b:dx G w a s)(c:N0<=G.N)(h:akD P o K s):o.wpIn (WF r) n P a w (jw N0 G w K) Q:=by
 rcases h with h|h|h
 ·exact Y8 b c h
 ·exact aj3 b c h
 ·exact XV b c h
end
end Go.Proofs.YtnnapanbbbcalaaGreatDoor
